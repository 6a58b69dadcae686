-- Written by the program wip/tools/pr.py of this claim's session, over the kit's print.py.
import Derived.Test.YtpnhlccdhflogaaQx0
import Derived.Test.YtpnhlccdhflogaaQx1
namespace Go.Proofs.Ytpnhlccdhflogaa.Q
open Go.RowKit Go.Proofs.YtpnhlccdhflogaaW.PrintWords Go.Proofs.YtpnhlccdhflogaaW.PrintLast Go.Proofs.YtpnhlccdhflogaaW.PrintMore
attribute [local go_sem] max2_int min2_int max_two min_two max_three min_three max_four min_four   -- for this text's walks alone
set_option linter.unusedVariables false
set_option linter.unusedSimpArgs false

/-! ### spec_l11Chains: function 57 -/
mutual
def spec_l11Chains.l0 : Nat → Int → List (S48) → List (List Int) → Int → Int → Option ((List (List Int)))
 | 0, _, _, _, _, _ => none
 | k + 1, x0, x1, x5, x21, x22 => if x22 < x21 then (if 0 ≤ x22 then (if x22 < (x5.length : Int) then (spec_l11Chains.l0 k x0 x1 (x5.set (x22 : Int).toNat (([x22] : List Int))) x21 (wrap64 (x22 + 1))) else (none)) else (none)) else ((spec_l11By.f k x1).bind fun t156 => (spec_l11Chains.l1 k x0 x5 t156 (t156.length : Int) 0))
def spec_l11Chains.l1 : Nat → Int → List (List Int) → List (S48) → Int → Int → Option ((List (List Int)))
 | 0, _, _, _, _, _ => none
 | k + 1, x0, x5, x32, x33, x34 => if x34 < x33 then (if 0 ≤ x34 then (if x34 < (x32.length : Int) then (spec_l11Chains.l2 k x0 x5 (-1) (-1) x32 x33 x34 x5 (x5.length : Int) 0 ((rd_T48 x32 x34).f0) ((rd_T48 x32 x34).f1) ((rd_T48 x32 x34).f2)) else (none)) else (none)) else (spec_l11Chains.l3 k x0 x5 ([] : List (List Int)) 0)
def spec_l11Chains.l2 : Nat → Int → List (List Int) → Int → Int → List (S48) → Int → Int → List (List Int) → Int → Int → Int → Int → Int → Option ((List (List Int)))
 | 0, _, _, _, _, _, _, _, _, _, _, _, _, _ => none
 | k + 1, x0, x5, x9, x10, x32, x33, x34, x38, x39, x40, x161000, x161001, x161002 => if x40 < x39 then (if 0 ≤ x40 then (if x40 < (x38.length : Int) then (if ((rd_L5 x38 x40).length : Int) > 0 then (if 0 ≤ (wrap64 (((rd_L5 x38 x40).length : Int) - 1)) then (if (wrap64 (((rd_L5 x38 x40).length : Int) - 1)) < ((rd_L5 x38 x40).length : Int) then (if (rd (rd_L5 x38 x40) (wrap64 (((rd_L5 x38 x40).length : Int) - 1))) = x161000 then (if 0 < ((rd_L5 x38 x40).length : Int) then (if (rd (rd_L5 x38 x40) 0) = x161001 then (spec_l11Chains.l2 k x0 x5 x40 x40 x32 x33 x34 x38 x39 (wrap64 (x40 + 1)) x161000 x161001 x161002) else (spec_l11Chains.l2 k x0 x5 x40 x10 x32 x33 x34 x38 x39 (wrap64 (x40 + 1)) x161000 x161001 x161002)) else (none)) else (if 0 < ((rd_L5 x38 x40).length : Int) then (if (rd (rd_L5 x38 x40) 0) = x161001 then (spec_l11Chains.l2 k x0 x5 x9 x40 x32 x33 x34 x38 x39 (wrap64 (x40 + 1)) x161000 x161001 x161002) else (spec_l11Chains.l2 k x0 x5 x9 x10 x32 x33 x34 x38 x39 (wrap64 (x40 + 1)) x161000 x161001 x161002)) else (none))) else (none)) else (none)) else (spec_l11Chains.l2 k x0 x5 x9 x10 x32 x33 x34 x38 x39 (wrap64 (x40 + 1)) x161000 x161001 x161002)) else (none)) else (none)) else (if x161001 = 0 then (spec_l11Chains.l1 k x0 x5 x32 x33 (wrap64 (x34 + 1))) else (if x9 < 0 then (spec_l11Chains.l1 k x0 x5 x32 x33 (wrap64 (x34 + 1))) else (if x10 < 0 then (spec_l11Chains.l1 k x0 x5 x32 x33 (wrap64 (x34 + 1))) else (if x9 = x10 then (spec_l11Chains.l1 k x0 x5 x32 x33 (wrap64 (x34 + 1))) else (if 0 ≤ x10 then (if x10 < (x5.length : Int) then ((some (([] : List Int) : List Int)).bind fun y166 => (if 0 ≤ x9 then (if x9 < (x5.length : Int) then (if y166.length + (rd_L5 x5 x9).length < 17592186044416 then ((some (y166 ++ (rd_L5 x5 x9) : List Int)).bind fun y170 => (if y170.length + (rd_L5 x5 x10).length < 17592186044416 then (spec_l11Chains.l1 k x0 ((x5.set (x9 : Int).toNat (y170 ++ (rd_L5 x5 x10))).set (x10 : Int).toNat ([] : List Int)) x32 x33 (wrap64 (x34 + 1))) else (none))) else (none)) else (none)) else (none))) else (none)) else (none))))))
def spec_l11Chains.l3 : Nat → Int → List (List Int) → List (List Int) → Int → Option ((List (List Int)))
 | 0, _, _, _, _ => none
 | k + 1, x0, x5, x14, x15 => if x15 < x0 then (spec_l11Chains.l4 k x0 x5 x14 x15 x5 (x5.length : Int) 0) else (some x14)
def spec_l11Chains.l4 : Nat → Int → List (List Int) → List (List Int) → Int → List (List Int) → Int → Int → Option ((List (List Int)))
 | 0, _, _, _, _, _, _, _ => none
 | k + 1, x0, x5, x14, x15, x113, x114, x115 => if x115 < x114 then (if 0 ≤ x115 then (if x115 < (x113.length : Int) then (if ((rd_L5 x113 x115).length : Int) > 0 then (if 0 < ((rd_L5 x113 x115).length : Int) then (if (rd (rd_L5 x113 x115) 0) = x15 then (if x14.length < 5864062014805 then (spec_l11Chains.l4 k x0 x5 (x14 ++ [rd_L5 x113 x115]) x15 x113 x114 (wrap64 (x115 + 1))) else (none)) else (spec_l11Chains.l4 k x0 x5 x14 x15 x113 x114 (wrap64 (x115 + 1)))) else (none)) else (spec_l11Chains.l4 k x0 x5 x14 x15 x113 x114 (wrap64 (x115 + 1)))) else (none)) else (none)) else (spec_l11Chains.l3 k x0 x5 x14 (wrap64 (x15 + 1)))
end
def spec_l11Chains.f (k : Nat) (a0 : Int) (l1 : List (S48)) : Option ((List (List Int))) := if 0 ≤ a0 then (if (a0 : Int).toNat ≤ 11728124029610 then ((some (List.replicate (a0 : Int).toNat [] : List (List Int))).bind fun y149 => (spec_l11Chains.l0 k a0 l1 y149 (y149.length : Int) 0)) else (none)) else (none)
theorem spec_l11Chains.mono_l : ∀ k, (∀ y0 y1 y2 y3 y4, LeO (spec_l11Chains.l0 k y0 y1 y2 y3 y4) (spec_l11Chains.l0 (k + 1) y0 y1 y2 y3 y4)) ∧ (∀ y0 y1 y2 y3 y4, LeO (spec_l11Chains.l1 k y0 y1 y2 y3 y4) (spec_l11Chains.l1 (k + 1) y0 y1 y2 y3 y4)) ∧ (∀ y0 y1 y2 y3 y4 y5 y6 y7 y8 y9 y10 y11 y12, LeO (spec_l11Chains.l2 k y0 y1 y2 y3 y4 y5 y6 y7 y8 y9 y10 y11 y12) (spec_l11Chains.l2 (k + 1) y0 y1 y2 y3 y4 y5 y6 y7 y8 y9 y10 y11 y12)) ∧ (∀ y0 y1 y2 y3, LeO (spec_l11Chains.l3 k y0 y1 y2 y3) (spec_l11Chains.l3 (k + 1) y0 y1 y2 y3)) ∧ (∀ y0 y1 y2 y3 y4 y5 y6, LeO (spec_l11Chains.l4 k y0 y1 y2 y3 y4 y5 y6) (spec_l11Chains.l4 (k + 1) y0 y1 y2 y3 y4 y5 y6))
 | 0 => ⟨fun _ _ _ _ _ r h => by simp [spec_l11Chains.l0] at h, fun _ _ _ _ _ r h => by simp [spec_l11Chains.l1] at h, fun _ _ _ _ _ _ _ _ _ _ _ _ _ r h => by simp [spec_l11Chains.l2] at h, fun _ _ _ _ r h => by simp [spec_l11Chains.l3] at h, fun _ _ _ _ _ _ _ r h => by simp [spec_l11Chains.l4] at h⟩
 | k + 1 => by
  obtain ⟨ih0, ih1, ih2, ih3, ih4⟩ := spec_l11Chains.mono_l k
  refine ⟨?_, ?_, ?_, ?_, ?_⟩
  ·intro y0 y1 y2 y3 y4
   unfold spec_l11Chains.l0
   repeat' first
   | with_reducible apply ih0
   | with_reducible apply ih1
   | with_reducible apply ih2
   | with_reducible apply ih3
   | with_reducible apply ih4
   | with_reducible apply spec_l11By.mono
   | (with_reducible exact LeO.refl _)
   | (with_reducible exact LeO.none _)
   | (with_reducible refine LeO.ite ?_ ?_)
   | (with_reducible refine LeO.bind ?_ (fun _ => ?_))
   | apply ih0
   | apply ih1
   | apply ih2
   | apply ih3
   | apply ih4
   | apply spec_l11By.mono
   | exact LeO.none _
   | refine LeO.ite ?_ ?_
   | refine LeO.bind ?_ (fun _ => ?_)
  ·intro y0 y1 y2 y3 y4
   unfold spec_l11Chains.l1
   repeat' first
   | with_reducible apply ih0
   | with_reducible apply ih1
   | with_reducible apply ih2
   | with_reducible apply ih3
   | with_reducible apply ih4
   | with_reducible apply spec_l11By.mono
   | (with_reducible exact LeO.refl _)
   | (with_reducible exact LeO.none _)
   | (with_reducible refine LeO.ite ?_ ?_)
   | (with_reducible refine LeO.bind ?_ (fun _ => ?_))
   | apply ih0
   | apply ih1
   | apply ih2
   | apply ih3
   | apply ih4
   | apply spec_l11By.mono
   | exact LeO.none _
   | refine LeO.ite ?_ ?_
   | refine LeO.bind ?_ (fun _ => ?_)
  ·intro y0 y1 y2 y3 y4 y5 y6 y7 y8 y9 y10 y11 y12
   unfold spec_l11Chains.l2
   repeat' first
   | with_reducible apply ih0
   | with_reducible apply ih1
   | with_reducible apply ih2
   | with_reducible apply ih3
   | with_reducible apply ih4
   | with_reducible apply spec_l11By.mono
   | (with_reducible exact LeO.refl _)
   | (with_reducible exact LeO.none _)
   | (with_reducible refine LeO.ite ?_ ?_)
   | (with_reducible refine LeO.bind ?_ (fun _ => ?_))
   | apply ih0
   | apply ih1
   | apply ih2
   | apply ih3
   | apply ih4
   | apply spec_l11By.mono
   | exact LeO.none _
   | refine LeO.ite ?_ ?_
   | refine LeO.bind ?_ (fun _ => ?_)
  ·intro y0 y1 y2 y3
   unfold spec_l11Chains.l3
   repeat' first
   | with_reducible apply ih0
   | with_reducible apply ih1
   | with_reducible apply ih2
   | with_reducible apply ih3
   | with_reducible apply ih4
   | with_reducible apply spec_l11By.mono
   | (with_reducible exact LeO.refl _)
   | (with_reducible exact LeO.none _)
   | (with_reducible refine LeO.ite ?_ ?_)
   | (with_reducible refine LeO.bind ?_ (fun _ => ?_))
   | apply ih0
   | apply ih1
   | apply ih2
   | apply ih3
   | apply ih4
   | apply spec_l11By.mono
   | exact LeO.none _
   | refine LeO.ite ?_ ?_
   | refine LeO.bind ?_ (fun _ => ?_)
  ·intro y0 y1 y2 y3 y4 y5 y6
   unfold spec_l11Chains.l4
   repeat' first
   | with_reducible apply ih0
   | with_reducible apply ih1
   | with_reducible apply ih2
   | with_reducible apply ih3
   | with_reducible apply ih4
   | with_reducible apply spec_l11By.mono
   | (with_reducible exact LeO.refl _)
   | (with_reducible exact LeO.none _)
   | (with_reducible refine LeO.ite ?_ ?_)
   | (with_reducible refine LeO.bind ?_ (fun _ => ?_))
   | apply ih0
   | apply ih1
   | apply ih2
   | apply ih3
   | apply ih4
   | apply spec_l11By.mono
   | exact LeO.none _
   | refine LeO.ite ?_ ?_
   | refine LeO.bind ?_ (fun _ => ?_)
theorem spec_l11Chains.mono : ∀ a0 a1 k, LeO (spec_l11Chains.f k a0 a1) (spec_l11Chains.f (k + 1) a0 a1) := by
 intro a0 a1 k
 obtain ⟨ih0, ih1, ih2, ih3, ih4⟩ := spec_l11Chains.mono_l k
 unfold spec_l11Chains.f
 repeat' first
   | with_reducible apply ih0
   | with_reducible apply ih1
   | with_reducible apply ih2
   | with_reducible apply ih3
   | with_reducible apply ih4
   | with_reducible apply spec_l11By.mono
   | (with_reducible exact LeO.refl _)
   | (with_reducible exact LeO.none _)
   | (with_reducible refine LeO.ite ?_ ?_)
   | (with_reducible refine LeO.bind ?_ (fun _ => ?_))
   | apply ih0
   | apply ih1
   | apply ih2
   | apply ih3
   | apply ih4
   | apply spec_l11By.mono
   | exact LeO.none _
   | refine LeO.ite ?_ ?_
   | refine LeO.bind ?_ (fun _ => ?_)
set_option maxHeartbeats 8000000 in
set_option maxRecDepth 100000 in
theorem spec_l11Chains.calls (k : Nat) (a0 : Int) (A1 : Option Addr) (c1 : Nat) (l1 : List (S48)) (r : List (List Int)) (w : World) (hr1 : Kd.C k48 w A1 l1.length l1) (hc1 : l1.length ≤ c1) (h : spec_l11Chains.f k a0 l1 = some r) :
  Calls Try.prog 57 #[.int .i64 a0, .slice A1 l1.length c1] w fun e w' => ∃ v0_ : Value, e = .returned (v0_) ∧ Kd.N (Kd.slice 3 (Kd.int .i64)) 34 w' w.heap.size (fun k_ => (w.heap.size ≤ k_)) v0_ r ∧ Below w.heap.size w w' := by
 have hu48 := Try.underlying48
 have HR1 := Aside0.mk hr1
 have HC1 := Aside0.mk hc1
 clear hr1 hc1
 have HB := Aside0.mk (Below.refl w.heap.size w)
 have H : (if 0 ≤ a0 then (if (a0 : Int).toNat ≤ 11728124029610 then ((some (List.replicate (a0 : Int).toNat [] : List (List Int))).bind fun y149 => (spec_l11Chains.l0 k a0 l1 y149 (y149.length : Int) 0)) else (none)) else (none)) = some r := h
 clear h
 by_cases c3 : 0 ≤ a0
 ·rw [if_pos c3] at H
  have c3b0 := eq_true c3
  have c3b1 : decide (0 ≤ a0) = true := decide_eq_true c3
  clear c3
  by_cases c4 : (a0 : Int).toNat ≤ 11728124029610
  ·rw [if_pos c4] at H
   have c4b0 := eq_true c4
   have c4b1 : decide ((a0 : Int).toNat ≤ 11728124029610) = true := decide_eq_true c4
   clear c4
   obtain ⟨y149, hy149⟩ : ∃ y_ : List (List Int), y_ = (List.replicate (a0 : Int).toNat []) := ⟨_, rfl⟩
   replace H : (spec_l11Chains.l0 k a0 l1 y149 (y149.length : Int) 0) = some r := by first | (rw [hy149]; with_reducible exact H) | (have H2_ := (Option.bind_some _ _).symm.trans H; rw [hy149]; with_reducible exact H2_) | (have H2_ := (Option.bind_some _ _).symm.trans H; with_reducible exact H2_) | with_reducible exact H | (rw [hy149]; exact H) | exact H
   have Ny149 := Aside0.mk hy149
   clear hy149
   have H' := Aside0.mk H
   clear H
   go_enter Try.func57, Try.ntmps57
   go_wp2_with (first | ((with_reducible refine gate_dst (N := 19) rfl ?_); (try (refine gate_guard (by rfl) ?_; dsimp only)); refine Kd.N_make (Kd.slice 3 (Kd.int .i64)) _ 34 rfl (N' := 19) rfl 24 _ _ rfl a0 rfl rfl Try.underlying24 (.slice none 0 0) 24 info34 rfl (by decide) (by omega) [] (ok := fun k_ => w.heap.size ≤ k_) (okp := fun _ => False) (Kd.FK_slice_mk (Nat.le_refl _) (Kd.F_nil _ _ _)) (fun _ hk => hk.elim) (Nat.le_refl _) (lD) (Nat.le_trans (Nat.mul_le_mul_right _ (lD : a0.toNat ≤ 11728124029610)) (by omega)) (Below.refl _ _) (Nat.le_refl _) ?_; intro v150 w5 ho6 hb hg_ hnew_; clear hg_ hnew_; (first | rw [← Ny149.out] at ho6 | (simp only [Int.reduceToNat] at ho6; rw [← Ny149.out] at ho6)); have n0_ := Aside0.mk (Kd.N_lower (Kd.N_mono (ok' := fun k_ => (w.heap.size ≤ k_)) ho6 (fun k_ hk_ => (Nat.le_trans (below_size lB) hk_))) (below_size lB)); have n1_ := Aside0.mk (below_step lB hb); clear HB; have HO151 := n0_; have HB := n1_; clear n0_ n1_; clear hb ho6; obtain ⟨Ao7, co7, eo7⟩ := Kd.N_slice HO151.out; subst eo7))
   repeat (go_quiet (fail); try go_wp2_with (first | ((with_reducible refine gate_dst (N := 19) rfl ?_); (try (refine gate_guard (by rfl) ?_; dsimp only)); refine Kd.N_make (Kd.slice 3 (Kd.int .i64)) _ 34 rfl (N' := 19) rfl 24 _ _ rfl a0 rfl rfl Try.underlying24 (.slice none 0 0) 24 info34 rfl (by decide) (by omega) [] (ok := fun k_ => w.heap.size ≤ k_) (okp := fun _ => False) (Kd.FK_slice_mk (Nat.le_refl _) (Kd.F_nil _ _ _)) (fun _ hk => hk.elim) (Nat.le_refl _) (lD) (Nat.le_trans (Nat.mul_le_mul_right _ (lD : a0.toNat ≤ 11728124029610)) (by omega)) (Below.refl _ _) (Nat.le_refl _) ?_; intro v150 w5 ho6 hb hg_ hnew_; clear hg_ hnew_; (first | rw [← Ny149.out] at ho6 | (simp only [Int.reduceToNat] at ho6; rw [← Ny149.out] at ho6)); have n0_ := Aside0.mk (Kd.N_lower (Kd.N_mono (ok' := fun k_ => (w.heap.size ≤ k_)) ho6 (fun k_ hk_ => (Nat.le_trans (below_size lB) hk_))) (below_size lB)); have n1_ := Aside0.mk (below_step lB hb); clear HB; have HO151 := n0_; have HB := n1_; clear n0_ n1_; clear hb ho6; obtain ⟨Ao7, co7, eo7⟩ := Kd.N_slice HO151.out; subst eo7)))
   go_loopg [22] k (fun kq v22 w' => ∃ (x5_1 : List (List Int)) (x22_1 : Int), v22 = .int .i64 x22_1 ∧ Aside0 (spec_l11Chains.l0 kq a0 l1 x5_1 (y149.length : Int) x22_1 = some r) ∧ Aside0 (kq ≤ k) ∧ Aside0 (Kd.N (Kd.slice 3 (Kd.int .i64)) 34 w' w.heap.size (fun k_ => (w.heap.size ≤ k_)) (.slice Ao7 y149.length co7) x5_1) ∧ Aside0 (Below w.heap.size w w'))
   case atStart => exact ⟨(y149), (0), lF, H', ⟨Nat.le_refl _⟩, ⟨by (with_reducible repeat (first | apply Kd.N_alloc | apply Kd.N_drewN | apply Kd.N_drew)); exact HO151.out⟩, ⟨lB⟩⟩
   case round =>
    clear H'
    try clear c1
    try clear p2
    try clear c3
    try clear c3b0
    try clear c3b1
    try clear c4
    try clear c4b0
    try clear c4b1
    try clear c5
    obtain ⟨x5_1, x22_1, rfl, HA, HK1, HO_5, HB⟩ := hrel
    have hl5_1 := (Kd.N_reads' HO_5.out).1
    rw [hl5_1] at HO_5
    (try simp only [hl5_1])
    cases gk with
    | zero => exact absurd HA.out (by simp [spec_l11Chains.l0])
    | succ k1 =>
     have H := HA.out
     clear HA
     simp only [spec_l11Chains.l0] at H
     by_cases c8 : x22_1 < (y149.length : Int)
     ·rw [if_pos c8] at H
      have c8b0 : decide (x22_1 < (y149.length : Int)) = true := decide_eq_true c8
      (try simp only [hl5_1] at c8b0)
      clear c8
      obtain ⟨y152, hy152⟩ : ∃ y_ : List Int, y_ = (([x22_1] : List Int)) := ⟨_, rfl⟩
      replace H : (if 0 ≤ x22_1 then (if x22_1 < (x5_1.length : Int) then (spec_l11Chains.l0 k1 a0 l1 (x5_1.set (x22_1 : Int).toNat y152) (y149.length : Int) (wrap64 (x22_1 + 1))) else (none)) else (none)) = some r := by first | (rw [hy152]; with_reducible exact H) | (have H2_ := (Option.bind_some _ _).symm.trans H; rw [hy152]; with_reducible exact H2_) | (have H2_ := (Option.bind_some _ _).symm.trans H; with_reducible exact H2_) | with_reducible exact H | (rw [hy152]; exact H) | exact H
      have Ny152 := Aside0.mk hy152
      clear hy152
      by_cases c9 : 0 ≤ x22_1
      ·rw [if_pos c9] at H
       have c9b0 : decide (0 ≤ x22_1) = true := decide_eq_true c9
       clear c9
       by_cases c10 : x22_1 < (x5_1.length : Int)
       ·rw [if_pos c10] at H
        have c10b0 : decide (x22_1 < (x5_1.length : Int)) = true := decide_eq_true c10
        (try simp only [hl5_1] at c10b0)
        clear c10
        obtain ⟨y155, hy155⟩ : ∃ y_ : List (List Int), y_ = (x5_1.set (x22_1 : Int).toNat y152) := ⟨_, rfl⟩
        replace H : (spec_l11Chains.l0 k1 a0 l1 y155 (y149.length : Int) (wrap64 (x22_1 + 1))) = some r := by first | (rw [hy155]; with_reducible exact H) | (have H2_ := (Option.bind_some _ _).symm.trans H; rw [hy155]; with_reducible exact H2_) | (have H2_ := (Option.bind_some _ _).symm.trans H; with_reducible exact H2_) | with_reducible exact H | (rw [hy155]; exact H) | exact H
        have Ny155 := Aside0.mk hy155
        clear hy155
        have H' := Aside0.mk H
        clear H
        go_wp2_with (first | ((with_reducible refine gate_dst (N := 28) rfl ?_); (try (refine gate_guard (by rfl) ?_; dsimp only)); refine Kd.R_lit (Kd.int .i64) _ 3 ?hg (N := 28) ?hd (xs := ([x22_1] : List Int)) (inner := [.int .i64 x22_1]) (ok := fun _ => True) (okp := fun _ => True) ?hr ?hp (fun _ hk => hk) trivial (Below.refl _ _) (Nat.le_refl _) (by simp) ?_; (case hd => rfl); (case hg => rfl); (case hr => first | (go_simp; done) | (go_simp; rfl)); (case hp => exact (Reps.one (show Kd.M (Kd.int .i64) _ _ _ x22_1 [.int .i64 x22_1] from rfl) (Reps.none _ _))); intro v153 w12 ho13 hb hg_ hnew_; clear hg_ hnew_; (first | rw [← Ny152.out] at ho13 | (simp only [Int.reduceToNat] at ho13; rw [← Ny152.out] at ho13)); have n0_ := Aside0.mk (Kd.N_elder' (by (with_reducible repeat (first | apply Kd.N_alloc | apply Kd.N_drewN | apply Kd.N_drew)); exact HO_5.out) (Kd.R_base ho13) hb); have n1_ := Aside0.mk (Kd.R_lower (Kd.R_newM (M := fun k_ => (w.heap.size ≤ k_)) ho13 (below_size lB) (fun k_ h_ => h_)) (below_size lB)); have n2_ := Aside0.mk (below_step lB hb); clear HO_5; clear HB; have HO_5 := n0_; have HO154 := n1_; have HB := n2_; clear n0_ n1_ n2_; clear hb ho13; have p11 : 0 ≤ (x22_1 : Int) := lD; have q11 : (x22_1 : Int) < ((x5_1.length : Int) : Int) := lD; obtain ⟨go11, co11, eo11, gb11, gl11, cl11, HG11⟩ := Kd.N_form HO_5.out (by omega); (first | cases eo11 | (injection eo11 with ea_ en_ ec_; (first | subst ea_ | (injection ea_ with ea_; subst ea_)); subst ec_; clear en_)); have GB11 := Aside0.mk gb11; have GG11 := Aside0.mk HG11; clear gb11 gl11 HG11; obtain ⟨ce11, hcl11, hM11, hcc11, hfr11⟩ := Kd.N_elem HO_5.out [] (x22_1 : Int) p11 q11; obtain ⟨ua11_0, uc11_0, rfl, ul11_0, ge11_0⟩ := Kd.FK_slice_open hM11; have hx11_0 := hcc11 0 _ rfl; have hf11_0 := hfr11 0; (try simp only [show ((Kd.slice 3 (Kd.int .i64))).sz = 1 from rfl, Nat.mul_one, Nat.add_zero] at hx11_0); (try simp only [show ((Kd.slice 3 (Kd.int .i64))).sz = 1 from rfl, Nat.mul_one, Nat.add_zero] at hf11_0); clear hcl11 hcc11 hfr11; (try clear hM11); replace p11 := eq_true p11; replace q11 := eq_true q11; have HX14 := Aside0.mk (show Kd.N (Kd.slice 3 (Kd.int .i64)) 34 w12 w.heap.size (fun k_ => (w.heap.size ≤ k_)) (.slice (some ⟨go11, 0, none⟩) x5_1.length co7) x5_1 from (by (with_reducible repeat (first | apply Kd.N_alloc | apply Kd.N_drewN | apply Kd.N_drew)); exact Kd.N_mono HO_5.out (fun _ hk => hk.1))); obtain ⟨ce14, hcl14, hM14, hcc14, hfr14⟩ := Kd.N_elem HX14.out [] (x22_1 : Int) (lD) (by have h_ : (x22_1 : Int) < ((x5_1.length : Int) : Int) := lD; first | exact h_ | (have e_ := (Kd.N_reads' HO_5.out).1; omega) | simpa using h_); obtain ⟨ua14_0, uc14_0, rfl, ul14_0, ge14_0⟩ := Kd.FK_slice_open hM14; obtain ⟨As153, cs153, es153⟩ := Kd.R_slice HO154.out; subst es153; have HP14 := Kd.N_seg HX14.out (x22_1 : Int) (lD) (by have h_ : (x22_1 : Int) < ((x5_1.length : Int) : Int) := lD; first | exact h_ | (have e_ := (Kd.N_reads' HO_5.out).1; omega) | simpa using h_) (seg := [(.slice As153 y152.length cs153)]) (j := 0) hcl14 hcc14 (show 1 ≤ 1 from by decide) (x' := y152) (Kd.FK_slice_mk (Kd.R_reads' (Kd.R_mono (ok' := (fun k_ => ((fun k_ => (w.heap.size ≤ k_))) k_ ∧ k_ ≠ go11)) (Kd.R_apart' (HO154.out) (Kd.N_typed HO_5.out) (by decide)) (fun k_ hk => ⟨hk.1.1, fun e_ => (hk.2) (by rw [e_]; rfl)⟩))).2.1 (Kd.R_F (Kd.R_mono (ok' := (fun k_ => ((fun k_ => (w.heap.size ≤ k_))) k_ ∧ k_ ≠ go11)) (Kd.R_apart' (HO154.out) (Kd.N_typed HO_5.out) (by decide)) (fun k_ hk => ⟨hk.1.1, fun e_ => (hk.2) (by rw [e_]; rfl)⟩)))) (fun _ hk => hk); have hx14_0 := hcc14 0 _ rfl; (try simp only [show ((Kd.slice 3 (Kd.int .i64))).sz = 1 from rfl, Nat.mul_one, Nat.add_zero] at hx14_0); have hf14_0 := hfr14 0; (try simp only [show ((Kd.slice 3 (Kd.int .i64))).sz = 1 from rfl, Nat.mul_one, Nat.add_zero] at hf14_0); clear hcl14 hcc14 hfr14; (try clear hM14); (try simp only [show ((Kd.slice 3 (Kd.int .i64))).sz = 1 from rfl, Nat.mul_one, Nat.add_zero] at HP14); (try simp only [show ((Kd.slice 3 (Kd.int .i64))).sz = 1 from rfl, Nat.mul_one, Nat.add_zero] at HP14)) | ((with_reducible refine gate_store (t := 34) (p := 29) rfl ?_); (try (rw [drewN_self w12]; generalize hq_ : World.drewN w12 _ = w12; have n0_ := Aside0.mk (Kd.N_at hq_ HO_5.out); have n1_ := Aside0.mk (below_at hq_ HB.out); clear hq_ HO_5 HB; have HO_5 := n0_; have HB := n1_; clear n0_ n1_; (try (have HX14 := Aside0.mk (show Kd.N (Kd.slice 3 (Kd.int .i64)) 34 w12 w.heap.size (fun k_ => (w.heap.size ≤ k_)) (.slice (some ⟨go11, 0, none⟩) x5_1.length co7) x5_1 from (by (with_reducible repeat (first | apply Kd.N_alloc | apply Kd.N_drewN | apply Kd.N_drew)); exact Kd.N_mono HO_5.out (fun _ hk => hk.1))))); (try (obtain ⟨ce14, hcl14, hM14, hcc14, hfr14⟩ := Kd.N_elem HX14.out [] (x22_1 : Int) (lD) (by have h_ : (x22_1 : Int) < ((x5_1.length : Int) : Int) := lD; first | exact h_ | (have e_ := (Kd.N_reads' HO_5.out).1; omega) | simpa using h_))); (try (obtain ⟨ua14_0, uc14_0, rfl, ul14_0, ge14_0⟩ := Kd.FK_slice_open hM14)); (try (have HP14 := Kd.N_seg HX14.out (x22_1 : Int) (lD) (by have h_ : (x22_1 : Int) < ((x5_1.length : Int) : Int) := lD; first | exact h_ | (have e_ := (Kd.N_reads' HO_5.out).1; omega) | simpa using h_) (seg := [(.slice As153 y152.length cs153)]) (j := 0) hcl14 hcc14 (show 1 ≤ 1 from by decide) (x' := y152) (Kd.FK_slice_mk (Kd.R_reads' (Kd.R_mono (ok' := (fun k_ => ((fun k_ => (w.heap.size ≤ k_))) k_ ∧ k_ ≠ go11)) (Kd.R_apart' (HO154.out) (Kd.N_typed HO_5.out) (by decide)) (fun k_ hk => ⟨hk.1.1, fun e_ => (hk.2) (by rw [e_]; rfl)⟩))).2.1 (Kd.R_F (Kd.R_mono (ok' := (fun k_ => ((fun k_ => (w.heap.size ≤ k_))) k_ ∧ k_ ≠ go11)) (Kd.R_apart' (HO154.out) (Kd.N_typed HO_5.out) (by decide)) (fun k_ hk => ⟨hk.1.1, fun e_ => (hk.2) (by rw [e_]; rfl)⟩)))) (fun _ hk => hk))); (try (have hx14_0 := hcc14 0 _ rfl)); (try (try simp only [show ((Kd.slice 3 (Kd.int .i64))).sz = 1 from rfl, Nat.mul_one, Nat.add_zero] at hx14_0)); (try (have hf14_0 := hfr14 0)); (try (try simp only [show ((Kd.slice 3 (Kd.int .i64))).sz = 1 from rfl, Nat.mul_one, Nat.add_zero] at hf14_0)); (try (clear hcl14 hcc14 hfr14; (try clear hM14))); (try (try simp only [show ((Kd.slice 3 (Kd.int .i64))).sz = 1 from rfl, Nat.mul_one, Nat.add_zero] at HP14)); (try (try simp only [show ((Kd.slice 3 (Kd.int .i64))).sz = 1 from rfl, Nat.mul_one, Nat.add_zero] at HP14)))); (try have o1_HO154 := (Kd.R_val HO154.out).2); (try have o1_HO_5 := (Kd.R_val HO_5.out).2); refine store_event (t := 34) (p := 29) (v := ?vo_w15) (w1 := (w12.setCell ⟨go11, (x22_1 : Int).toNat, none⟩ ((.slice As153 y152.length cs153)))) ?hg ?ho ?hn ?hr ?_; (case ho => rfl); (case hg => rfl); (case hn => rfl); (case hr => first | (go_simp; done) | (go_simp; rfl) | (obtain ⟨A_, c_, e_⟩ := Kd.R_slice HO154.out; subst e_; first | (go_simp; done) | (go_simp; rfl)) | (obtain ⟨A_, c_, e_⟩ := Kd.R_slice HO_5.out; subst e_; first | (go_simp; done) | (go_simp; rfl)) | (go_simp; repeat (rw [run_store _ _ _ _ _ (by assumption)]; go_simp))); intro w15 hw; have hg : w12.grownBy w15 (some go11) := (by rw [hw]; exact HP14.2); have hp_ : Kd.N (Kd.slice 3 (Kd.int .i64)) 34 w15 w.heap.size (fun k_ => (w.heap.size ≤ k_)) (.slice (some ⟨go11, 0, none⟩) x5_1.length co7) y155 := (by rw [hw, Ny155.out]; exact HP14.1); clear HP14; have n0_ := Aside0.mk (hp_); have n1_ := Aside0.mk ((by rw [hw]; exact below_set (HB.out) GB11.out : Below w.heap.size w w15)); clear HO_5; clear HB; clear HO154; have HO_5 := n0_; have HB := n1_; clear n0_ n1_; clear hg hw hp_))
        repeat (go_quiet (fail); try go_wp2_with (first | ((with_reducible refine gate_dst (N := 28) rfl ?_); (try (refine gate_guard (by rfl) ?_; dsimp only)); refine Kd.R_lit (Kd.int .i64) _ 3 ?hg (N := 28) ?hd (xs := ([x22_1] : List Int)) (inner := [.int .i64 x22_1]) (ok := fun _ => True) (okp := fun _ => True) ?hr ?hp (fun _ hk => hk) trivial (Below.refl _ _) (Nat.le_refl _) (by simp) ?_; (case hd => rfl); (case hg => rfl); (case hr => first | (go_simp; done) | (go_simp; rfl)); (case hp => exact (Reps.one (show Kd.M (Kd.int .i64) _ _ _ x22_1 [.int .i64 x22_1] from rfl) (Reps.none _ _))); intro (.slice As153 y152.length cs153) w12 ho13 hb hg_ hnew_; clear hg_ hnew_; (first | rw [← Ny152.out] at ho13 | (simp only [Int.reduceToNat] at ho13; rw [← Ny152.out] at ho13)); have n0_ := Aside0.mk (Kd.N_elder' (by (with_reducible repeat (first | apply Kd.N_alloc | apply Kd.N_drewN | apply Kd.N_drew)); exact HO_5.out) (Kd.R_base ho13) hb); have n1_ := Aside0.mk (Kd.R_lower (Kd.R_newM (M := fun k_ => (w.heap.size ≤ k_)) ho13 (below_size lB) (fun k_ h_ => h_)) (below_size lB)); have n2_ := Aside0.mk (below_step lB hb); clear HO_5; clear HB; have HO_5 := n0_; have HO154 := n1_; have HB := n2_; clear n0_ n1_ n2_; clear hb ho13; have p11 : 0 ≤ (x22_1 : Int) := lD; have q11 : (x22_1 : Int) < ((x5_1.length : Int) : Int) := lD; obtain ⟨go11, co11, eo11, gb11, gl11, cl11, HG11⟩ := Kd.N_form HO_5.out (by omega); (first | cases eo11 | (injection eo11 with ea_ en_ ec_; (first | subst ea_ | (injection ea_ with ea_; subst ea_)); subst ec_; clear en_)); have GB11 := Aside0.mk gb11; have GG11 := Aside0.mk HG11; clear gb11 gl11 HG11; obtain ⟨ce11, hcl11, hM11, hcc11, hfr11⟩ := Kd.N_elem HO_5.out [] (x22_1 : Int) p11 q11; obtain ⟨ua11_0, uc11_0, rfl, ul11_0, ge11_0⟩ := Kd.FK_slice_open hM11; have hx11_0 := hcc11 0 _ rfl; have hf11_0 := hfr11 0; (try simp only [show ((Kd.slice 3 (Kd.int .i64))).sz = 1 from rfl, Nat.mul_one, Nat.add_zero] at hx11_0); (try simp only [show ((Kd.slice 3 (Kd.int .i64))).sz = 1 from rfl, Nat.mul_one, Nat.add_zero] at hf11_0); clear hcl11 hcc11 hfr11; (try clear hM11); replace p11 := eq_true p11; replace q11 := eq_true q11; have HX14 := Aside0.mk (show Kd.N (Kd.slice 3 (Kd.int .i64)) 34 w12 w.heap.size (fun k_ => (w.heap.size ≤ k_)) (.slice (some ⟨go11, 0, none⟩) x5_1.length co7) x5_1 from (by (with_reducible repeat (first | apply Kd.N_alloc | apply Kd.N_drewN | apply Kd.N_drew)); exact Kd.N_mono HO_5.out (fun _ hk => hk.1))); obtain ⟨ce14, hcl14, hM14, hcc14, hfr14⟩ := Kd.N_elem HX14.out [] (x22_1 : Int) (lD) (by have h_ : (x22_1 : Int) < ((x5_1.length : Int) : Int) := lD; first | exact h_ | (have e_ := (Kd.N_reads' HO_5.out).1; omega) | simpa using h_); obtain ⟨ua14_0, uc14_0, rfl, ul14_0, ge14_0⟩ := Kd.FK_slice_open hM14; have HP14 := Kd.N_seg HX14.out (x22_1 : Int) (lD) (by have h_ : (x22_1 : Int) < ((x5_1.length : Int) : Int) := lD; first | exact h_ | (have e_ := (Kd.N_reads' HO_5.out).1; omega) | simpa using h_) (seg := [(.slice As153 y152.length cs153)]) (j := 0) hcl14 hcc14 (show 1 ≤ 1 from by decide) (x' := y152) (Kd.FK_slice_mk (Kd.R_reads' (Kd.R_mono (ok' := (fun k_ => ((fun k_ => (w.heap.size ≤ k_))) k_ ∧ k_ ≠ go11)) (Kd.R_apart' (HO154.out) (Kd.N_typed HO_5.out) (by decide)) (fun k_ hk => ⟨hk.1.1, fun e_ => (hk.2) (by rw [e_]; rfl)⟩))).2.1 (Kd.R_F (Kd.R_mono (ok' := (fun k_ => ((fun k_ => (w.heap.size ≤ k_))) k_ ∧ k_ ≠ go11)) (Kd.R_apart' (HO154.out) (Kd.N_typed HO_5.out) (by decide)) (fun k_ hk => ⟨hk.1.1, fun e_ => (hk.2) (by rw [e_]; rfl)⟩)))) (fun _ hk => hk); have hx14_0 := hcc14 0 _ rfl; (try simp only [show ((Kd.slice 3 (Kd.int .i64))).sz = 1 from rfl, Nat.mul_one, Nat.add_zero] at hx14_0); have hf14_0 := hfr14 0; (try simp only [show ((Kd.slice 3 (Kd.int .i64))).sz = 1 from rfl, Nat.mul_one, Nat.add_zero] at hf14_0); clear hcl14 hcc14 hfr14; (try clear hM14); (try simp only [show ((Kd.slice 3 (Kd.int .i64))).sz = 1 from rfl, Nat.mul_one, Nat.add_zero] at HP14); (try simp only [show ((Kd.slice 3 (Kd.int .i64))).sz = 1 from rfl, Nat.mul_one, Nat.add_zero] at HP14)) | ((with_reducible refine gate_store (t := 34) (p := 29) rfl ?_); (try (rw [drewN_self w12]; generalize hq_ : World.drewN w12 _ = w12; have n0_ := Aside0.mk (Kd.N_at hq_ HO_5.out); have n1_ := Aside0.mk (below_at hq_ HB.out); clear hq_ HO_5 HB; have HO_5 := n0_; have HB := n1_; clear n0_ n1_; (try (have HX14 := Aside0.mk (show Kd.N (Kd.slice 3 (Kd.int .i64)) 34 w12 w.heap.size (fun k_ => (w.heap.size ≤ k_)) (.slice (some ⟨go11, 0, none⟩) x5_1.length co7) x5_1 from (by (with_reducible repeat (first | apply Kd.N_alloc | apply Kd.N_drewN | apply Kd.N_drew)); exact Kd.N_mono HO_5.out (fun _ hk => hk.1))))); (try (obtain ⟨ce14, hcl14, hM14, hcc14, hfr14⟩ := Kd.N_elem HX14.out [] (x22_1 : Int) (lD) (by have h_ : (x22_1 : Int) < ((x5_1.length : Int) : Int) := lD; first | exact h_ | (have e_ := (Kd.N_reads' HO_5.out).1; omega) | simpa using h_))); (try (obtain ⟨ua14_0, uc14_0, rfl, ul14_0, ge14_0⟩ := Kd.FK_slice_open hM14)); (try (have HP14 := Kd.N_seg HX14.out (x22_1 : Int) (lD) (by have h_ : (x22_1 : Int) < ((x5_1.length : Int) : Int) := lD; first | exact h_ | (have e_ := (Kd.N_reads' HO_5.out).1; omega) | simpa using h_) (seg := [(.slice As153 y152.length cs153)]) (j := 0) hcl14 hcc14 (show 1 ≤ 1 from by decide) (x' := y152) (Kd.FK_slice_mk (Kd.R_reads' (Kd.R_mono (ok' := (fun k_ => ((fun k_ => (w.heap.size ≤ k_))) k_ ∧ k_ ≠ go11)) (Kd.R_apart' (HO154.out) (Kd.N_typed HO_5.out) (by decide)) (fun k_ hk => ⟨hk.1.1, fun e_ => (hk.2) (by rw [e_]; rfl)⟩))).2.1 (Kd.R_F (Kd.R_mono (ok' := (fun k_ => ((fun k_ => (w.heap.size ≤ k_))) k_ ∧ k_ ≠ go11)) (Kd.R_apart' (HO154.out) (Kd.N_typed HO_5.out) (by decide)) (fun k_ hk => ⟨hk.1.1, fun e_ => (hk.2) (by rw [e_]; rfl)⟩)))) (fun _ hk => hk))); (try (have hx14_0 := hcc14 0 _ rfl)); (try (try simp only [show ((Kd.slice 3 (Kd.int .i64))).sz = 1 from rfl, Nat.mul_one, Nat.add_zero] at hx14_0)); (try (have hf14_0 := hfr14 0)); (try (try simp only [show ((Kd.slice 3 (Kd.int .i64))).sz = 1 from rfl, Nat.mul_one, Nat.add_zero] at hf14_0)); (try (clear hcl14 hcc14 hfr14; (try clear hM14))); (try (try simp only [show ((Kd.slice 3 (Kd.int .i64))).sz = 1 from rfl, Nat.mul_one, Nat.add_zero] at HP14)); (try (try simp only [show ((Kd.slice 3 (Kd.int .i64))).sz = 1 from rfl, Nat.mul_one, Nat.add_zero] at HP14)))); (try have o1_HO154 := (Kd.R_val HO154.out).2); (try have o1_HO_5 := (Kd.R_val HO_5.out).2); refine store_event (t := 34) (p := 29) (v := ?vo_w15) (w1 := (w12.setCell ⟨go11, (x22_1 : Int).toNat, none⟩ ((.slice As153 y152.length cs153)))) ?hg ?ho ?hn ?hr ?_; (case ho => rfl); (case hg => rfl); (case hn => rfl); (case hr => first | (go_simp; done) | (go_simp; rfl) | (obtain ⟨A_, c_, e_⟩ := Kd.R_slice HO154.out; subst e_; first | (go_simp; done) | (go_simp; rfl)) | (obtain ⟨A_, c_, e_⟩ := Kd.R_slice HO_5.out; subst e_; first | (go_simp; done) | (go_simp; rfl)) | (go_simp; repeat (rw [run_store _ _ _ _ _ (by assumption)]; go_simp))); intro w15 hw; have hg : w12.grownBy w15 (some go11) := (by rw [hw]; exact HP14.2); have hp_ : Kd.N (Kd.slice 3 (Kd.int .i64)) 34 w15 w.heap.size (fun k_ => (w.heap.size ≤ k_)) (.slice (some ⟨go11, 0, none⟩) x5_1.length co7) y155 := (by rw [hw, Ny155.out]; exact HP14.1); clear HP14; have n0_ := Aside0.mk (hp_); have n1_ := Aside0.mk ((by rw [hw]; exact below_set (HB.out) GB11.out : Below w.heap.size w w15)); clear HO_5; clear HB; clear HO154; have HO_5 := n0_; have HB := n1_; clear n0_ n1_; clear hg hw hp_)))
        (try simp only [← hl5_1])
        go_roundg k1
        case measure => have := HK1.out; omega
        case rel => exact ⟨(y155), (wrap64 (x22_1 + 1)), lF, H', ⟨by have := HK1.out; omega⟩, ⟨by (try simp only [hl5_1]); (with_reducible repeat (first | apply Kd.N_alloc | apply Kd.N_drewN | apply Kd.N_drew)); exact HO_5.out⟩, ⟨lB⟩⟩
       ·rw [if_neg c10] at H
        exact absurd H (by simp)
      ·rw [if_neg c9] at H
       exact absurd H (by simp)
     ·rw [if_neg c8] at H
      have c8b0 : decide (x22_1 < (y149.length : Int)) = false := decide_eq_false c8
      (try simp only [hl5_1] at c8b0)
      clear c8
      replace H := lO H
      obtain ⟨t156, A16, H⟩ := H
      have H' := Aside0.mk H
      clear H
      go_wp2_with (first | (go_at_call 96; (with_reducible refine (spec_l11By.calls k1 _ _ l1 t156 _ ?side1 ?side2 A16.out).mono ?_); (case side1 => exact lC (Kd.C_below HR1.out HB.out)); (case side2 => exact HC1.out); rintro e w17 ⟨v157, rfl, ho0, hb⟩; have n0_ := Aside0.mk (Kd.N_elder' (by (with_reducible repeat (first | apply Kd.N_alloc | apply Kd.N_drewN | apply Kd.N_drew)); exact HO_5.out) (Kd.R_base ho0) hb); have n1_ := Aside0.mk (Kd.R_lower (Kd.R_newM (M := fun k_ => (w.heap.size ≤ k_)) ho0 (below_size lB) (fun k_ h_ => h_)) (below_size lB)); have n2_ := Aside0.mk (below_step lB hb); clear HO_5; clear HB; have HO_5 := n0_; have HO158 := n1_; have HB := n2_; clear n0_ n1_ n2_; (try clear hb); (try clear hb2); (try clear hk); (try clear hi); (try clear ho0); obtain ⟨Ao18, co18, eo18⟩ := Kd.R_slice HO158.out; subst eo18))
      repeat (go_quiet (fail); try go_wp2_with (first | (go_at_call 96; (with_reducible refine (spec_l11By.calls k1 _ _ l1 t156 _ ?side1 ?side2 A16.out).mono ?_); (case side1 => exact lC (Kd.C_below HR1.out HB.out)); (case side2 => exact HC1.out); rintro e w17 ⟨v157, rfl, ho0, hb⟩; have n0_ := Aside0.mk (Kd.N_elder' (by (with_reducible repeat (first | apply Kd.N_alloc | apply Kd.N_drewN | apply Kd.N_drew)); exact HO_5.out) (Kd.R_base ho0) hb); have n1_ := Aside0.mk (Kd.R_lower (Kd.R_newM (M := fun k_ => (w.heap.size ≤ k_)) ho0 (below_size lB) (fun k_ h_ => h_)) (below_size lB)); have n2_ := Aside0.mk (below_step lB hb); clear HO_5; clear HB; have HO_5 := n0_; have HO158 := n1_; have HB := n2_; clear n0_ n1_ n2_; (try clear hb); (try clear hb2); (try clear hk); (try clear hi); (try clear ho0); obtain ⟨Ao18, co18, eo18⟩ := Kd.R_slice HO158.out; subst eo18)))
      go_loopg [34] k1 (fun kq v34 w' => ∃ (x5_2 : List (List Int)) (x34_2 : Int), v34 = .int .i64 x34_2 ∧ Aside0 (spec_l11Chains.l1 kq a0 x5_2 t156 (t156.length : Int) x34_2 = some r) ∧ Aside0 (kq ≤ k1) ∧ Aside0 (Kd.N (Kd.slice 3 (Kd.int .i64)) 34 w' w.heap.size (fun k_ => (w.heap.size ≤ k_) ∧ some k_ ≠ ((.slice Ao18 t156.length co18) : Value).ownBlock) (.slice Ao7 x5_1.length co7) x5_2) ∧ Aside0 (Kd.R k48 48 w' w.heap.size (fun k_ => (w.heap.size ≤ k_)) (.slice Ao18 t156.length co18) t156) ∧ Aside0 (Below w.heap.size w w'))
      case atStart => exact ⟨(x5_1), (0), lF, H', ⟨Nat.le_refl _⟩, ⟨by (try simp only [hl5_1]); (with_reducible repeat (first | apply Kd.N_alloc | apply Kd.N_drewN | apply Kd.N_drew)); exact HO_5.out⟩, ⟨by (try simp only [hl5_1]); (with_reducible repeat (first | apply Kd.R_alloc | apply Kd.R_drewN | apply Kd.R_drew)); exact Kd.R_mono HO158.out (fun _ hk => hk.1)⟩, ⟨lB⟩⟩
      case round =>
       clear H'
       try clear c1
       try clear p1
       try clear q1
       try clear hx1
       try clear p2
       try clear c3
       try clear c3b0
       try clear c3b1
       try clear c4
       try clear c4b0
       try clear c4b1
       try clear c5
       try clear p6
       try clear c8
       try clear c8b0
       try clear c9
       try clear c9b0
       try clear c10
       try clear c10b0
       try clear c11
       try clear p11
       try clear q11
       try clear hx11
       try clear hf11
       try clear c14
       try clear hx14
       try clear hf14
       try clear hx11_0
       try clear hx14_0
       try clear p11
       try clear p2
       try clear q11
       obtain ⟨x5_2, x34_2, rfl, HA, HK2, HO_5, HO_32, HB⟩ := hrel
       have hl5_2 := (Kd.N_reads' HO_5.out).1
       rw [hl5_2] at HO_5
       (try simp only [hl5_2])
       (try simp only [hl5_2] at HO_32)
       cases gk with
       | zero => exact absurd HA.out (by simp [spec_l11Chains.l1])
       | succ k2 =>
        have H := HA.out
        clear HA
        simp only [spec_l11Chains.l1] at H
        by_cases c19 : x34_2 < (t156.length : Int)
        ·rw [if_pos c19] at H
         have c19b0 : decide (x34_2 < (t156.length : Int)) = true := decide_eq_true c19
         (try simp only [hl5_1, hl5_2] at c19b0)
         clear c19
         by_cases c20 : 0 ≤ x34_2
         ·rw [if_pos c20] at H
          have c20b0 : decide (0 ≤ x34_2) = true := decide_eq_true c20
          clear c20
          by_cases c21 : x34_2 < (t156.length : Int)
          ·rw [if_pos c21] at H
           have c21b0 : decide (x34_2 < (t156.length : Int)) = true := decide_eq_true c21
           (try simp only [hl5_1, hl5_2] at c21b0)
           clear c21
           have H' := Aside0.mk H
           clear H
           have p159 : 0 ≤ (x34_2 : Int) := lD
           have q159 : x34_2 < (t156.length : Int) := lD
           obtain ⟨ad159, e159, hx159_0, hx159_1, hx159_2⟩ := at_T48 (Kd.R_reads' HO_32.out).2.2 x34_2 p159 q159
           cases e159
           replace p159 := eq_true p159
           replace q159 := eq_true q159
           go_wp2_with (first | ((with_reducible refine gate_dst (N := 8) rfl ?_); (try (refine gate_guard (by rfl) ?_; dsimp only)); refine bxe 8 #[.int .i64 0, .int .i64 0, .int .i64 0] 48 ?_; intro gb160 hg w22 hbox hb; have n0_ := Aside0.mk (Kd.N_below (Kd.N_elderB (by (with_reducible repeat (first | apply Kd.N_alloc | apply Kd.N_drewN | apply Kd.N_drew)); exact HO_5.out) gb160 (Nat.le_of_eq hg.symm)) hb); have n1_ := Aside0.mk (Kd.R_below (Kd.R_elderB (lR HO_32.out) gb160 (Nat.le_of_eq hg.symm)) hb); have n2_ := Aside0.mk (below_step lB hb); have n3_ := Aside0.mk (hbox); have n4_ := lG w hg; have n5_ := lG w hg; clear HO_5; clear HO_32; clear HB; have HO_5 := n0_; have HO_32 := n1_; have HB := n2_; have BK160 := n3_; have GW160 := n4_; have GE160 := n5_; clear n0_ n1_ n2_ n3_ n4_ n5_; clear hb hbox hg; obtain ⟨hcz23_0, hfz23_0, hcz23_1, hfz23_1, hcz23_2, hfz23_2⟩ := bk3 BK160.out))
           repeat (go_quiet (fail); try go_wp2_with (first | ((with_reducible refine gate_dst (N := 8) rfl ?_); (try (refine gate_guard (by rfl) ?_; dsimp only)); refine bxe 8 #[.int .i64 0, .int .i64 0, .int .i64 0] 48 ?_; intro gb160 hg w22 hbox hb; have n0_ := Aside0.mk (Kd.N_below (Kd.N_elderB (by (with_reducible repeat (first | apply Kd.N_alloc | apply Kd.N_drewN | apply Kd.N_drew)); exact HO_5.out) gb160 (Nat.le_of_eq hg.symm)) hb); have n1_ := Aside0.mk (Kd.R_below (Kd.R_elderB (lR HO_32.out) gb160 (Nat.le_of_eq hg.symm)) hb); have n2_ := Aside0.mk (below_step lB hb); have n3_ := Aside0.mk (hbox); have n4_ := lG w hg; have n5_ := lG w hg; clear HO_5; clear HO_32; clear HB; have HO_5 := n0_; have HO_32 := n1_; have HB := n2_; have BK160 := n3_; have GW160 := n4_; have GE160 := n5_; clear n0_ n1_ n2_ n3_ n4_ n5_; clear hb hbox hg; obtain ⟨hcz23_0, hfz23_0, hcz23_1, hfz23_1, hcz23_2, hfz23_2⟩ := bk3 BK160.out)))
           go_loopg [9, 10, 40] k2 (fun kq v9 v10 v40 w' => ∃ (x9_3 : Int) (x10_3 : Int) (x40_3 : Int), v9 = .int .i64 x9_3 ∧ v10 = .int .i64 x10_3 ∧ v40 = .int .i64 x40_3 ∧ Aside0 (spec_l11Chains.l2 kq a0 x5_2 x9_3 x10_3 t156 (t156.length : Int) x34_2 x5_2 (x5_2.length : Int) x40_3 ((rd_T48 t156 x34_2).f0) ((rd_T48 t156 x34_2).f1) ((rd_T48 t156 x34_2).f2) = some r) ∧ Aside0 (kq ≤ k2) ∧ Aside0 (Kd.N (Kd.slice 3 (Kd.int .i64)) 34 w' w.heap.size (fun k_ => (w.heap.size ≤ k_) ∧ some k_ ≠ ((.slice (some ad159) t156.length co18) : Value).ownBlock ∧ k_ ≠ gb160) (.slice Ao7 x5_2.length co7) x5_2) ∧ Aside0 (Kd.R k48 48 w' w.heap.size (fun k_ => (w.heap.size ≤ k_) ∧ k_ ≠ gb160) (.slice (some ad159) t156.length co18) t156) ∧ Aside0 (Kd.N (Kd.slice 3 (Kd.int .i64)) 34 w' w.heap.size (fun k_ => (w.heap.size ≤ k_) ∧ some k_ ≠ ((.slice (some ad159) t156.length co18) : Value).ownBlock ∧ k_ ≠ gb160) (.slice Ao7 x5_2.length co7) x5_2) ∧ Aside0 (w'.heap[gb160]? = some (.cells #[.int .i64 ((rd_T48 t156 x34_2).f0), .int .i64 ((rd_T48 t156 x34_2).f1), .int .i64 ((rd_T48 t156 x34_2).f2)] 48 (0, 0))) ∧ Aside0 (Below w.heap.size w w'))
           case atStart => exact ⟨((-1)), ((-1)), (0), lF, lF, lF, H', ⟨Nat.le_refl _⟩, ⟨by (try simp only [hl5_1]); (try simp only [hl5_2]); (with_reducible repeat (first | apply Kd.N_alloc | apply Kd.N_drewN | apply Kd.N_drew)); exact Kd.N_mono (Kd.N_far (p := ⟨gb160, 2, none⟩) (Kd.N_far (p := ⟨gb160, 1, none⟩) (Kd.N_far (p := ⟨gb160, 0, none⟩) (Kd.N_mono HO_5.out (fun k_ hk => (⟨hk, hk.2⟩ : _ ∧ k_ ≠ gb160))) (fun _ hk => hk.2) (.int .i64 ((rd_T48 t156 x34_2).f0))) (fun _ hk => hk.2) (.int .i64 ((rd_T48 t156 x34_2).f1))) (fun _ hk => hk.2) (.int .i64 ((rd_T48 t156 x34_2).f2))) (fun _ hk => ⟨hk.1.1.1, ⟨hk.1.1.2, hk.1.2⟩⟩)⟩, ⟨by (try simp only [hl5_1]); (try simp only [hl5_2]); (with_reducible repeat (first | apply Kd.R_alloc | apply Kd.R_drewN | apply Kd.R_drew)); exact Kd.R_mono (Kd.R_far (p := ⟨gb160, 2, none⟩) (Kd.R_far (p := ⟨gb160, 1, none⟩) (Kd.R_far (p := ⟨gb160, 0, none⟩) (Kd.R_mono HO_32.out (fun k_ hk => (⟨hk, hk.2⟩ : _ ∧ k_ ≠ gb160))) (fun _ hk => hk.2) (.int .i64 ((rd_T48 t156 x34_2).f0))) (fun _ hk => hk.2) (.int .i64 ((rd_T48 t156 x34_2).f1))) (fun _ hk => hk.2) (.int .i64 ((rd_T48 t156 x34_2).f2))) (fun _ hk => ⟨hk.1.1, hk.1.2⟩)⟩, ⟨by (try simp only [hl5_1]); (try simp only [hl5_2]); (with_reducible repeat (first | apply Kd.N_alloc | apply Kd.N_drewN | apply Kd.N_drew)); exact Kd.N_mono (Kd.N_far (p := ⟨gb160, 2, none⟩) (Kd.N_far (p := ⟨gb160, 1, none⟩) (Kd.N_far (p := ⟨gb160, 0, none⟩) (Kd.N_mono HO_5.out (fun k_ hk => (⟨hk, hk.2⟩ : _ ∧ k_ ≠ gb160))) (fun _ hk => hk.2) (.int .i64 ((rd_T48 t156 x34_2).f0))) (fun _ hk => hk.2) (.int .i64 ((rd_T48 t156 x34_2).f1))) (fun _ hk => hk.2) (.int .i64 ((rd_T48 t156 x34_2).f2))) (fun _ hk => ⟨hk.1.1.1, ⟨hk.1.1.2, hk.1.2⟩⟩)⟩, ⟨by (try simp only [hl5_1]); (try simp only [hl5_2]); (with_reducible repeat first | apply bN | apply bD | apply bA); refine blk_put (cs := #[.int .i64 ((rd_T48 t156 x34_2).f0), .int .i64 ((rd_T48 t156 x34_2).f1), .int .i64 0]) ?_ 2 _ rfl; (with_reducible repeat first | apply bN | apply bD | apply bA); refine blk_put (cs := #[.int .i64 ((rd_T48 t156 x34_2).f0), .int .i64 0, .int .i64 0]) ?_ 1 _ rfl; (with_reducible repeat first | apply bN | apply bD | apply bA); refine blk_put (cs := #[.int .i64 0, .int .i64 0, .int .i64 0]) ?_ 0 _ rfl; (with_reducible repeat first | apply bN | apply bD | apply bA); exact BK160.out⟩, ⟨lB⟩⟩
           case round =>
            clear H'
            try clear c1
            try clear p1
            try clear q1
            try clear hx1
            try clear c2
            try clear p2
            try clear c3
            try clear c3b0
            try clear c3b1
            try clear c4
            try clear c4b0
            try clear c4b1
            try clear c5
            try clear p6
            try clear c8
            try clear c8b0
            try clear c9
            try clear c9b0
            try clear c10
            try clear c10b0
            try clear c11
            try clear p11
            try clear q11
            try clear hx11
            try clear hf11
            try clear c14
            try clear hx14
            try clear hf14
            try clear p15
            try clear q15
            try clear hx15
            try clear c19
            try clear c19b0
            try clear c20
            try clear c20b0
            try clear c21
            try clear c21b0
            try clear hcz23_0 hcz23_1 hcz23_2 hfz23_0 hfz23_1 hfz23_2
            try clear hx11_0
            try clear hx14_0
            try clear hx159_0
            try clear hx159_1
            try clear hx159_2
            try clear p1
            try clear p11
            try clear p159
            try clear p2
            try clear p6
            try clear q1
            try clear q11
            try clear q159
            obtain ⟨x9_3, x10_3, x40_3, rfl, rfl, rfl, HA, HK3, HO_5, HO_32, HO_38, BK160, HB⟩ := hrel
            cases gk with
            | zero => exact absurd HA.out (by simp [spec_l11Chains.l2])
            | succ k3 =>
             have H := HA.out
             clear HA
             simp only [spec_l11Chains.l2] at H
             by_cases c24 : x40_3 < (x5_2.length : Int)
             ·rw [if_pos c24] at H
              have c24b0 : decide (x40_3 < (x5_2.length : Int)) = true := decide_eq_true c24
              (try simp only [hl5_1, hl5_2] at c24b0)
              clear c24
              by_cases c25 : 0 ≤ x40_3
              ·rw [if_pos c25] at H
               have c25b0 : decide (0 ≤ x40_3) = true := decide_eq_true c25
               clear c25
               by_cases c26 : x40_3 < (x5_2.length : Int)
               ·rw [if_pos c26] at H
                have c26b0 : decide (x40_3 < (x5_2.length : Int)) = true := decide_eq_true c26
                (try simp only [hl5_1, hl5_2] at c26b0)
                clear c26
                by_cases c27 : ((rd_L5 x5_2 x40_3).length : Int) > 0
                ·rw [if_pos c27] at H
                 have c27b0 : decide (0 < ((rd_L5 x5_2 x40_3).length : Int)) = true := decide_eq_true c27
                 (try simp only [hl5_1, hl5_2] at c27b0)
                 have c27b1 : decide (0 < (rd_L5 x5_2 x40_3).length) = true := decide_eq_true (by omega)
                 (try simp only [hl5_1, hl5_2] at c27b1)
                 clear c27
                 obtain ⟨ji28, hji28⟩ : ∃ j_ : Int, (wrap64 (((rd_L5 x5_2 x40_3).length : Int) - 1)) = j_ := ⟨_, rfl⟩
                 replace H : (if 0 ≤ (ji28) then (if (ji28) < ((rd_L5 x5_2 x40_3).length : Int) then (if (rd (rd_L5 x5_2 x40_3) (ji28)) = ((rd_T48 t156 x34_2).f0) then (if 0 < ((rd_L5 x5_2 x40_3).length : Int) then (if (rd (rd_L5 x5_2 x40_3) 0) = ((rd_T48 t156 x34_2).f1) then (spec_l11Chains.l2 k3 a0 x5_2 x40_3 x40_3 t156 (t156.length : Int) x34_2 x5_2 (x5_2.length : Int) (wrap64 (x40_3 + 1)) ((rd_T48 t156 x34_2).f0) ((rd_T48 t156 x34_2).f1) ((rd_T48 t156 x34_2).f2)) else (spec_l11Chains.l2 k3 a0 x5_2 x40_3 x10_3 t156 (t156.length : Int) x34_2 x5_2 (x5_2.length : Int) (wrap64 (x40_3 + 1)) ((rd_T48 t156 x34_2).f0) ((rd_T48 t156 x34_2).f1) ((rd_T48 t156 x34_2).f2))) else (none)) else (if 0 < ((rd_L5 x5_2 x40_3).length : Int) then (if (rd (rd_L5 x5_2 x40_3) 0) = ((rd_T48 t156 x34_2).f1) then (spec_l11Chains.l2 k3 a0 x5_2 x9_3 x40_3 t156 (t156.length : Int) x34_2 x5_2 (x5_2.length : Int) (wrap64 (x40_3 + 1)) ((rd_T48 t156 x34_2).f0) ((rd_T48 t156 x34_2).f1) ((rd_T48 t156 x34_2).f2)) else (spec_l11Chains.l2 k3 a0 x5_2 x9_3 x10_3 t156 (t156.length : Int) x34_2 x5_2 (x5_2.length : Int) (wrap64 (x40_3 + 1)) ((rd_T48 t156 x34_2).f0) ((rd_T48 t156 x34_2).f1) ((rd_T48 t156 x34_2).f2))) else (none))) else (none)) else (none)) = some r := by first | (rw [hji28] at H; exact H) | (simp only [hji28] at H ⊢; exact H)
                 have hji28w : (IntKind.i64.wrap (((rd_L5 x5_2 x40_3).length : Int) - 1)) = ji28 := (i64_w _).trans hji28
                 by_cases c29 : 0 ≤ (ji28)
                 ·rw [if_pos c29] at H
                  have c29b0 : decide (0 ≤ (ji28)) = true := decide_eq_true c29
                  clear c29
                  by_cases c30 : (ji28) < ((rd_L5 x5_2 x40_3).length : Int)
                  ·rw [if_pos c30] at H
                   have c30b0 : decide ((ji28) < ((rd_L5 x5_2 x40_3).length : Int)) = true := decide_eq_true c30
                   (try simp only [hl5_1, hl5_2] at c30b0)
                   clear c30
                   by_cases c31 : (rd (rd_L5 x5_2 x40_3) (ji28)) = ((rd_T48 t156 x34_2).f0)
                   ·rw [if_pos c31] at H
                    have c31b0 : ((rd (rd_L5 x5_2 x40_3) (ji28)) == ((rd_T48 t156 x34_2).f0)) = true := beq_iff_eq.mpr c31
                    have c31b1 : ((rd (rd_L5 x5_2 x40_3) (ji28)) != ((rd_T48 t156 x34_2).f0)) = false := bne_eq_false_iff_eq.mpr c31
                    clear c31
                    by_cases c32 : 0 < ((rd_L5 x5_2 x40_3).length : Int)
                    ·rw [if_pos c32] at H
                     have c32b0 : decide (0 < ((rd_L5 x5_2 x40_3).length : Int)) = true := decide_eq_true c32
                     (try simp only [hl5_1, hl5_2] at c32b0)
                     have c32b1 : decide (0 < (rd_L5 x5_2 x40_3).length) = true := decide_eq_true (by omega)
                     (try simp only [hl5_1, hl5_2] at c32b1)
                     clear c32
                     by_cases c33 : (rd (rd_L5 x5_2 x40_3) 0) = ((rd_T48 t156 x34_2).f1)
                     ·rw [if_pos c33] at H
                      have c33b0 : ((rd (rd_L5 x5_2 x40_3) 0) == ((rd_T48 t156 x34_2).f1)) = true := beq_iff_eq.mpr c33
                      have c33b1 : ((rd (rd_L5 x5_2 x40_3) 0) != ((rd_T48 t156 x34_2).f1)) = false := bne_eq_false_iff_eq.mpr c33
                      clear c33
                      have H' := Aside0.mk H
                      clear H
                      have p161 : 0 ≤ (x40_3 : Int) := lD
                      have q161 : x40_3 < (x5_2.length : Int) := lD
                      obtain ⟨ad161, A161_0, c161_0, e161, hx161_0, hl161_0, hi161_0⟩ := at_L5 (Kd.N_reads' HO_38.out).2.2 x40_3 p161 q161
                      cases e161
                      obtain ⟨ce161, hce161, hMe161, hcc161⟩ := Kd.N_get HO_38.out [] x40_3 p161 (by first | exact q161 | exact lD | (have e_ := (Kd.N_reads' HO_38.out).1; omega))
                      obtain ⟨ua161_0, uc161_0, rfl, ul161_0, ge161_0⟩ := Kd.FK_slice_open hMe161
                      have hv161_0 := hcc161 0 _ rfl
                      rw [Nat.add_zero, show ((Kd.slice 3 (Kd.int .i64))).sz = 1 from rfl, Nat.mul_one] at hv161_0
                      replace hv161_0 := Option.some.inj (hv161_0.symm.trans hx161_0)
                      injection hv161_0 with hva_ hvn_ hvc_
                      rw [hva_] at ge161_0
                      rw [hvc_] at ul161_0
                      have HL161_0 := Aside0.mk (show Kd.V (Kd.int .i64) 3 _ w.heap.size _ _ (rd_L5 x5_2 x40_3) from Kd.V_mk ul161_0 ge161_0)
                      clear hva_ hvn_ hvc_ ge161_0 ul161_0
                      clear hcc161 hce161
                      have HR161_0 := Aside0.mk hi161_0
                      have HC161_0 := Aside0.mk hl161_0
                      clear hi161_0 hl161_0
                      replace p161 := eq_true p161
                      replace q161 := eq_true q161
                      have p162 : 0 ≤ ((ji28) : Int) := lD
                      have q162 : (ji28) < ((rd_L5 x5_2 x40_3).length : Int) := lD
                      obtain ⟨ad162, e162, hx162_0⟩ := Kd.at_int (by repeat (first | (with_reducible exact HR161_0.out) | (with_reducible refine Kd.C_alloc ?_ _) | (with_reducible refine Kd.C_drewN ?_ _) | (with_reducible refine Kd.C_drew ?_) | exact HR161_0.out)) (ji28) p162 q162
                      cases e162
                      replace p162 := eq_true p162
                      replace q162 := eq_true q162
                      obtain ⟨hcz34_0, hfz34_0, hcz34_1, hfz34_1, hcz34_2, hfz34_2⟩ := bk3 BK160.out
                      have p163 : 0 ≤ (0 : Int) := (by omega)
                      have q163 : 0 < ((rd_L5 x5_2 x40_3).length : Int) := lD
                      obtain ⟨ad163, e163, hx163_0⟩ := Kd.at_int (by repeat (first | (with_reducible exact HR161_0.out) | (with_reducible refine Kd.C_alloc ?_ _) | (with_reducible refine Kd.C_drewN ?_ _) | (with_reducible refine Kd.C_drew ?_) | exact HR161_0.out)) 0 p163 q163
                      obtain rfl : ad162 = ad163 := (by injection e163)
                      have qi163 : (0 < (rd_L5 x5_2 x40_3).length) = True := eq_true (by omega)
                      (try rw [show ((0 : Int)).toNat = 0 from rfl] at hx163_0)
                      (try rw [Addr.add_zero'] at hx163_0)
                      replace p163 := eq_true p163
                      replace q163 := eq_true q163
                      go_wp2
                      repeat (go_quiet (fail); try go_wp2)
                      go_roundg k3
                      case measure => have := HK1.out; have := HK2.out; have := HK3.out; omega
                      case rel => exact ⟨(x40_3), (x40_3), (wrap64 (x40_3 + 1)), lF, lF, lF, H', ⟨by have := HK1.out; have := HK2.out; have := HK3.out; omega⟩, ⟨by (try simp only [hl5_1]); (try simp only [hl5_2]); (with_reducible repeat (first | apply Kd.N_alloc | apply Kd.N_drewN | apply Kd.N_drew)); exact HO_5.out⟩, ⟨by (try simp only [hl5_1]); (try simp only [hl5_2]); (with_reducible repeat (first | apply Kd.R_alloc | apply Kd.R_drewN | apply Kd.R_drew)); exact HO_32.out⟩, ⟨by (try simp only [hl5_1]); (try simp only [hl5_2]); (with_reducible repeat (first | apply Kd.N_alloc | apply Kd.N_drewN | apply Kd.N_drew)); exact HO_38.out⟩, ⟨by (try simp only [hl5_1]); (try simp only [hl5_2]); (with_reducible repeat first | apply bN | apply bD | apply bA); exact BK160.out⟩, ⟨lB⟩⟩
                     ·rw [if_neg c33] at H
                      have c33b0 : ((rd (rd_L5 x5_2 x40_3) 0) == ((rd_T48 t156 x34_2).f1)) = false := beq_eq_false_iff_ne.mpr c33
                      have c33b1 : ((rd (rd_L5 x5_2 x40_3) 0) != ((rd_T48 t156 x34_2).f1)) = true := bne_iff_ne.mpr c33
                      have H' := Aside0.mk H
                      clear H
                      have p161 : 0 ≤ (x40_3 : Int) := lD
                      have q161 : x40_3 < (x5_2.length : Int) := lD
                      obtain ⟨ad161, A161_0, c161_0, e161, hx161_0, hl161_0, hi161_0⟩ := at_L5 (Kd.N_reads' HO_38.out).2.2 x40_3 p161 q161
                      cases e161
                      obtain ⟨ce161, hce161, hMe161, hcc161⟩ := Kd.N_get HO_38.out [] x40_3 p161 (by first | exact q161 | exact lD | (have e_ := (Kd.N_reads' HO_38.out).1; omega))
                      obtain ⟨ua161_0, uc161_0, rfl, ul161_0, ge161_0⟩ := Kd.FK_slice_open hMe161
                      have hv161_0 := hcc161 0 _ rfl
                      rw [Nat.add_zero, show ((Kd.slice 3 (Kd.int .i64))).sz = 1 from rfl, Nat.mul_one] at hv161_0
                      replace hv161_0 := Option.some.inj (hv161_0.symm.trans hx161_0)
                      injection hv161_0 with hva_ hvn_ hvc_
                      rw [hva_] at ge161_0
                      rw [hvc_] at ul161_0
                      have HL161_0 := Aside0.mk (show Kd.V (Kd.int .i64) 3 _ w.heap.size _ _ (rd_L5 x5_2 x40_3) from Kd.V_mk ul161_0 ge161_0)
                      clear hva_ hvn_ hvc_ ge161_0 ul161_0
                      clear hcc161 hce161
                      have HR161_0 := Aside0.mk hi161_0
                      have HC161_0 := Aside0.mk hl161_0
                      clear hi161_0 hl161_0
                      replace p161 := eq_true p161
                      replace q161 := eq_true q161
                      have p162 : 0 ≤ ((ji28) : Int) := lD
                      have q162 : (ji28) < ((rd_L5 x5_2 x40_3).length : Int) := lD
                      obtain ⟨ad162, e162, hx162_0⟩ := Kd.at_int (by repeat (first | (with_reducible exact HR161_0.out) | (with_reducible refine Kd.C_alloc ?_ _) | (with_reducible refine Kd.C_drewN ?_ _) | (with_reducible refine Kd.C_drew ?_) | exact HR161_0.out)) (ji28) p162 q162
                      cases e162
                      replace p162 := eq_true p162
                      replace q162 := eq_true q162
                      obtain ⟨hcz35_0, hfz35_0, hcz35_1, hfz35_1, hcz35_2, hfz35_2⟩ := bk3 BK160.out
                      have p163 : 0 ≤ (0 : Int) := (by omega)
                      have q163 : 0 < ((rd_L5 x5_2 x40_3).length : Int) := lD
                      obtain ⟨ad163, e163, hx163_0⟩ := Kd.at_int (by repeat (first | (with_reducible exact HR161_0.out) | (with_reducible refine Kd.C_alloc ?_ _) | (with_reducible refine Kd.C_drewN ?_ _) | (with_reducible refine Kd.C_drew ?_) | exact HR161_0.out)) 0 p163 q163
                      obtain rfl : ad162 = ad163 := (by injection e163)
                      have qi163 : (0 < (rd_L5 x5_2 x40_3).length) = True := eq_true (by omega)
                      (try rw [show ((0 : Int)).toNat = 0 from rfl] at hx163_0)
                      (try rw [Addr.add_zero'] at hx163_0)
                      replace p163 := eq_true p163
                      replace q163 := eq_true q163
                      go_wp2
                      repeat (go_quiet (fail); try go_wp2)
                      go_roundg k3
                      case measure => have := HK1.out; have := HK2.out; have := HK3.out; omega
                      case rel => exact ⟨(x40_3), (x10_3), (wrap64 (x40_3 + 1)), lF, lF, lF, H', ⟨by have := HK1.out; have := HK2.out; have := HK3.out; omega⟩, ⟨by (try simp only [hl5_1]); (try simp only [hl5_2]); (with_reducible repeat (first | apply Kd.N_alloc | apply Kd.N_drewN | apply Kd.N_drew)); exact HO_5.out⟩, ⟨by (try simp only [hl5_1]); (try simp only [hl5_2]); (with_reducible repeat (first | apply Kd.R_alloc | apply Kd.R_drewN | apply Kd.R_drew)); exact HO_32.out⟩, ⟨by (try simp only [hl5_1]); (try simp only [hl5_2]); (with_reducible repeat (first | apply Kd.N_alloc | apply Kd.N_drewN | apply Kd.N_drew)); exact HO_38.out⟩, ⟨by (try simp only [hl5_1]); (try simp only [hl5_2]); (with_reducible repeat first | apply bN | apply bD | apply bA); exact BK160.out⟩, ⟨lB⟩⟩
                    ·rw [if_neg c32] at H
                     exact absurd H (by simp)
                   ·rw [if_neg c31] at H
                    have c31b0 : ((rd (rd_L5 x5_2 x40_3) (ji28)) == ((rd_T48 t156 x34_2).f0)) = false := beq_eq_false_iff_ne.mpr c31
                    have c31b1 : ((rd (rd_L5 x5_2 x40_3) (ji28)) != ((rd_T48 t156 x34_2).f0)) = true := bne_iff_ne.mpr c31
                    by_cases c36 : 0 < ((rd_L5 x5_2 x40_3).length : Int)
                    ·rw [if_pos c36] at H
                     have c36b0 : decide (0 < ((rd_L5 x5_2 x40_3).length : Int)) = true := decide_eq_true c36
                     (try simp only [hl5_1, hl5_2] at c36b0)
                     have c36b1 : decide (0 < (rd_L5 x5_2 x40_3).length) = true := decide_eq_true (by omega)
                     (try simp only [hl5_1, hl5_2] at c36b1)
                     clear c36
                     by_cases c37 : (rd (rd_L5 x5_2 x40_3) 0) = ((rd_T48 t156 x34_2).f1)
                     ·rw [if_pos c37] at H
                      have c37b0 : ((rd (rd_L5 x5_2 x40_3) 0) == ((rd_T48 t156 x34_2).f1)) = true := beq_iff_eq.mpr c37
                      have c37b1 : ((rd (rd_L5 x5_2 x40_3) 0) != ((rd_T48 t156 x34_2).f1)) = false := bne_eq_false_iff_eq.mpr c37
                      clear c37
                      have H' := Aside0.mk H
                      clear H
                      have p161 : 0 ≤ (x40_3 : Int) := lD
                      have q161 : x40_3 < (x5_2.length : Int) := lD
                      obtain ⟨ad161, A161_0, c161_0, e161, hx161_0, hl161_0, hi161_0⟩ := at_L5 (Kd.N_reads' HO_38.out).2.2 x40_3 p161 q161
                      cases e161
                      obtain ⟨ce161, hce161, hMe161, hcc161⟩ := Kd.N_get HO_38.out [] x40_3 p161 (by first | exact q161 | exact lD | (have e_ := (Kd.N_reads' HO_38.out).1; omega))
                      obtain ⟨ua161_0, uc161_0, rfl, ul161_0, ge161_0⟩ := Kd.FK_slice_open hMe161
                      have hv161_0 := hcc161 0 _ rfl
                      rw [Nat.add_zero, show ((Kd.slice 3 (Kd.int .i64))).sz = 1 from rfl, Nat.mul_one] at hv161_0
                      replace hv161_0 := Option.some.inj (hv161_0.symm.trans hx161_0)
                      injection hv161_0 with hva_ hvn_ hvc_
                      rw [hva_] at ge161_0
                      rw [hvc_] at ul161_0
                      have HL161_0 := Aside0.mk (show Kd.V (Kd.int .i64) 3 _ w.heap.size _ _ (rd_L5 x5_2 x40_3) from Kd.V_mk ul161_0 ge161_0)
                      clear hva_ hvn_ hvc_ ge161_0 ul161_0
                      clear hcc161 hce161
                      have HR161_0 := Aside0.mk hi161_0
                      have HC161_0 := Aside0.mk hl161_0
                      clear hi161_0 hl161_0
                      replace p161 := eq_true p161
                      replace q161 := eq_true q161
                      have p162 : 0 ≤ ((ji28) : Int) := lD
                      have q162 : (ji28) < ((rd_L5 x5_2 x40_3).length : Int) := lD
                      obtain ⟨ad162, e162, hx162_0⟩ := Kd.at_int (by repeat (first | (with_reducible exact HR161_0.out) | (with_reducible refine Kd.C_alloc ?_ _) | (with_reducible refine Kd.C_drewN ?_ _) | (with_reducible refine Kd.C_drew ?_) | exact HR161_0.out)) (ji28) p162 q162
                      cases e162
                      replace p162 := eq_true p162
                      replace q162 := eq_true q162
                      obtain ⟨hcz38_0, hfz38_0, hcz38_1, hfz38_1, hcz38_2, hfz38_2⟩ := bk3 BK160.out
                      have p164 : 0 ≤ (0 : Int) := (by omega)
                      have q164 : 0 < ((rd_L5 x5_2 x40_3).length : Int) := lD
                      obtain ⟨ad164, e164, hx164_0⟩ := Kd.at_int (by repeat (first | (with_reducible exact HR161_0.out) | (with_reducible refine Kd.C_alloc ?_ _) | (with_reducible refine Kd.C_drewN ?_ _) | (with_reducible refine Kd.C_drew ?_) | exact HR161_0.out)) 0 p164 q164
                      obtain rfl : ad162 = ad164 := (by injection e164)
                      have qi164 : (0 < (rd_L5 x5_2 x40_3).length) = True := eq_true (by omega)
                      (try rw [show ((0 : Int)).toNat = 0 from rfl] at hx164_0)
                      (try rw [Addr.add_zero'] at hx164_0)
                      replace p164 := eq_true p164
                      replace q164 := eq_true q164
                      go_wp2
                      repeat (go_quiet (fail); try go_wp2)
                      go_roundg k3
                      case measure => have := HK1.out; have := HK2.out; have := HK3.out; omega
                      case rel => exact ⟨(x9_3), (x40_3), (wrap64 (x40_3 + 1)), lF, lF, lF, H', ⟨by have := HK1.out; have := HK2.out; have := HK3.out; omega⟩, ⟨by (try simp only [hl5_1]); (try simp only [hl5_2]); (with_reducible repeat (first | apply Kd.N_alloc | apply Kd.N_drewN | apply Kd.N_drew)); exact HO_5.out⟩, ⟨by (try simp only [hl5_1]); (try simp only [hl5_2]); (with_reducible repeat (first | apply Kd.R_alloc | apply Kd.R_drewN | apply Kd.R_drew)); exact HO_32.out⟩, ⟨by (try simp only [hl5_1]); (try simp only [hl5_2]); (with_reducible repeat (first | apply Kd.N_alloc | apply Kd.N_drewN | apply Kd.N_drew)); exact HO_38.out⟩, ⟨by (try simp only [hl5_1]); (try simp only [hl5_2]); (with_reducible repeat first | apply bN | apply bD | apply bA); exact BK160.out⟩, ⟨lB⟩⟩
                     ·rw [if_neg c37] at H
                      have c37b0 : ((rd (rd_L5 x5_2 x40_3) 0) == ((rd_T48 t156 x34_2).f1)) = false := beq_eq_false_iff_ne.mpr c37
                      have c37b1 : ((rd (rd_L5 x5_2 x40_3) 0) != ((rd_T48 t156 x34_2).f1)) = true := bne_iff_ne.mpr c37
                      have H' := Aside0.mk H
                      clear H
                      have p161 : 0 ≤ (x40_3 : Int) := lD
                      have q161 : x40_3 < (x5_2.length : Int) := lD
                      obtain ⟨ad161, A161_0, c161_0, e161, hx161_0, hl161_0, hi161_0⟩ := at_L5 (Kd.N_reads' HO_38.out).2.2 x40_3 p161 q161
                      cases e161
                      obtain ⟨ce161, hce161, hMe161, hcc161⟩ := Kd.N_get HO_38.out [] x40_3 p161 (by first | exact q161 | exact lD | (have e_ := (Kd.N_reads' HO_38.out).1; omega))
                      obtain ⟨ua161_0, uc161_0, rfl, ul161_0, ge161_0⟩ := Kd.FK_slice_open hMe161
                      have hv161_0 := hcc161 0 _ rfl
                      rw [Nat.add_zero, show ((Kd.slice 3 (Kd.int .i64))).sz = 1 from rfl, Nat.mul_one] at hv161_0
                      replace hv161_0 := Option.some.inj (hv161_0.symm.trans hx161_0)
                      injection hv161_0 with hva_ hvn_ hvc_
                      rw [hva_] at ge161_0
                      rw [hvc_] at ul161_0
                      have HL161_0 := Aside0.mk (show Kd.V (Kd.int .i64) 3 _ w.heap.size _ _ (rd_L5 x5_2 x40_3) from Kd.V_mk ul161_0 ge161_0)
                      clear hva_ hvn_ hvc_ ge161_0 ul161_0
                      clear hcc161 hce161
                      have HR161_0 := Aside0.mk hi161_0
                      have HC161_0 := Aside0.mk hl161_0
                      clear hi161_0 hl161_0
                      replace p161 := eq_true p161
                      replace q161 := eq_true q161
                      have p162 : 0 ≤ ((ji28) : Int) := lD
                      have q162 : (ji28) < ((rd_L5 x5_2 x40_3).length : Int) := lD
                      obtain ⟨ad162, e162, hx162_0⟩ := Kd.at_int (by repeat (first | (with_reducible exact HR161_0.out) | (with_reducible refine Kd.C_alloc ?_ _) | (with_reducible refine Kd.C_drewN ?_ _) | (with_reducible refine Kd.C_drew ?_) | exact HR161_0.out)) (ji28) p162 q162
                      cases e162
                      replace p162 := eq_true p162
                      replace q162 := eq_true q162
                      obtain ⟨hcz39_0, hfz39_0, hcz39_1, hfz39_1, hcz39_2, hfz39_2⟩ := bk3 BK160.out
                      have p164 : 0 ≤ (0 : Int) := (by omega)
                      have q164 : 0 < ((rd_L5 x5_2 x40_3).length : Int) := lD
                      obtain ⟨ad164, e164, hx164_0⟩ := Kd.at_int (by repeat (first | (with_reducible exact HR161_0.out) | (with_reducible refine Kd.C_alloc ?_ _) | (with_reducible refine Kd.C_drewN ?_ _) | (with_reducible refine Kd.C_drew ?_) | exact HR161_0.out)) 0 p164 q164
                      obtain rfl : ad162 = ad164 := (by injection e164)
                      have qi164 : (0 < (rd_L5 x5_2 x40_3).length) = True := eq_true (by omega)
                      (try rw [show ((0 : Int)).toNat = 0 from rfl] at hx164_0)
                      (try rw [Addr.add_zero'] at hx164_0)
                      replace p164 := eq_true p164
                      replace q164 := eq_true q164
                      go_wp2
                      repeat (go_quiet (fail); try go_wp2)
                      go_roundg k3
                      case measure => have := HK1.out; have := HK2.out; have := HK3.out; omega
                      case rel => exact ⟨(x9_3), (x10_3), (wrap64 (x40_3 + 1)), lF, lF, lF, H', ⟨by have := HK1.out; have := HK2.out; have := HK3.out; omega⟩, ⟨by (try simp only [hl5_1]); (try simp only [hl5_2]); (with_reducible repeat (first | apply Kd.N_alloc | apply Kd.N_drewN | apply Kd.N_drew)); exact HO_5.out⟩, ⟨by (try simp only [hl5_1]); (try simp only [hl5_2]); (with_reducible repeat (first | apply Kd.R_alloc | apply Kd.R_drewN | apply Kd.R_drew)); exact HO_32.out⟩, ⟨by (try simp only [hl5_1]); (try simp only [hl5_2]); (with_reducible repeat (first | apply Kd.N_alloc | apply Kd.N_drewN | apply Kd.N_drew)); exact HO_38.out⟩, ⟨by (try simp only [hl5_1]); (try simp only [hl5_2]); (with_reducible repeat first | apply bN | apply bD | apply bA); exact BK160.out⟩, ⟨lB⟩⟩
                    ·rw [if_neg c36] at H
                     exact absurd H (by simp)
                  ·rw [if_neg c30] at H
                   exact absurd H (by simp)
                 ·rw [if_neg c29] at H
                  exact absurd H (by simp)
                ·rw [if_neg c27] at H
                 have c27b0 : decide (0 < ((rd_L5 x5_2 x40_3).length : Int)) = false := decide_eq_false c27
                 (try simp only [hl5_1, hl5_2] at c27b0)
                 have c27b1 : decide (0 < (rd_L5 x5_2 x40_3).length) = false := decide_eq_false (by omega)
                 (try simp only [hl5_1, hl5_2] at c27b1)
                 clear c27
                 have H' := Aside0.mk H
                 clear H
                 have p161 : 0 ≤ (x40_3 : Int) := lD
                 have q161 : x40_3 < (x5_2.length : Int) := lD
                 obtain ⟨ad161, A161_0, c161_0, e161, hx161_0, hl161_0, hi161_0⟩ := at_L5 (Kd.N_reads' HO_38.out).2.2 x40_3 p161 q161
                 cases e161
                 obtain ⟨ce161, hce161, hMe161, hcc161⟩ := Kd.N_get HO_38.out [] x40_3 p161 (by first | exact q161 | exact lD | (have e_ := (Kd.N_reads' HO_38.out).1; omega))
                 obtain ⟨ua161_0, uc161_0, rfl, ul161_0, ge161_0⟩ := Kd.FK_slice_open hMe161
                 have hv161_0 := hcc161 0 _ rfl
                 rw [Nat.add_zero, show ((Kd.slice 3 (Kd.int .i64))).sz = 1 from rfl, Nat.mul_one] at hv161_0
                 replace hv161_0 := Option.some.inj (hv161_0.symm.trans hx161_0)
                 injection hv161_0 with hva_ hvn_ hvc_
                 rw [hva_] at ge161_0
                 rw [hvc_] at ul161_0
                 have HL161_0 := Aside0.mk (show Kd.V (Kd.int .i64) 3 _ w.heap.size _ _ (rd_L5 x5_2 x40_3) from Kd.V_mk ul161_0 ge161_0)
                 clear hva_ hvn_ hvc_ ge161_0 ul161_0
                 clear hcc161 hce161
                 have HR161_0 := Aside0.mk hi161_0
                 have HC161_0 := Aside0.mk hl161_0
                 clear hi161_0 hl161_0
                 replace p161 := eq_true p161
                 replace q161 := eq_true q161
                 go_wp2
                 repeat (go_quiet (fail); try go_wp2)
                 go_roundg k3
                 case measure => have := HK1.out; have := HK2.out; have := HK3.out; omega
                 case rel => exact ⟨(x9_3), (x10_3), (wrap64 (x40_3 + 1)), lF, lF, lF, H', ⟨by have := HK1.out; have := HK2.out; have := HK3.out; omega⟩, ⟨by (try simp only [hl5_1]); (try simp only [hl5_2]); (with_reducible repeat (first | apply Kd.N_alloc | apply Kd.N_drewN | apply Kd.N_drew)); exact HO_5.out⟩, ⟨by (try simp only [hl5_1]); (try simp only [hl5_2]); (with_reducible repeat (first | apply Kd.R_alloc | apply Kd.R_drewN | apply Kd.R_drew)); exact HO_32.out⟩, ⟨by (try simp only [hl5_1]); (try simp only [hl5_2]); (with_reducible repeat (first | apply Kd.N_alloc | apply Kd.N_drewN | apply Kd.N_drew)); exact HO_38.out⟩, ⟨by (try simp only [hl5_1]); (try simp only [hl5_2]); (with_reducible repeat first | apply bN | apply bD | apply bA); exact BK160.out⟩, ⟨lB⟩⟩
               ·rw [if_neg c26] at H
                exact absurd H (by simp)
              ·rw [if_neg c25] at H
               exact absurd H (by simp)
             ·rw [if_neg c24] at H
              have c24b0 : decide (x40_3 < (x5_2.length : Int)) = false := decide_eq_false c24
              (try simp only [hl5_1, hl5_2] at c24b0)
              clear c24
              by_cases c40 : ((rd_T48 t156 x34_2).f1) = 0
              ·rw [if_pos c40] at H
               have c40b0 : (((rd_T48 t156 x34_2).f1) == 0) = true := beq_iff_eq.mpr c40
               have c40b1 : (((rd_T48 t156 x34_2).f1) != 0) = false := bne_eq_false_iff_eq.mpr c40
               clear c40
               have H' := Aside0.mk H
               clear H
               obtain ⟨hcz41_0, hfz41_0, hcz41_1, hfz41_1, hcz41_2, hfz41_2⟩ := bk3 BK160.out
               go_wp2
               repeat (go_quiet (fail); try go_wp2)
               (try simp only [← hl5_2])
               go_roundg k3
               case measure => have := HK1.out; have := HK2.out; have := HK3.out; omega
               case rel => exact ⟨(x5_2), (wrap64 (x34_2 + 1)), lF, H', ⟨by have := HK1.out; have := HK2.out; have := HK3.out; omega⟩, ⟨by (try simp only [hl5_1]); (try simp only [hl5_2]); (with_reducible repeat (first | apply Kd.N_alloc | apply Kd.N_drewN | apply Kd.N_drew)); exact Kd.N_mono HO_5.out (fun _ hk => ⟨hk.1, hk.2.1⟩)⟩, ⟨by (try simp only [hl5_1]); (try simp only [hl5_2]); (with_reducible repeat (first | apply Kd.R_alloc | apply Kd.R_drewN | apply Kd.R_drew)); exact Kd.R_mono HO_32.out (fun _ hk => hk.1)⟩, ⟨lB⟩⟩
              ·rw [if_neg c40] at H
               have c40b0 : (((rd_T48 t156 x34_2).f1) == 0) = false := beq_eq_false_iff_ne.mpr c40
               have c40b1 : (((rd_T48 t156 x34_2).f1) != 0) = true := bne_iff_ne.mpr c40
               by_cases c42 : x9_3 < 0
               ·rw [if_pos c42] at H
                have c42b0 : decide (x9_3 < 0) = true := decide_eq_true c42
                clear c42
                have H' := Aside0.mk H
                clear H
                obtain ⟨hcz43_0, hfz43_0, hcz43_1, hfz43_1, hcz43_2, hfz43_2⟩ := bk3 BK160.out
                go_wp2
                repeat (go_quiet (fail); try go_wp2)
                (try simp only [← hl5_2])
                go_roundg k3
                case measure => have := HK1.out; have := HK2.out; have := HK3.out; omega
                case rel => exact ⟨(x5_2), (wrap64 (x34_2 + 1)), lF, H', ⟨by have := HK1.out; have := HK2.out; have := HK3.out; omega⟩, ⟨by (try simp only [hl5_1]); (try simp only [hl5_2]); (with_reducible repeat (first | apply Kd.N_alloc | apply Kd.N_drewN | apply Kd.N_drew)); exact Kd.N_mono HO_5.out (fun _ hk => ⟨hk.1, hk.2.1⟩)⟩, ⟨by (try simp only [hl5_1]); (try simp only [hl5_2]); (with_reducible repeat (first | apply Kd.R_alloc | apply Kd.R_drewN | apply Kd.R_drew)); exact Kd.R_mono HO_32.out (fun _ hk => hk.1)⟩, ⟨lB⟩⟩
               ·rw [if_neg c42] at H
                have c42b0 : decide (x9_3 < 0) = false := decide_eq_false c42
                clear c42
                by_cases c44 : x10_3 < 0
                ·rw [if_pos c44] at H
                 have c44b0 : decide (x10_3 < 0) = true := decide_eq_true c44
                 clear c44
                 have H' := Aside0.mk H
                 clear H
                 obtain ⟨hcz45_0, hfz45_0, hcz45_1, hfz45_1, hcz45_2, hfz45_2⟩ := bk3 BK160.out
                 go_wp2
                 repeat (go_quiet (fail); try go_wp2)
                 (try simp only [← hl5_2])
                 go_roundg k3
                 case measure => have := HK1.out; have := HK2.out; have := HK3.out; omega
                 case rel => exact ⟨(x5_2), (wrap64 (x34_2 + 1)), lF, H', ⟨by have := HK1.out; have := HK2.out; have := HK3.out; omega⟩, ⟨by (try simp only [hl5_1]); (try simp only [hl5_2]); (with_reducible repeat (first | apply Kd.N_alloc | apply Kd.N_drewN | apply Kd.N_drew)); exact Kd.N_mono HO_5.out (fun _ hk => ⟨hk.1, hk.2.1⟩)⟩, ⟨by (try simp only [hl5_1]); (try simp only [hl5_2]); (with_reducible repeat (first | apply Kd.R_alloc | apply Kd.R_drewN | apply Kd.R_drew)); exact Kd.R_mono HO_32.out (fun _ hk => hk.1)⟩, ⟨lB⟩⟩
                ·rw [if_neg c44] at H
                 have c44b0 : decide (x10_3 < 0) = false := decide_eq_false c44
                 clear c44
                 by_cases c46 : x9_3 = x10_3
                 ·rw [if_pos c46] at H
                  have c46b0 : (x9_3 == x10_3) = true := beq_iff_eq.mpr c46
                  have c46b1 : (x9_3 != x10_3) = false := bne_eq_false_iff_eq.mpr c46
                  clear c46
                  have H' := Aside0.mk H
                  clear H
                  obtain ⟨hcz47_0, hfz47_0, hcz47_1, hfz47_1, hcz47_2, hfz47_2⟩ := bk3 BK160.out
                  go_wp2
                  repeat (go_quiet (fail); try go_wp2)
                  (try simp only [← hl5_2])
                  go_roundg k3
                  case measure => have := HK1.out; have := HK2.out; have := HK3.out; omega
                  case rel => exact ⟨(x5_2), (wrap64 (x34_2 + 1)), lF, H', ⟨by have := HK1.out; have := HK2.out; have := HK3.out; omega⟩, ⟨by (try simp only [hl5_1]); (try simp only [hl5_2]); (with_reducible repeat (first | apply Kd.N_alloc | apply Kd.N_drewN | apply Kd.N_drew)); exact Kd.N_mono HO_5.out (fun _ hk => ⟨hk.1, hk.2.1⟩)⟩, ⟨by (try simp only [hl5_1]); (try simp only [hl5_2]); (with_reducible repeat (first | apply Kd.R_alloc | apply Kd.R_drewN | apply Kd.R_drew)); exact Kd.R_mono HO_32.out (fun _ hk => hk.1)⟩, ⟨lB⟩⟩
                 ·rw [if_neg c46] at H
                  have c46b0 : (x9_3 == x10_3) = false := beq_eq_false_iff_ne.mpr c46
                  have c46b1 : (x9_3 != x10_3) = true := bne_iff_ne.mpr c46
                  by_cases c48 : 0 ≤ x10_3
                  ·rw [if_pos c48] at H
                   have c48b0 : decide (0 ≤ x10_3) = true := decide_eq_true c48
                   clear c48
                   by_cases c49 : x10_3 < (x5_2.length : Int)
                   ·rw [if_pos c49] at H
                    have c49b0 : decide (x10_3 < (x5_2.length : Int)) = true := decide_eq_true c49
                    (try simp only [hl5_1, hl5_2] at c49b0)
                    clear c49
                    obtain ⟨y166, hy166⟩ : ∃ y_ : List Int, y_ = (([] : List Int)) := ⟨_, rfl⟩
                    replace H : (if 0 ≤ x9_3 then (if x9_3 < (x5_2.length : Int) then (if y166.length + (rd_L5 x5_2 x9_3).length < 17592186044416 then ((some (y166 ++ (rd_L5 x5_2 x9_3) : List Int)).bind fun y170 => (if y170.length + (rd_L5 x5_2 x10_3).length < 17592186044416 then (spec_l11Chains.l1 k3 a0 ((x5_2.set (x9_3 : Int).toNat (y170 ++ (rd_L5 x5_2 x10_3))).set (x10_3 : Int).toNat ([] : List Int)) t156 (t156.length : Int) (wrap64 (x34_2 + 1))) else (none))) else (none)) else (none)) else (none)) = some r := by first | (rw [hy166]; with_reducible exact H) | (have H2_ := (Option.bind_some _ _).symm.trans H; rw [hy166]; with_reducible exact H2_) | (have H2_ := (Option.bind_some _ _).symm.trans H; with_reducible exact H2_) | with_reducible exact H | (rw [hy166]; exact H) | exact H
                    have Ny166 := Aside0.mk hy166
                    clear hy166
                    by_cases c50 : 0 ≤ x9_3
                    ·rw [if_pos c50] at H
                     have c50b0 : decide (0 ≤ x9_3) = true := decide_eq_true c50
                     clear c50
                     by_cases c51 : x9_3 < (x5_2.length : Int)
                     ·rw [if_pos c51] at H
                      have c51b0 : decide (x9_3 < (x5_2.length : Int)) = true := decide_eq_true c51
                      (try simp only [hl5_1, hl5_2] at c51b0)
                      clear c51
                      by_cases c52 : y166.length + (rd_L5 x5_2 x9_3).length < 17592186044416
                      ·rw [if_pos c52] at H
                       have LMc52 := Aside0.mk c52
                       clear c52
                       obtain ⟨y170, hy170⟩ : ∃ y_ : List Int, y_ = (y166 ++ (rd_L5 x5_2 x9_3)) := ⟨_, rfl⟩
                       replace H : (if y170.length + (rd_L5 x5_2 x10_3).length < 17592186044416 then (spec_l11Chains.l1 k3 a0 ((x5_2.set (x9_3 : Int).toNat (y170 ++ (rd_L5 x5_2 x10_3))).set (x10_3 : Int).toNat ([] : List Int)) t156 (t156.length : Int) (wrap64 (x34_2 + 1))) else (none)) = some r := by first | (rw [hy170]; with_reducible exact H) | (have H2_ := (Option.bind_some _ _).symm.trans H; rw [hy170]; with_reducible exact H2_) | (have H2_ := (Option.bind_some _ _).symm.trans H; with_reducible exact H2_) | with_reducible exact H | (rw [hy170]; exact H) | exact H
                       have Ny170 := Aside0.mk hy170
                       clear hy170
                       by_cases c53 : y170.length + (rd_L5 x5_2 x10_3).length < 17592186044416
                       ·rw [if_pos c53] at H
                        have LMc53 := Aside0.mk c53
                        clear c53
                        obtain ⟨y173, hy173⟩ : ∃ y_ : List Int, y_ = (y170 ++ (rd_L5 x5_2 x10_3)) := ⟨_, rfl⟩
                        replace H : (spec_l11Chains.l1 k3 a0 ((x5_2.set (x9_3 : Int).toNat y173).set (x10_3 : Int).toNat ([] : List Int)) t156 (t156.length : Int) (wrap64 (x34_2 + 1))) = some r := by first | (rw [hy173]; with_reducible exact H) | (have H2_ := (Option.bind_some _ _).symm.trans H; rw [hy173]; with_reducible exact H2_) | (have H2_ := (Option.bind_some _ _).symm.trans H; with_reducible exact H2_) | with_reducible exact H | (rw [hy173]; exact H) | exact H
                        have Ny173 := Aside0.mk hy173
                        clear hy173
                        obtain ⟨y176, hy176⟩ : ∃ y_ : List (List Int), y_ = (x5_2.set (x9_3 : Int).toNat y173) := ⟨_, rfl⟩
                        replace H : (spec_l11Chains.l1 k3 a0 (y176.set (x10_3 : Int).toNat ([] : List Int)) t156 (t156.length : Int) (wrap64 (x34_2 + 1))) = some r := by first | (rw [hy176]; with_reducible exact H) | (have H2_ := (Option.bind_some _ _).symm.trans H; rw [hy176]; with_reducible exact H2_) | (have H2_ := (Option.bind_some _ _).symm.trans H; with_reducible exact H2_) | with_reducible exact H | (rw [hy176]; exact H) | exact H
                        have Ny176 := Aside0.mk hy176
                        clear hy176
                        obtain ⟨y177, hy177⟩ : ∃ y_ : List (List Int), y_ = (y176.set (x10_3 : Int).toNat ([] : List Int)) := ⟨_, rfl⟩
                        replace H : (spec_l11Chains.l1 k3 a0 y177 t156 (t156.length : Int) (wrap64 (x34_2 + 1))) = some r := by first | (rw [hy177]; with_reducible exact H) | (have H2_ := (Option.bind_some _ _).symm.trans H; rw [hy177]; with_reducible exact H2_) | (have H2_ := (Option.bind_some _ _).symm.trans H; with_reducible exact H2_) | with_reducible exact H | (rw [hy177]; exact H) | exact H
                        have Ny177 := Aside0.mk hy177
                        clear hy177
                        have H' := Aside0.mk H
                        clear H
                        obtain ⟨hcz56_0, hfz56_0, hcz56_1, hfz56_1, hcz56_2, hfz56_2⟩ := bk3 BK160.out
                        have p165 : 0 ≤ (x10_3 : Int) := lD
                        have q165 : x10_3 < (x5_2.length : Int) := lD
                        obtain ⟨ad165, A165_0, c165_0, e165, hx165_0, hl165_0, hi165_0⟩ := at_L5 (Kd.N_reads' HO_5.out).2.2 x10_3 p165 q165
                        cases e165
                        obtain ⟨ce165, hce165, hMe165, hcc165⟩ := Kd.N_get HO_5.out [] x10_3 p165 (by first | exact q165 | exact lD | (have e_ := (Kd.N_reads' HO_5.out).1; omega))
                        obtain ⟨ua165_0, uc165_0, rfl, ul165_0, ge165_0⟩ := Kd.FK_slice_open hMe165
                        have hv165_0 := hcc165 0 _ rfl
                        rw [Nat.add_zero, show ((Kd.slice 3 (Kd.int .i64))).sz = 1 from rfl, Nat.mul_one] at hv165_0
                        replace hv165_0 := Option.some.inj (hv165_0.symm.trans hx165_0)
                        injection hv165_0 with hva_ hvn_ hvc_
                        rw [hva_] at ge165_0
                        rw [hvc_] at ul165_0
                        have HL165_0 := Aside0.mk (show Kd.V (Kd.int .i64) 3 _ w.heap.size _ _ (rd_L5 x5_2 x10_3) from Kd.V_mk ul165_0 ge165_0)
                        clear hva_ hvn_ hvc_ ge165_0 ul165_0
                        clear hcc165 hce165
                        have HR165_0 := Aside0.mk hi165_0
                        have HC165_0 := Aside0.mk hl165_0
                        clear hi165_0 hl165_0
                        replace p165 := eq_true p165
                        replace q165 := eq_true q165
                        go_wp2_with (first | ((with_reducible refine gate_dst (N := 95) rfl ?_); (try (refine gate_guard (by rfl) ?_; dsimp only)); refine Kd.R_lit (Kd.int .i64) _ 3 ?hg (N := 95) ?hd (xs := ([] : List Int)) (inner := []) (ok := fun _ => True) (okp := fun _ => True) ?hr ?hp (fun _ hk => hk) trivial (Below.refl _ _) (Nat.le_refl _) (by simp) ?_; (case hd => rfl); (case hg => rfl); (case hr => first | (go_simp; done) | (go_simp; rfl)); (case hp => exact (Reps.none _ _)); intro v167 w57 ho58 hb hg_ hnew_; clear hg_ hnew_; (first | rw [← Ny166.out] at ho58 | (simp only [Int.reduceToNat] at ho58; rw [← Ny166.out] at ho58)); have n0_ := Aside0.mk (Kd.N_elder' (by (with_reducible repeat (first | apply Kd.N_alloc | apply Kd.N_drewN | apply Kd.N_drew)); exact HO_5.out) (Kd.R_base ho58) hb); have n1_ := Aside0.mk (Kd.R_below (lR HO_32.out) hb); have n2_ := Aside0.mk (Kd.N_elder' (by (with_reducible repeat (first | apply Kd.N_alloc | apply Kd.N_drewN | apply Kd.N_drew)); exact HO_38.out) (Kd.R_base ho58) hb); have n3_ := Aside0.mk (Kd.V_elder' (by (with_reducible repeat (first | apply Kd.V_alloc | apply Kd.V_drewN | apply Kd.V_drew)); exact HL165_0.out) (Kd.R_base ho58) hb); have n4_ := Aside0.mk (Kd.R_lower (Kd.R_newM (M := fun k_ => (w.heap.size ≤ k_)) ho58 (below_size lB) (fun k_ h_ => h_)) (below_size lB)); have n5_ := Aside0.mk (blk_below (lK BK160.out) hb); have n6_ := Aside0.mk (Kd.C_below (by repeat (first | (with_reducible exact HR165_0.out) | (with_reducible refine Kd.C_alloc ?_ _) | (with_reducible refine Kd.C_drewN ?_ _) | (with_reducible refine Kd.C_drew ?_) | exact HR165_0.out | exact (Kd.V_reads' HL165_0.out).2.2)) hb); have n7_ := Aside0.mk (below_step lB hb); clear HO_5; clear HO_32; clear HO_38; clear HL165_0; clear BK160; clear HR165_0; clear HB; have HO_5 := n0_; have HO_32 := n1_; have HO_38 := n2_; have HL165_0 := n3_; have HO168 := n4_; have BK160 := n5_; have HR165_0 := n6_; have HB := n7_; clear n0_ n1_ n2_ n3_ n4_ n5_ n6_ n7_; clear hb ho58; have p169 : 0 ≤ (x9_3 : Int) := lD; have q169 : x9_3 < (x5_2.length : Int) := lD; obtain ⟨ad169, A169_0, c169_0, e169, hx169_0, hl169_0, hi169_0⟩ := at_L5 (Kd.N_reads' HO_5.out).2.2 x9_3 p169 q169; obtain rfl : ad165 = ad169 := (by injection e169); obtain ⟨ce169, hce169, hMe169, hcc169⟩ := Kd.N_get HO_5.out [] x9_3 p169 (by first | exact q169 | exact lD | (have e_ := (Kd.N_reads' HO_5.out).1; omega)); obtain ⟨ua169_0, uc169_0, rfl, ul169_0, ge169_0⟩ := Kd.FK_slice_open hMe169; have hv169_0 := hcc169 0 _ rfl; rw [Nat.add_zero, show ((Kd.slice 3 (Kd.int .i64))).sz = 1 from rfl, Nat.mul_one] at hv169_0; replace hv169_0 := Option.some.inj (hv169_0.symm.trans hx169_0); injection hv169_0 with hva_ hvn_ hvc_; rw [hva_] at ge169_0; rw [hvc_] at ul169_0; have HL169_0 := Aside0.mk (show Kd.V (Kd.int .i64) 3 _ w.heap.size _ _ (rd_L5 x5_2 x9_3) from Kd.V_mk ul169_0 ge169_0); clear hva_ hvn_ hvc_ ge169_0 ul169_0; clear hcc169 hce169; have HR169_0 := Aside0.mk hi169_0; have HC169_0 := Aside0.mk hl169_0; clear hi169_0 hl169_0; replace p169 := eq_true p169; replace q169 := eq_true q169) | ((with_reducible refine gate_builtin (b := .append) (xs := #[.tmp 95, .tmp 99]) rfl ?_); (try (refine gate_guard (by rfl) ?_; dsimp only)); at_builtin; refine Kd.R_append_rows (Kd.int .i64) (w0 := w) w.heap.size rfl (.tmp 95) (.tmp 99) 34 3 (.int .i64 0) 8 rfl Try.underlying34 info3 rfl (by decide) (by omega) v167 y166 (rd_L5 x5_2 x9_3) _ _ _ (fun k_ => (w.heap.size ≤ k_)) (fun _ => False) rfl rfl ?aO ?aR (fun _ _ h => h) (fun _ h => h.elim) ?aF ?aB ?aS ?aL ?_; (case aR => repeat (first | exact (by repeat (first | (with_reducible exact HR169_0.out) | (with_reducible refine Kd.C_alloc ?_ _) | (with_reducible refine Kd.C_drewN ?_ _) | (with_reducible refine Kd.C_drew ?_) | exact HR169_0.out | exact (Kd.V_reads' HL169_0.out).2.2)) | (with_reducible refine Kd.C_alloc ?_ _) | (with_reducible refine Kd.C_drewN ?_ _) | (with_reducible refine Kd.C_drew ?_))); (case aB => exact lB); (case aF => exact (fun k_ hk => (Nat.le_trans (below_size lB) hk))); (case aO => exact (by (with_reducible repeat (first | apply Kd.R_alloc | apply Kd.R_drewN | apply Kd.R_drew)); exact Kd.R_mono HO168.out (fun _ hk => hk.1))); (case aS => exact (below_size lB)); (case aL => have := LMc52.out; omega); intro v171 w59 ho hb hg hat; rw [← Ny170.out] at ho; have n0_ := Aside0.mk (Kd.N_afterv (ok := (fun k_ => (w.heap.size ≤ k_) ∧ some k_ ≠ (.slice (some ad159) t156.length co18 : Value).ownBlock ∧ k_ ≠ gb160)) (by (with_reducible repeat (first | apply Kd.N_alloc | apply Kd.N_drewN | apply Kd.N_drew)); exact HO_5.out) hg hat); have n1_ := Aside0.mk (Kd.R_over' (lR HO_32.out) (Kd.R_typed (lR HO168.out)) (by decide) hg); have n2_ := Aside0.mk (Kd.N_afterv (ok := (fun k_ => (w.heap.size ≤ k_) ∧ some k_ ≠ (.slice (some ad159) t156.length co18 : Value).ownBlock ∧ k_ ≠ gb160)) (by (with_reducible repeat (first | apply Kd.N_alloc | apply Kd.N_drewN | apply Kd.N_drew)); exact HO_38.out) hg hat); have n3_ := Aside0.mk (blk_grown (lK BK160.out) hg (Kd.R_ne HO168.out BK160.out (by decide))); have n4_ := Aside0.mk (Kd.V_afterv (ok := (fun k_ => (w.heap.size ≤ k_) ∧ some k_ ≠ (.slice (some ad165) x5_2.length co7 : Value).ownBlock ∧ some k_ ≠ (.slice (some ad159) t156.length co18 : Value).ownBlock ∧ k_ ≠ gb160)) (by (with_reducible repeat (first | apply Kd.V_alloc | apply Kd.V_drewN | apply Kd.V_drew)); exact Kd.V_mono HL165_0.out (fun _ hk => ⟨⟨hk.1.1.1, ⟨hk.1.2, ⟨hk.1.1.2.1, hk.1.1.2.2⟩⟩⟩, hk.2⟩)) hg hat); have n5_ := Aside0.mk (Kd.V_afterv (ok := (fun k_ => (w.heap.size ≤ k_) ∧ some k_ ≠ (.slice (some ad165) x5_2.length co7 : Value).ownBlock ∧ some k_ ≠ (.slice (some ad159) t156.length co18 : Value).ownBlock ∧ k_ ≠ gb160)) (by (with_reducible repeat (first | apply Kd.V_alloc | apply Kd.V_drewN | apply Kd.V_drew)); exact Kd.V_mono HL169_0.out (fun _ hk => ⟨⟨hk.1.1.1, ⟨hk.2, ⟨hk.1.1.2.1, hk.1.1.2.2⟩⟩⟩, hk.1.2⟩)) hg hat); have n6_ := Aside0.mk (hb); have n7_ := Aside0.mk (ho); clear HO_5; clear HO_32; clear HO_38; clear BK160; clear HL165_0; clear HL169_0; clear HB; clear HO168; have HO_5 := n0_; have HO_32 := n1_; have HO_38 := n2_; have BK160 := n3_; have HL165_0 := n4_; have HL169_0 := n5_; have HB := n6_; have HO172 := n7_; clear n0_ n1_ n2_ n3_ n4_ n5_ n6_ n7_; clear ho hb hg hat) | ((with_reducible refine gate_builtin (b := .append) (xs := #[.tmp 100, .tmp 101]) rfl ?_); (try (refine gate_guard (by rfl) ?_; dsimp only)); at_builtin; refine Kd.R_append_rows (Kd.int .i64) (w0 := w) w.heap.size rfl (.tmp 100) (.tmp 101) 34 3 (.int .i64 0) 8 rfl Try.underlying34 info3 rfl (by decide) (by omega) v171 y170 (rd_L5 x5_2 x10_3) _ _ _ (fun k_ => (w.heap.size ≤ k_)) (fun _ => False) rfl rfl ?aO ?aR (fun _ _ h => h) (fun _ h => h.elim) ?aF ?aB ?aS ?aL ?_; (case aR => repeat (first | exact ((Kd.V_reads' (by (with_reducible repeat (first | apply Kd.V_alloc | apply Kd.V_drewN | apply Kd.V_drew)); exact HL165_0.out)).2.2) | (with_reducible refine Kd.C_alloc ?_ _) | (with_reducible refine Kd.C_drewN ?_ _) | (with_reducible refine Kd.C_drew ?_))); (case aB => exact lB); (case aF => exact (fun k_ hk => (Nat.le_trans (below_size lB) hk))); (case aO => exact (lR HO172.out)); (case aS => exact (below_size lB)); (case aL => have := LMc53.out; omega); intro v174 w60 ho hb hg hat; rw [← Ny173.out] at ho; have n0_ := Aside0.mk (Kd.N_afterv (ok := (fun k_ => (w.heap.size ≤ k_) ∧ some k_ ≠ (.slice (some ad159) t156.length co18 : Value).ownBlock ∧ k_ ≠ gb160)) (by (with_reducible repeat (first | apply Kd.N_alloc | apply Kd.N_drewN | apply Kd.N_drew)); exact HO_5.out) hg hat); have n1_ := Aside0.mk (Kd.R_over' (lR HO_32.out) (Kd.R_typed (lR HO172.out)) (by decide) hg); have n2_ := Aside0.mk (Kd.N_afterv (ok := (fun k_ => (w.heap.size ≤ k_) ∧ some k_ ≠ (.slice (some ad159) t156.length co18 : Value).ownBlock ∧ k_ ≠ gb160)) (by (with_reducible repeat (first | apply Kd.N_alloc | apply Kd.N_drewN | apply Kd.N_drew)); exact HO_38.out) hg hat); have n3_ := Aside0.mk (blk_grown (lK BK160.out) hg (Kd.R_ne HO172.out BK160.out (by decide))); have n4_ := Aside0.mk (Kd.V_afterv (ok := (fun k_ => (w.heap.size ≤ k_) ∧ some k_ ≠ (.slice (some ad165) x5_2.length co7 : Value).ownBlock ∧ some k_ ≠ (.slice (some ad159) t156.length co18 : Value).ownBlock ∧ k_ ≠ gb160)) (by (with_reducible repeat (first | apply Kd.V_alloc | apply Kd.V_drewN | apply Kd.V_drew)); exact HL165_0.out) hg hat); have n5_ := Aside0.mk (Kd.V_afterv (ok := (fun k_ => (w.heap.size ≤ k_) ∧ some k_ ≠ (.slice (some ad165) x5_2.length co7 : Value).ownBlock ∧ some k_ ≠ (.slice (some ad159) t156.length co18 : Value).ownBlock ∧ k_ ≠ gb160)) (by (with_reducible repeat (first | apply Kd.V_alloc | apply Kd.V_drewN | apply Kd.V_drew)); exact HL169_0.out) hg hat); have n6_ := Aside0.mk (hb); have n7_ := Aside0.mk (ho); clear HO_5; clear HO_32; clear HO_38; clear BK160; clear HL165_0; clear HL169_0; clear HB; clear HO172; have HO_5 := n0_; have HO_32 := n1_; have HO_38 := n2_; have BK160 := n3_; have HL165_0 := n4_; have HL169_0 := n5_; have HB := n6_; have HO175 := n7_; clear n0_ n1_ n2_ n3_ n4_ n5_ n6_ n7_; clear ho hb hg hat; have p54 : 0 ≤ (x9_3 : Int) := lD; have q54 : (x9_3 : Int) < ((x5_2.length : Int) : Int) := lD; obtain ⟨go54, co54, eo54, gb54, gl54, cl54, HG54⟩ := Kd.N_form HO_5.out (by omega); (first | cases eo54 | (injection eo54 with ea_ en_ ec_; (first | subst ea_ | (injection ea_ with ea_; subst ea_)); subst ec_; clear en_)); have GB54 := Aside0.mk gb54; have GG54 := Aside0.mk HG54; clear gb54 gl54 HG54; (first | simp only [add_plain] at hx165_0 | skip); (first | simp only [add_plain] at hx169_0 | skip); obtain ⟨ce54, hcl54, hM54, hcc54, hfr54⟩ := Kd.N_elem HO_5.out [] (x9_3 : Int) p54 q54; obtain ⟨ua54_0, uc54_0, rfl, ul54_0, ge54_0⟩ := Kd.FK_slice_open hM54; have hx54_0 := hcc54 0 _ rfl; have hf54_0 := hfr54 0; (try simp only [show ((Kd.slice 3 (Kd.int .i64))).sz = 1 from rfl, Nat.mul_one, Nat.add_zero] at hx54_0); (try simp only [show ((Kd.slice 3 (Kd.int .i64))).sz = 1 from rfl, Nat.mul_one, Nat.add_zero] at hf54_0); clear hcl54 hcc54 hfr54; (try clear hM54); replace p54 := eq_true p54; replace q54 := eq_true q54; have n_ := Aside0.mk (Kd.N_mono (ok' := (fun k_ => (w.heap.size ≤ k_) ∧ some k_ ≠ (.slice (some ad159) t156.length co18 : Value).ownBlock ∧ some k_ ≠ (v174 : Value).ownBlock ∧ k_ ≠ gb160)) HO_5.out (fun k_ hk => ⟨hk.1.1, ⟨hk.1.2.1, ⟨hk.2, hk.1.2.2⟩⟩⟩)); clear HO_5; have HO_5 := n_; clear n_; have HX61 := Aside0.mk (show Kd.N (Kd.slice 3 (Kd.int .i64)) 34 w60 w.heap.size (fun k_ => (w.heap.size ≤ k_) ∧ some k_ ≠ (.slice (some ad159) t156.length co18 : Value).ownBlock ∧ k_ ≠ gb160) (.slice (some ⟨go54, 0, none⟩) x5_2.length co7) x5_2 from (by (with_reducible repeat (first | apply Kd.N_alloc | apply Kd.N_drewN | apply Kd.N_drew)); exact Kd.N_mono HO_5.out (fun _ hk => ⟨hk.1, ⟨hk.2.1, hk.2.2.2⟩⟩))); obtain ⟨ce61, hcl61, hM61, hcc61, hfr61⟩ := Kd.N_elem HX61.out [] (x9_3 : Int) (lD) (by have h_ : (x9_3 : Int) < ((x5_2.length : Int) : Int) := lD; first | exact h_ | (have e_ := (Kd.N_reads' HO_5.out).1; omega) | simpa using h_); obtain ⟨ua61_0, uc61_0, rfl, ul61_0, ge61_0⟩ := Kd.FK_slice_open hM61; obtain ⟨As174, cs174, es174⟩ := Kd.R_slice HO175.out; subst es174; have HP61 := Kd.N_seg HX61.out (x9_3 : Int) (lD) (by have h_ : (x9_3 : Int) < ((x5_2.length : Int) : Int) := lD; first | exact h_ | (have e_ := (Kd.N_reads' HO_5.out).1; omega) | simpa using h_) (seg := [(.slice As174 y173.length cs174)]) (j := 0) hcl61 hcc61 (show 1 ≤ 1 from by decide) (x' := y173) (Kd.FK_slice_mk (Kd.R_reads' (Kd.R_mono (ok' := (fun k_ => ((fun k_ => (w.heap.size ≤ k_) ∧ some k_ ≠ (.slice (some ad159) t156.length co18 : Value).ownBlock ∧ k_ ≠ gb160)) k_ ∧ k_ ≠ go54)) (Kd.R_types (Kd.R_apart' (Kd.R_apart' (HO175.out) (Kd.R_typed HO_32.out) (by decide)) (Kd.N_typed HO_5.out) (by decide)) BK160.out (by decide)) (fun k_ hk => ⟨⟨hk.1.1.1, ⟨hk.1.1.2, hk.2⟩⟩, fun e_ => (hk.1.2) (by rw [e_]; rfl)⟩))).2.1 (Kd.R_F (Kd.R_mono (ok' := (fun k_ => ((fun k_ => (w.heap.size ≤ k_) ∧ some k_ ≠ (.slice (some ad159) t156.length co18 : Value).ownBlock ∧ k_ ≠ gb160)) k_ ∧ k_ ≠ go54)) (Kd.R_types (Kd.R_apart' (Kd.R_apart' (HO175.out) (Kd.R_typed HO_32.out) (by decide)) (Kd.N_typed HO_5.out) (by decide)) BK160.out (by decide)) (fun k_ hk => ⟨⟨hk.1.1.1, ⟨hk.1.1.2, hk.2⟩⟩, fun e_ => (hk.1.2) (by rw [e_]; rfl)⟩)))) (fun _ hk => hk); have hx61_0 := hcc61 0 _ rfl; (try simp only [show ((Kd.slice 3 (Kd.int .i64))).sz = 1 from rfl, Nat.mul_one, Nat.add_zero] at hx61_0); have hf61_0 := hfr61 0; (try simp only [show ((Kd.slice 3 (Kd.int .i64))).sz = 1 from rfl, Nat.mul_one, Nat.add_zero] at hf61_0); clear hcl61 hcc61 hfr61; (try clear hM61); (try simp only [show ((Kd.slice 3 (Kd.int .i64))).sz = 1 from rfl, Nat.mul_one, Nat.add_zero] at HP61); (try simp only [show ((Kd.slice 3 (Kd.int .i64))).sz = 1 from rfl, Nat.mul_one, Nat.add_zero] at HP61)) | ((with_reducible refine gate_store (t := 34) (p := 103) rfl ?_); (try (rw [drewN_self w60]; generalize hq_ : World.drewN w60 _ = w60; have n0_ := Aside0.mk (Kd.N_at hq_ HO_5.out); have n1_ := Aside0.mk (Kd.R_at hq_ HO_32.out); have n2_ := Aside0.mk (Kd.V_at hq_ HL165_0.out); have n3_ := Aside0.mk (Kd.V_at hq_ HL169_0.out); have n4_ := Aside0.mk (blk_at hq_ BK160.out); have n5_ := Aside0.mk (below_at hq_ HB.out); clear hq_ HO_5 HO_32 HL165_0 HL169_0 BK160 HB; have HO_5 := n0_; have HO_32 := n1_; have HL165_0 := n2_; have HL169_0 := n3_; have BK160 := n4_; have HB := n5_; clear n0_ n1_ n2_ n3_ n4_ n5_; (try (have n_ := Aside0.mk (Kd.N_mono (ok' := (fun k_ => (w.heap.size ≤ k_) ∧ some k_ ≠ (.slice (some ad159) t156.length co18 : Value).ownBlock ∧ some k_ ≠ ((.slice As174 y173.length cs174) : Value).ownBlock ∧ k_ ≠ gb160)) HO_5.out (fun k_ hk => ⟨hk.1.1, ⟨hk.1.2.1, ⟨hk.2, hk.1.2.2⟩⟩⟩)); clear HO_5; have HO_5 := n_; clear n_)); (try (have HX61 := Aside0.mk (show Kd.N (Kd.slice 3 (Kd.int .i64)) 34 w60 w.heap.size (fun k_ => (w.heap.size ≤ k_) ∧ some k_ ≠ (.slice (some ad159) t156.length co18 : Value).ownBlock ∧ k_ ≠ gb160) (.slice (some ⟨go54, 0, none⟩) x5_2.length co7) x5_2 from (by (with_reducible repeat (first | apply Kd.N_alloc | apply Kd.N_drewN | apply Kd.N_drew)); exact Kd.N_mono HO_5.out (fun _ hk => ⟨hk.1, ⟨hk.2.1, hk.2.2.2⟩⟩))))); (try (obtain ⟨ce61, hcl61, hM61, hcc61, hfr61⟩ := Kd.N_elem HX61.out [] (x9_3 : Int) (lD) (by have h_ : (x9_3 : Int) < ((x5_2.length : Int) : Int) := lD; first | exact h_ | (have e_ := (Kd.N_reads' HO_5.out).1; omega) | simpa using h_))); (try (obtain ⟨ua61_0, uc61_0, rfl, ul61_0, ge61_0⟩ := Kd.FK_slice_open hM61)); (try (have HP61 := Kd.N_seg HX61.out (x9_3 : Int) (lD) (by have h_ : (x9_3 : Int) < ((x5_2.length : Int) : Int) := lD; first | exact h_ | (have e_ := (Kd.N_reads' HO_5.out).1; omega) | simpa using h_) (seg := [(.slice As174 y173.length cs174)]) (j := 0) hcl61 hcc61 (show 1 ≤ 1 from by decide) (x' := y173) (Kd.FK_slice_mk (Kd.R_reads' (Kd.R_mono (ok' := (fun k_ => ((fun k_ => (w.heap.size ≤ k_) ∧ some k_ ≠ (.slice (some ad159) t156.length co18 : Value).ownBlock ∧ k_ ≠ gb160)) k_ ∧ k_ ≠ go54)) (Kd.R_types (Kd.R_apart' (Kd.R_apart' (HO175.out) (Kd.R_typed HO_32.out) (by decide)) (Kd.N_typed HO_5.out) (by decide)) BK160.out (by decide)) (fun k_ hk => ⟨⟨hk.1.1.1, ⟨hk.1.1.2, hk.2⟩⟩, fun e_ => (hk.1.2) (by rw [e_]; rfl)⟩))).2.1 (Kd.R_F (Kd.R_mono (ok' := (fun k_ => ((fun k_ => (w.heap.size ≤ k_) ∧ some k_ ≠ (.slice (some ad159) t156.length co18 : Value).ownBlock ∧ k_ ≠ gb160)) k_ ∧ k_ ≠ go54)) (Kd.R_types (Kd.R_apart' (Kd.R_apart' (HO175.out) (Kd.R_typed HO_32.out) (by decide)) (Kd.N_typed HO_5.out) (by decide)) BK160.out (by decide)) (fun k_ hk => ⟨⟨hk.1.1.1, ⟨hk.1.1.2, hk.2⟩⟩, fun e_ => (hk.1.2) (by rw [e_]; rfl)⟩)))) (fun _ hk => hk))); (try (have hx61_0 := hcc61 0 _ rfl)); (try (try simp only [show ((Kd.slice 3 (Kd.int .i64))).sz = 1 from rfl, Nat.mul_one, Nat.add_zero] at hx61_0)); (try (have hf61_0 := hfr61 0)); (try (try simp only [show ((Kd.slice 3 (Kd.int .i64))).sz = 1 from rfl, Nat.mul_one, Nat.add_zero] at hf61_0)); (try (clear hcl61 hcc61 hfr61; (try clear hM61))); (try (try simp only [show ((Kd.slice 3 (Kd.int .i64))).sz = 1 from rfl, Nat.mul_one, Nat.add_zero] at HP61)); (try (try simp only [show ((Kd.slice 3 (Kd.int .i64))).sz = 1 from rfl, Nat.mul_one, Nat.add_zero] at HP61)))); (try have o1_HO172 := (Kd.R_val HO172.out).2); (try have o1_HO175 := (Kd.R_val HO175.out).2); (try have o1_HO_32 := (Kd.R_val HO_32.out).2); (try have o1_HO_38 := (Kd.R_val HO_38.out).2); (try have o1_HO_5 := (Kd.R_val HO_5.out).2); refine store_event (t := 34) (p := 103) (v := ?vo_w62) (w1 := (w60.setCell ⟨go54, (x9_3 : Int).toNat, none⟩ ((.slice As174 y173.length cs174)))) ?hg ?ho ?hn ?hr ?_; (case ho => rfl); (case hg => rfl); (case hn => rfl); (case hr => first | (go_simp; done) | (go_simp; rfl) | (obtain ⟨A_, c_, e_⟩ := Kd.R_slice HO172.out; subst e_; first | (go_simp; done) | (go_simp; rfl)) | (obtain ⟨A_, c_, e_⟩ := Kd.R_slice HO175.out; subst e_; first | (go_simp; done) | (go_simp; rfl)) | (obtain ⟨A_, c_, e_⟩ := Kd.R_slice HO_32.out; subst e_; first | (go_simp; done) | (go_simp; rfl)) | (obtain ⟨A_, c_, e_⟩ := Kd.R_slice HO_38.out; subst e_; first | (go_simp; done) | (go_simp; rfl)) | (obtain ⟨A_, c_, e_⟩ := Kd.R_slice HO_5.out; subst e_; first | (go_simp; done) | (go_simp; rfl)) | (go_simp; repeat (rw [run_store _ _ _ _ _ (by assumption)]; go_simp))); intro w62 hw; have hg : w60.grownBy w62 (some go54) := (by rw [hw]; exact HP61.2); have hp_ : Kd.N (Kd.slice 3 (Kd.int .i64)) 34 w62 w.heap.size (fun k_ => (w.heap.size ≤ k_) ∧ some k_ ≠ (.slice (some ad159) t156.length co18 : Value).ownBlock ∧ k_ ≠ gb160) (.slice (some ⟨go54, 0, none⟩) x5_2.length co7) y176 := (by rw [hw, Ny176.out]; exact HP61.1); clear HP61; have n0_ := Aside0.mk (hp_); have n1_ := Aside0.mk (Kd.R_over' (v := (.slice (some ⟨go54, 0, none⟩) x5_2.length co7)) (lR HO_32.out) (Kd.N_typed HO_5.out) (by decide) hg); have n2_ := Aside0.mk (blk_grown (lK BK160.out) hg (Kd.N_ne HO_5.out BK160.out (by decide))); have n3_ := Aside0.mk (Kd.V_afterv (v := (.slice (some ⟨go54, 0, none⟩) x5_2.length co7)) (v1 := (.slice (some ⟨go54, 0, none⟩) x5_2.length co7)) (ok := (fun k_ => (w.heap.size ≤ k_) ∧ some k_ ≠ (.slice (some ad159) t156.length co18 : Value).ownBlock ∧ some k_ ≠ ((.slice As174 y173.length cs174) : Value).ownBlock ∧ k_ ≠ gb160)) (by (with_reducible repeat (first | apply Kd.V_alloc | apply Kd.V_drewN | apply Kd.V_drew)); exact Kd.V_mono HL165_0.out (fun _ hk => ⟨⟨hk.1.1, ⟨hk.1.2.2.1, ⟨hk.2, hk.1.2.2.2⟩⟩⟩, hk.1.2.1⟩)) hg (.inl rfl)); have n4_ := Aside0.mk (Kd.V_afterv (v := (.slice (some ⟨go54, 0, none⟩) x5_2.length co7)) (v1 := (.slice (some ⟨go54, 0, none⟩) x5_2.length co7)) (ok := (fun k_ => (w.heap.size ≤ k_) ∧ some k_ ≠ (.slice (some ad159) t156.length co18 : Value).ownBlock ∧ some k_ ≠ ((.slice As174 y173.length cs174) : Value).ownBlock ∧ k_ ≠ gb160)) (by (with_reducible repeat (first | apply Kd.V_alloc | apply Kd.V_drewN | apply Kd.V_drew)); exact Kd.V_mono HL169_0.out (fun _ hk => ⟨⟨hk.1.1, ⟨hk.1.2.2.1, ⟨hk.2, hk.1.2.2.2⟩⟩⟩, hk.1.2.1⟩)) hg (.inl rfl)); have n5_ := Aside0.mk ((by rw [hw]; exact below_set (HB.out) GB54.out : Below w.heap.size w w62)); clear HO_5; clear HO_32; clear BK160; clear HL165_0; clear HL169_0; clear HB; clear HO175; have HO_5 := n0_; have HO_32 := n1_; have BK160 := n2_; have HL165_0 := n3_; have HL169_0 := n4_; have HB := n5_; clear n0_ n1_ n2_ n3_ n4_ n5_; clear hg hw hp_; have p55 : 0 ≤ (x10_3 : Int) := lD; have q55 : (x10_3 : Int) < ((x5_2.length : Int) : Int) := lD; obtain ⟨ce55, hcl55, hM55, hcc55, hfr55⟩ := Kd.N_elem HO_5.out [] (x10_3 : Int) p55 q55; obtain ⟨ua55_0, uc55_0, rfl, ul55_0, ge55_0⟩ := Kd.FK_slice_open hM55; have hx55_0 := hcc55 0 _ rfl; have hf55_0 := hfr55 0; (try simp only [show ((Kd.slice 3 (Kd.int .i64))).sz = 1 from rfl, Nat.mul_one, Nat.add_zero] at hx55_0); (try simp only [show ((Kd.slice 3 (Kd.int .i64))).sz = 1 from rfl, Nat.mul_one, Nat.add_zero] at hf55_0); clear hcl55 hcc55 hfr55; (try clear hM55); replace p55 := eq_true p55; replace q55 := eq_true q55; have HX63 := Aside0.mk (show Kd.N (Kd.slice 3 (Kd.int .i64)) 34 w62 w.heap.size (fun k_ => (w.heap.size ≤ k_) ∧ some k_ ≠ (.slice (some ad159) t156.length co18 : Value).ownBlock ∧ k_ ≠ gb160) (.slice (some ⟨go54, 0, none⟩) x5_2.length co7) y176 from (by (with_reducible repeat (first | apply Kd.N_alloc | apply Kd.N_drewN | apply Kd.N_drew)); exact HO_5.out)); obtain ⟨ce63, hcl63, hM63, hcc63, hfr63⟩ := Kd.N_elem HX63.out [] (x10_3 : Int) (lD) (by have h_ : (x10_3 : Int) < ((x5_2.length : Int) : Int) := lD; first | exact h_ | (have e_ := (Kd.N_reads' HO_5.out).1; omega) | simpa using h_); obtain ⟨ua63_0, uc63_0, rfl, ul63_0, ge63_0⟩ := Kd.FK_slice_open hM63; have HP63 := Kd.N_seg HX63.out (x10_3 : Int) (lD) (by have h_ : (x10_3 : Int) < ((x5_2.length : Int) : Int) := lD; first | exact h_ | (have e_ := (Kd.N_reads' HO_5.out).1; omega) | simpa using h_) (seg := [.slice none 0 0]) (j := 0) hcl63 hcc63 (show 1 ≤ 1 from by decide) (x' := ([] : List Int)) (Kd.FK_slice_mk (Nat.le_refl _) (Kd.F_nil _ _ _)) (fun _ hk => hk); have hx63_0 := hcc63 0 _ rfl; (try simp only [show ((Kd.slice 3 (Kd.int .i64))).sz = 1 from rfl, Nat.mul_one, Nat.add_zero] at hx63_0); have hf63_0 := hfr63 0; (try simp only [show ((Kd.slice 3 (Kd.int .i64))).sz = 1 from rfl, Nat.mul_one, Nat.add_zero] at hf63_0); clear hcl63 hcc63 hfr63; (try clear hM63); (try simp only [show ((Kd.slice 3 (Kd.int .i64))).sz = 1 from rfl, Nat.mul_one, Nat.add_zero] at HP63); (try simp only [show ((Kd.slice 3 (Kd.int .i64))).sz = 1 from rfl, Nat.mul_one, Nat.add_zero] at HP63)) | ((with_reducible refine gate_store (t := 34) (p := 106) rfl ?_); (try (rw [drewN_self w62]; generalize hq_ : World.drewN w62 _ = w62; have n0_ := Aside0.mk (Kd.N_at hq_ HO_5.out); have n1_ := Aside0.mk (Kd.R_at hq_ HO_32.out); have n2_ := Aside0.mk (Kd.V_at hq_ HL165_0.out); have n3_ := Aside0.mk (Kd.V_at hq_ HL169_0.out); have n4_ := Aside0.mk (blk_at hq_ BK160.out); have n5_ := Aside0.mk (below_at hq_ HB.out); clear hq_ HO_5 HO_32 HL165_0 HL169_0 BK160 HB; have HO_5 := n0_; have HO_32 := n1_; have HL165_0 := n2_; have HL169_0 := n3_; have BK160 := n4_; have HB := n5_; clear n0_ n1_ n2_ n3_ n4_ n5_; (try (have HX63 := Aside0.mk (show Kd.N (Kd.slice 3 (Kd.int .i64)) 34 w62 w.heap.size (fun k_ => (w.heap.size ≤ k_) ∧ some k_ ≠ (.slice (some ad159) t156.length co18 : Value).ownBlock ∧ k_ ≠ gb160) (.slice (some ⟨go54, 0, none⟩) x5_2.length co7) y176 from (by (with_reducible repeat (first | apply Kd.N_alloc | apply Kd.N_drewN | apply Kd.N_drew)); exact HO_5.out)))); (try (obtain ⟨ce63, hcl63, hM63, hcc63, hfr63⟩ := Kd.N_elem HX63.out [] (x10_3 : Int) (lD) (by have h_ : (x10_3 : Int) < ((x5_2.length : Int) : Int) := lD; first | exact h_ | (have e_ := (Kd.N_reads' HO_5.out).1; omega) | simpa using h_))); (try (obtain ⟨ua63_0, uc63_0, rfl, ul63_0, ge63_0⟩ := Kd.FK_slice_open hM63)); (try (have HP63 := Kd.N_seg HX63.out (x10_3 : Int) (lD) (by have h_ : (x10_3 : Int) < ((x5_2.length : Int) : Int) := lD; first | exact h_ | (have e_ := (Kd.N_reads' HO_5.out).1; omega) | simpa using h_) (seg := [.slice none 0 0]) (j := 0) hcl63 hcc63 (show 1 ≤ 1 from by decide) (x' := ([] : List Int)) (Kd.FK_slice_mk (Nat.le_refl _) (Kd.F_nil _ _ _)) (fun _ hk => hk))); (try (have hx63_0 := hcc63 0 _ rfl)); (try (try simp only [show ((Kd.slice 3 (Kd.int .i64))).sz = 1 from rfl, Nat.mul_one, Nat.add_zero] at hx63_0)); (try (have hf63_0 := hfr63 0)); (try (try simp only [show ((Kd.slice 3 (Kd.int .i64))).sz = 1 from rfl, Nat.mul_one, Nat.add_zero] at hf63_0)); (try (clear hcl63 hcc63 hfr63; (try clear hM63))); (try (try simp only [show ((Kd.slice 3 (Kd.int .i64))).sz = 1 from rfl, Nat.mul_one, Nat.add_zero] at HP63)); (try (try simp only [show ((Kd.slice 3 (Kd.int .i64))).sz = 1 from rfl, Nat.mul_one, Nat.add_zero] at HP63)))); refine store_event (t := 34) (p := 106) (v := ?vo_w64) (w1 := (w62.setCell ⟨go54, (x10_3 : Int).toNat, none⟩ (.slice none 0 0))) ?hg ?ho ?hn ?hr ?_; (case ho => rfl); (case hg => rfl); (case hn => rfl); (case hr => first | (go_simp; done) | (go_simp; rfl)); intro w64 hw; have hg : w62.grownBy w64 (some go54) := (by rw [hw]; exact HP63.2); have hp_ : Kd.N (Kd.slice 3 (Kd.int .i64)) 34 w64 w.heap.size (fun k_ => (w.heap.size ≤ k_) ∧ some k_ ≠ (.slice (some ad159) t156.length co18 : Value).ownBlock ∧ k_ ≠ gb160) (.slice (some ⟨go54, 0, none⟩) x5_2.length co7) y177 := (by rw [hw, Ny177.out]; exact HP63.1); clear HP63; have n0_ := Aside0.mk (hp_); have n1_ := Aside0.mk (Kd.R_over' (v := (.slice (some ⟨go54, 0, none⟩) x5_2.length co7)) (lR HO_32.out) (Kd.N_typed HO_5.out) (by decide) hg); have n2_ := Aside0.mk (blk_grown (lK BK160.out) hg (Kd.N_ne HO_5.out BK160.out (by decide))); have n3_ := Aside0.mk (Kd.V_afterv (v := (.slice (some ⟨go54, 0, none⟩) x5_2.length co7)) (v1 := (.slice (some ⟨go54, 0, none⟩) x5_2.length co7)) (ok := (fun k_ => (w.heap.size ≤ k_) ∧ some k_ ≠ (.slice (some ad159) t156.length co18 : Value).ownBlock ∧ k_ ≠ gb160)) (by (with_reducible repeat (first | apply Kd.V_alloc | apply Kd.V_drewN | apply Kd.V_drew)); exact Kd.V_mono HL165_0.out (fun _ hk => ⟨⟨hk.1.1, ⟨hk.1.2.1, hk.1.2.2.2⟩⟩, hk.2⟩)) hg (.inl rfl)); have n4_ := Aside0.mk (Kd.V_afterv (v := (.slice (some ⟨go54, 0, none⟩) x5_2.length co7)) (v1 := (.slice (some ⟨go54, 0, none⟩) x5_2.length co7)) (ok := (fun k_ => (w.heap.size ≤ k_) ∧ some k_ ≠ (.slice (some ad159) t156.length co18 : Value).ownBlock ∧ k_ ≠ gb160)) (by (with_reducible repeat (first | apply Kd.V_alloc | apply Kd.V_drewN | apply Kd.V_drew)); exact Kd.V_mono HL169_0.out (fun _ hk => ⟨⟨hk.1.1, ⟨hk.1.2.1, hk.1.2.2.2⟩⟩, hk.2⟩)) hg (.inl rfl)); have n5_ := Aside0.mk ((by rw [hw]; exact below_set (HB.out) GB54.out : Below w.heap.size w w64)); clear HO_5; clear HO_32; clear BK160; clear HL165_0; clear HL169_0; clear HB; have HO_5 := n0_; have HO_32 := n1_; have BK160 := n2_; have HL165_0 := n3_; have HL169_0 := n4_; have HB := n5_; clear n0_ n1_ n2_ n3_ n4_ n5_; clear hg hw hp_))
                        repeat (go_quiet (fail); try go_wp2_with (first | ((with_reducible refine gate_dst (N := 95) rfl ?_); (try (refine gate_guard (by rfl) ?_; dsimp only)); refine Kd.R_lit (Kd.int .i64) _ 3 ?hg (N := 95) ?hd (xs := ([] : List Int)) (inner := []) (ok := fun _ => True) (okp := fun _ => True) ?hr ?hp (fun _ hk => hk) trivial (Below.refl _ _) (Nat.le_refl _) (by simp) ?_; (case hd => rfl); (case hg => rfl); (case hr => first | (go_simp; done) | (go_simp; rfl)); (case hp => exact (Reps.none _ _)); intro v167 w57 ho58 hb hg_ hnew_; clear hg_ hnew_; (first | rw [← Ny166.out] at ho58 | (simp only [Int.reduceToNat] at ho58; rw [← Ny166.out] at ho58)); have n0_ := Aside0.mk (Kd.N_elder' (by (with_reducible repeat (first | apply Kd.N_alloc | apply Kd.N_drewN | apply Kd.N_drew)); exact HO_5.out) (Kd.R_base ho58) hb); have n1_ := Aside0.mk (Kd.R_below (lR HO_32.out) hb); have n2_ := Aside0.mk (Kd.N_elder' (by (with_reducible repeat (first | apply Kd.N_alloc | apply Kd.N_drewN | apply Kd.N_drew)); exact HO_38.out) (Kd.R_base ho58) hb); have n3_ := Aside0.mk (Kd.V_elder' (by (with_reducible repeat (first | apply Kd.V_alloc | apply Kd.V_drewN | apply Kd.V_drew)); exact HL165_0.out) (Kd.R_base ho58) hb); have n4_ := Aside0.mk (Kd.R_lower (Kd.R_newM (M := fun k_ => (w.heap.size ≤ k_)) ho58 (below_size lB) (fun k_ h_ => h_)) (below_size lB)); have n5_ := Aside0.mk (blk_below (lK BK160.out) hb); have n6_ := Aside0.mk (Kd.C_below (by repeat (first | (with_reducible exact HR165_0.out) | (with_reducible refine Kd.C_alloc ?_ _) | (with_reducible refine Kd.C_drewN ?_ _) | (with_reducible refine Kd.C_drew ?_) | exact HR165_0.out | exact (Kd.V_reads' HL165_0.out).2.2)) hb); have n7_ := Aside0.mk (below_step lB hb); clear HO_5; clear HO_32; clear HO_38; clear HL165_0; clear BK160; clear HR165_0; clear HB; have HO_5 := n0_; have HO_32 := n1_; have HO_38 := n2_; have HL165_0 := n3_; have HO168 := n4_; have BK160 := n5_; have HR165_0 := n6_; have HB := n7_; clear n0_ n1_ n2_ n3_ n4_ n5_ n6_ n7_; clear hb ho58; have p169 : 0 ≤ (x9_3 : Int) := lD; have q169 : x9_3 < (x5_2.length : Int) := lD; obtain ⟨ad169, A169_0, c169_0, e169, hx169_0, hl169_0, hi169_0⟩ := at_L5 (Kd.N_reads' HO_5.out).2.2 x9_3 p169 q169; obtain rfl : ad165 = ad169 := (by injection e169); obtain ⟨ce169, hce169, hMe169, hcc169⟩ := Kd.N_get HO_5.out [] x9_3 p169 (by first | exact q169 | exact lD | (have e_ := (Kd.N_reads' HO_5.out).1; omega)); obtain ⟨ua169_0, uc169_0, rfl, ul169_0, ge169_0⟩ := Kd.FK_slice_open hMe169; have hv169_0 := hcc169 0 _ rfl; rw [Nat.add_zero, show ((Kd.slice 3 (Kd.int .i64))).sz = 1 from rfl, Nat.mul_one] at hv169_0; replace hv169_0 := Option.some.inj (hv169_0.symm.trans hx169_0); injection hv169_0 with hva_ hvn_ hvc_; rw [hva_] at ge169_0; rw [hvc_] at ul169_0; have HL169_0 := Aside0.mk (show Kd.V (Kd.int .i64) 3 _ w.heap.size _ _ (rd_L5 x5_2 x9_3) from Kd.V_mk ul169_0 ge169_0); clear hva_ hvn_ hvc_ ge169_0 ul169_0; clear hcc169 hce169; have HR169_0 := Aside0.mk hi169_0; have HC169_0 := Aside0.mk hl169_0; clear hi169_0 hl169_0; replace p169 := eq_true p169; replace q169 := eq_true q169) | ((with_reducible refine gate_builtin (b := .append) (xs := #[.tmp 95, .tmp 99]) rfl ?_); (try (refine gate_guard (by rfl) ?_; dsimp only)); at_builtin; refine Kd.R_append_rows (Kd.int .i64) (w0 := w) w.heap.size rfl (.tmp 95) (.tmp 99) 34 3 (.int .i64 0) 8 rfl Try.underlying34 info3 rfl (by decide) (by omega) v167 y166 (rd_L5 x5_2 x9_3) _ _ _ (fun k_ => (w.heap.size ≤ k_)) (fun _ => False) rfl rfl ?aO ?aR (fun _ _ h => h) (fun _ h => h.elim) ?aF ?aB ?aS ?aL ?_; (case aR => repeat (first | exact (by repeat (first | (with_reducible exact HR169_0.out) | (with_reducible refine Kd.C_alloc ?_ _) | (with_reducible refine Kd.C_drewN ?_ _) | (with_reducible refine Kd.C_drew ?_) | exact HR169_0.out | exact (Kd.V_reads' HL169_0.out).2.2)) | (with_reducible refine Kd.C_alloc ?_ _) | (with_reducible refine Kd.C_drewN ?_ _) | (with_reducible refine Kd.C_drew ?_))); (case aB => exact lB); (case aF => exact (fun k_ hk => (Nat.le_trans (below_size lB) hk))); (case aO => exact (by (with_reducible repeat (first | apply Kd.R_alloc | apply Kd.R_drewN | apply Kd.R_drew)); exact Kd.R_mono HO168.out (fun _ hk => hk.1))); (case aS => exact (below_size lB)); (case aL => have := LMc52.out; omega); intro v171 w59 ho hb hg hat; rw [← Ny170.out] at ho; have n0_ := Aside0.mk (Kd.N_afterv (ok := (fun k_ => (w.heap.size ≤ k_) ∧ some k_ ≠ (.slice (some ad159) t156.length co18 : Value).ownBlock ∧ k_ ≠ gb160)) (by (with_reducible repeat (first | apply Kd.N_alloc | apply Kd.N_drewN | apply Kd.N_drew)); exact HO_5.out) hg hat); have n1_ := Aside0.mk (Kd.R_over' (lR HO_32.out) (Kd.R_typed (lR HO168.out)) (by decide) hg); have n2_ := Aside0.mk (Kd.N_afterv (ok := (fun k_ => (w.heap.size ≤ k_) ∧ some k_ ≠ (.slice (some ad159) t156.length co18 : Value).ownBlock ∧ k_ ≠ gb160)) (by (with_reducible repeat (first | apply Kd.N_alloc | apply Kd.N_drewN | apply Kd.N_drew)); exact HO_38.out) hg hat); have n3_ := Aside0.mk (blk_grown (lK BK160.out) hg (Kd.R_ne HO168.out BK160.out (by decide))); have n4_ := Aside0.mk (Kd.V_afterv (ok := (fun k_ => (w.heap.size ≤ k_) ∧ some k_ ≠ (.slice (some ad165) x5_2.length co7 : Value).ownBlock ∧ some k_ ≠ (.slice (some ad159) t156.length co18 : Value).ownBlock ∧ k_ ≠ gb160)) (by (with_reducible repeat (first | apply Kd.V_alloc | apply Kd.V_drewN | apply Kd.V_drew)); exact Kd.V_mono HL165_0.out (fun _ hk => ⟨⟨hk.1.1.1, ⟨hk.1.2, ⟨hk.1.1.2.1, hk.1.1.2.2⟩⟩⟩, hk.2⟩)) hg hat); have n5_ := Aside0.mk (Kd.V_afterv (ok := (fun k_ => (w.heap.size ≤ k_) ∧ some k_ ≠ (.slice (some ad165) x5_2.length co7 : Value).ownBlock ∧ some k_ ≠ (.slice (some ad159) t156.length co18 : Value).ownBlock ∧ k_ ≠ gb160)) (by (with_reducible repeat (first | apply Kd.V_alloc | apply Kd.V_drewN | apply Kd.V_drew)); exact Kd.V_mono HL169_0.out (fun _ hk => ⟨⟨hk.1.1.1, ⟨hk.2, ⟨hk.1.1.2.1, hk.1.1.2.2⟩⟩⟩, hk.1.2⟩)) hg hat); have n6_ := Aside0.mk (hb); have n7_ := Aside0.mk (ho); clear HO_5; clear HO_32; clear HO_38; clear BK160; clear HL165_0; clear HL169_0; clear HB; clear HO168; have HO_5 := n0_; have HO_32 := n1_; have HO_38 := n2_; have BK160 := n3_; have HL165_0 := n4_; have HL169_0 := n5_; have HB := n6_; have HO172 := n7_; clear n0_ n1_ n2_ n3_ n4_ n5_ n6_ n7_; clear ho hb hg hat) | ((with_reducible refine gate_builtin (b := .append) (xs := #[.tmp 100, .tmp 101]) rfl ?_); (try (refine gate_guard (by rfl) ?_; dsimp only)); at_builtin; refine Kd.R_append_rows (Kd.int .i64) (w0 := w) w.heap.size rfl (.tmp 100) (.tmp 101) 34 3 (.int .i64 0) 8 rfl Try.underlying34 info3 rfl (by decide) (by omega) v171 y170 (rd_L5 x5_2 x10_3) _ _ _ (fun k_ => (w.heap.size ≤ k_)) (fun _ => False) rfl rfl ?aO ?aR (fun _ _ h => h) (fun _ h => h.elim) ?aF ?aB ?aS ?aL ?_; (case aR => repeat (first | exact ((Kd.V_reads' (by (with_reducible repeat (first | apply Kd.V_alloc | apply Kd.V_drewN | apply Kd.V_drew)); exact HL165_0.out)).2.2) | (with_reducible refine Kd.C_alloc ?_ _) | (with_reducible refine Kd.C_drewN ?_ _) | (with_reducible refine Kd.C_drew ?_))); (case aB => exact lB); (case aF => exact (fun k_ hk => (Nat.le_trans (below_size lB) hk))); (case aO => exact (lR HO172.out)); (case aS => exact (below_size lB)); (case aL => have := LMc53.out; omega); intro (.slice As174 y173.length cs174) w60 ho hb hg hat; rw [← Ny173.out] at ho; have n0_ := Aside0.mk (Kd.N_afterv (ok := (fun k_ => (w.heap.size ≤ k_) ∧ some k_ ≠ (.slice (some ad159) t156.length co18 : Value).ownBlock ∧ k_ ≠ gb160)) (by (with_reducible repeat (first | apply Kd.N_alloc | apply Kd.N_drewN | apply Kd.N_drew)); exact HO_5.out) hg hat); have n1_ := Aside0.mk (Kd.R_over' (lR HO_32.out) (Kd.R_typed (lR HO172.out)) (by decide) hg); have n2_ := Aside0.mk (Kd.N_afterv (ok := (fun k_ => (w.heap.size ≤ k_) ∧ some k_ ≠ (.slice (some ad159) t156.length co18 : Value).ownBlock ∧ k_ ≠ gb160)) (by (with_reducible repeat (first | apply Kd.N_alloc | apply Kd.N_drewN | apply Kd.N_drew)); exact HO_38.out) hg hat); have n3_ := Aside0.mk (blk_grown (lK BK160.out) hg (Kd.R_ne HO172.out BK160.out (by decide))); have n4_ := Aside0.mk (Kd.V_afterv (ok := (fun k_ => (w.heap.size ≤ k_) ∧ some k_ ≠ (.slice (some ad165) x5_2.length co7 : Value).ownBlock ∧ some k_ ≠ (.slice (some ad159) t156.length co18 : Value).ownBlock ∧ k_ ≠ gb160)) (by (with_reducible repeat (first | apply Kd.V_alloc | apply Kd.V_drewN | apply Kd.V_drew)); exact HL165_0.out) hg hat); have n5_ := Aside0.mk (Kd.V_afterv (ok := (fun k_ => (w.heap.size ≤ k_) ∧ some k_ ≠ (.slice (some ad165) x5_2.length co7 : Value).ownBlock ∧ some k_ ≠ (.slice (some ad159) t156.length co18 : Value).ownBlock ∧ k_ ≠ gb160)) (by (with_reducible repeat (first | apply Kd.V_alloc | apply Kd.V_drewN | apply Kd.V_drew)); exact HL169_0.out) hg hat); have n6_ := Aside0.mk (hb); have n7_ := Aside0.mk (ho); clear HO_5; clear HO_32; clear HO_38; clear BK160; clear HL165_0; clear HL169_0; clear HB; clear HO172; have HO_5 := n0_; have HO_32 := n1_; have HO_38 := n2_; have BK160 := n3_; have HL165_0 := n4_; have HL169_0 := n5_; have HB := n6_; have HO175 := n7_; clear n0_ n1_ n2_ n3_ n4_ n5_ n6_ n7_; clear ho hb hg hat; have p54 : 0 ≤ (x9_3 : Int) := lD; have q54 : (x9_3 : Int) < ((x5_2.length : Int) : Int) := lD; obtain ⟨go54, co54, eo54, gb54, gl54, cl54, HG54⟩ := Kd.N_form HO_5.out (by omega); (first | cases eo54 | (injection eo54 with ea_ en_ ec_; (first | subst ea_ | (injection ea_ with ea_; subst ea_)); subst ec_; clear en_)); have GB54 := Aside0.mk gb54; have GG54 := Aside0.mk HG54; clear gb54 gl54 HG54; (first | simp only [add_plain] at hx165_0 | skip); (first | simp only [add_plain] at hx169_0 | skip); obtain ⟨ce54, hcl54, hM54, hcc54, hfr54⟩ := Kd.N_elem HO_5.out [] (x9_3 : Int) p54 q54; obtain ⟨ua54_0, uc54_0, rfl, ul54_0, ge54_0⟩ := Kd.FK_slice_open hM54; have hx54_0 := hcc54 0 _ rfl; have hf54_0 := hfr54 0; (try simp only [show ((Kd.slice 3 (Kd.int .i64))).sz = 1 from rfl, Nat.mul_one, Nat.add_zero] at hx54_0); (try simp only [show ((Kd.slice 3 (Kd.int .i64))).sz = 1 from rfl, Nat.mul_one, Nat.add_zero] at hf54_0); clear hcl54 hcc54 hfr54; (try clear hM54); replace p54 := eq_true p54; replace q54 := eq_true q54; have n_ := Aside0.mk (Kd.N_mono (ok' := (fun k_ => (w.heap.size ≤ k_) ∧ some k_ ≠ (.slice (some ad159) t156.length co18 : Value).ownBlock ∧ some k_ ≠ ((.slice As174 y173.length cs174) : Value).ownBlock ∧ k_ ≠ gb160)) HO_5.out (fun k_ hk => ⟨hk.1.1, ⟨hk.1.2.1, ⟨hk.2, hk.1.2.2⟩⟩⟩)); clear HO_5; have HO_5 := n_; clear n_; have HX61 := Aside0.mk (show Kd.N (Kd.slice 3 (Kd.int .i64)) 34 w60 w.heap.size (fun k_ => (w.heap.size ≤ k_) ∧ some k_ ≠ (.slice (some ad159) t156.length co18 : Value).ownBlock ∧ k_ ≠ gb160) (.slice (some ⟨go54, 0, none⟩) x5_2.length co7) x5_2 from (by (with_reducible repeat (first | apply Kd.N_alloc | apply Kd.N_drewN | apply Kd.N_drew)); exact Kd.N_mono HO_5.out (fun _ hk => ⟨hk.1, ⟨hk.2.1, hk.2.2.2⟩⟩))); obtain ⟨ce61, hcl61, hM61, hcc61, hfr61⟩ := Kd.N_elem HX61.out [] (x9_3 : Int) (lD) (by have h_ : (x9_3 : Int) < ((x5_2.length : Int) : Int) := lD; first | exact h_ | (have e_ := (Kd.N_reads' HO_5.out).1; omega) | simpa using h_); obtain ⟨ua61_0, uc61_0, rfl, ul61_0, ge61_0⟩ := Kd.FK_slice_open hM61; have HP61 := Kd.N_seg HX61.out (x9_3 : Int) (lD) (by have h_ : (x9_3 : Int) < ((x5_2.length : Int) : Int) := lD; first | exact h_ | (have e_ := (Kd.N_reads' HO_5.out).1; omega) | simpa using h_) (seg := [(.slice As174 y173.length cs174)]) (j := 0) hcl61 hcc61 (show 1 ≤ 1 from by decide) (x' := y173) (Kd.FK_slice_mk (Kd.R_reads' (Kd.R_mono (ok' := (fun k_ => ((fun k_ => (w.heap.size ≤ k_) ∧ some k_ ≠ (.slice (some ad159) t156.length co18 : Value).ownBlock ∧ k_ ≠ gb160)) k_ ∧ k_ ≠ go54)) (Kd.R_types (Kd.R_apart' (Kd.R_apart' (HO175.out) (Kd.R_typed HO_32.out) (by decide)) (Kd.N_typed HO_5.out) (by decide)) BK160.out (by decide)) (fun k_ hk => ⟨⟨hk.1.1.1, ⟨hk.1.1.2, hk.2⟩⟩, fun e_ => (hk.1.2) (by rw [e_]; rfl)⟩))).2.1 (Kd.R_F (Kd.R_mono (ok' := (fun k_ => ((fun k_ => (w.heap.size ≤ k_) ∧ some k_ ≠ (.slice (some ad159) t156.length co18 : Value).ownBlock ∧ k_ ≠ gb160)) k_ ∧ k_ ≠ go54)) (Kd.R_types (Kd.R_apart' (Kd.R_apart' (HO175.out) (Kd.R_typed HO_32.out) (by decide)) (Kd.N_typed HO_5.out) (by decide)) BK160.out (by decide)) (fun k_ hk => ⟨⟨hk.1.1.1, ⟨hk.1.1.2, hk.2⟩⟩, fun e_ => (hk.1.2) (by rw [e_]; rfl)⟩)))) (fun _ hk => hk); have hx61_0 := hcc61 0 _ rfl; (try simp only [show ((Kd.slice 3 (Kd.int .i64))).sz = 1 from rfl, Nat.mul_one, Nat.add_zero] at hx61_0); have hf61_0 := hfr61 0; (try simp only [show ((Kd.slice 3 (Kd.int .i64))).sz = 1 from rfl, Nat.mul_one, Nat.add_zero] at hf61_0); clear hcl61 hcc61 hfr61; (try clear hM61); (try simp only [show ((Kd.slice 3 (Kd.int .i64))).sz = 1 from rfl, Nat.mul_one, Nat.add_zero] at HP61); (try simp only [show ((Kd.slice 3 (Kd.int .i64))).sz = 1 from rfl, Nat.mul_one, Nat.add_zero] at HP61)) | ((with_reducible refine gate_store (t := 34) (p := 103) rfl ?_); (try (rw [drewN_self w60]; generalize hq_ : World.drewN w60 _ = w60; have n0_ := Aside0.mk (Kd.N_at hq_ HO_5.out); have n1_ := Aside0.mk (Kd.R_at hq_ HO_32.out); have n2_ := Aside0.mk (Kd.V_at hq_ HL165_0.out); have n3_ := Aside0.mk (Kd.V_at hq_ HL169_0.out); have n4_ := Aside0.mk (blk_at hq_ BK160.out); have n5_ := Aside0.mk (below_at hq_ HB.out); clear hq_ HO_5 HO_32 HL165_0 HL169_0 BK160 HB; have HO_5 := n0_; have HO_32 := n1_; have HL165_0 := n2_; have HL169_0 := n3_; have BK160 := n4_; have HB := n5_; clear n0_ n1_ n2_ n3_ n4_ n5_; (try (have n_ := Aside0.mk (Kd.N_mono (ok' := (fun k_ => (w.heap.size ≤ k_) ∧ some k_ ≠ (.slice (some ad159) t156.length co18 : Value).ownBlock ∧ some k_ ≠ ((.slice As174 y173.length cs174) : Value).ownBlock ∧ k_ ≠ gb160)) HO_5.out (fun k_ hk => ⟨hk.1.1, ⟨hk.1.2.1, ⟨hk.2, hk.1.2.2⟩⟩⟩)); clear HO_5; have HO_5 := n_; clear n_)); (try (have HX61 := Aside0.mk (show Kd.N (Kd.slice 3 (Kd.int .i64)) 34 w60 w.heap.size (fun k_ => (w.heap.size ≤ k_) ∧ some k_ ≠ (.slice (some ad159) t156.length co18 : Value).ownBlock ∧ k_ ≠ gb160) (.slice (some ⟨go54, 0, none⟩) x5_2.length co7) x5_2 from (by (with_reducible repeat (first | apply Kd.N_alloc | apply Kd.N_drewN | apply Kd.N_drew)); exact Kd.N_mono HO_5.out (fun _ hk => ⟨hk.1, ⟨hk.2.1, hk.2.2.2⟩⟩))))); (try (obtain ⟨ce61, hcl61, hM61, hcc61, hfr61⟩ := Kd.N_elem HX61.out [] (x9_3 : Int) (lD) (by have h_ : (x9_3 : Int) < ((x5_2.length : Int) : Int) := lD; first | exact h_ | (have e_ := (Kd.N_reads' HO_5.out).1; omega) | simpa using h_))); (try (obtain ⟨ua61_0, uc61_0, rfl, ul61_0, ge61_0⟩ := Kd.FK_slice_open hM61)); (try (have HP61 := Kd.N_seg HX61.out (x9_3 : Int) (lD) (by have h_ : (x9_3 : Int) < ((x5_2.length : Int) : Int) := lD; first | exact h_ | (have e_ := (Kd.N_reads' HO_5.out).1; omega) | simpa using h_) (seg := [(.slice As174 y173.length cs174)]) (j := 0) hcl61 hcc61 (show 1 ≤ 1 from by decide) (x' := y173) (Kd.FK_slice_mk (Kd.R_reads' (Kd.R_mono (ok' := (fun k_ => ((fun k_ => (w.heap.size ≤ k_) ∧ some k_ ≠ (.slice (some ad159) t156.length co18 : Value).ownBlock ∧ k_ ≠ gb160)) k_ ∧ k_ ≠ go54)) (Kd.R_types (Kd.R_apart' (Kd.R_apart' (HO175.out) (Kd.R_typed HO_32.out) (by decide)) (Kd.N_typed HO_5.out) (by decide)) BK160.out (by decide)) (fun k_ hk => ⟨⟨hk.1.1.1, ⟨hk.1.1.2, hk.2⟩⟩, fun e_ => (hk.1.2) (by rw [e_]; rfl)⟩))).2.1 (Kd.R_F (Kd.R_mono (ok' := (fun k_ => ((fun k_ => (w.heap.size ≤ k_) ∧ some k_ ≠ (.slice (some ad159) t156.length co18 : Value).ownBlock ∧ k_ ≠ gb160)) k_ ∧ k_ ≠ go54)) (Kd.R_types (Kd.R_apart' (Kd.R_apart' (HO175.out) (Kd.R_typed HO_32.out) (by decide)) (Kd.N_typed HO_5.out) (by decide)) BK160.out (by decide)) (fun k_ hk => ⟨⟨hk.1.1.1, ⟨hk.1.1.2, hk.2⟩⟩, fun e_ => (hk.1.2) (by rw [e_]; rfl)⟩)))) (fun _ hk => hk))); (try (have hx61_0 := hcc61 0 _ rfl)); (try (try simp only [show ((Kd.slice 3 (Kd.int .i64))).sz = 1 from rfl, Nat.mul_one, Nat.add_zero] at hx61_0)); (try (have hf61_0 := hfr61 0)); (try (try simp only [show ((Kd.slice 3 (Kd.int .i64))).sz = 1 from rfl, Nat.mul_one, Nat.add_zero] at hf61_0)); (try (clear hcl61 hcc61 hfr61; (try clear hM61))); (try (try simp only [show ((Kd.slice 3 (Kd.int .i64))).sz = 1 from rfl, Nat.mul_one, Nat.add_zero] at HP61)); (try (try simp only [show ((Kd.slice 3 (Kd.int .i64))).sz = 1 from rfl, Nat.mul_one, Nat.add_zero] at HP61)))); (try have o1_HO172 := (Kd.R_val HO172.out).2); (try have o1_HO175 := (Kd.R_val HO175.out).2); (try have o1_HO_32 := (Kd.R_val HO_32.out).2); (try have o1_HO_38 := (Kd.R_val HO_38.out).2); (try have o1_HO_5 := (Kd.R_val HO_5.out).2); refine store_event (t := 34) (p := 103) (v := ?vo_w62) (w1 := (w60.setCell ⟨go54, (x9_3 : Int).toNat, none⟩ ((.slice As174 y173.length cs174)))) ?hg ?ho ?hn ?hr ?_; (case ho => rfl); (case hg => rfl); (case hn => rfl); (case hr => first | (go_simp; done) | (go_simp; rfl) | (obtain ⟨A_, c_, e_⟩ := Kd.R_slice HO172.out; subst e_; first | (go_simp; done) | (go_simp; rfl)) | (obtain ⟨A_, c_, e_⟩ := Kd.R_slice HO175.out; subst e_; first | (go_simp; done) | (go_simp; rfl)) | (obtain ⟨A_, c_, e_⟩ := Kd.R_slice HO_32.out; subst e_; first | (go_simp; done) | (go_simp; rfl)) | (obtain ⟨A_, c_, e_⟩ := Kd.R_slice HO_38.out; subst e_; first | (go_simp; done) | (go_simp; rfl)) | (obtain ⟨A_, c_, e_⟩ := Kd.R_slice HO_5.out; subst e_; first | (go_simp; done) | (go_simp; rfl)) | (go_simp; repeat (rw [run_store _ _ _ _ _ (by assumption)]; go_simp))); intro w62 hw; have hg : w60.grownBy w62 (some go54) := (by rw [hw]; exact HP61.2); have hp_ : Kd.N (Kd.slice 3 (Kd.int .i64)) 34 w62 w.heap.size (fun k_ => (w.heap.size ≤ k_) ∧ some k_ ≠ (.slice (some ad159) t156.length co18 : Value).ownBlock ∧ k_ ≠ gb160) (.slice (some ⟨go54, 0, none⟩) x5_2.length co7) y176 := (by rw [hw, Ny176.out]; exact HP61.1); clear HP61; have n0_ := Aside0.mk (hp_); have n1_ := Aside0.mk (Kd.R_over' (v := (.slice (some ⟨go54, 0, none⟩) x5_2.length co7)) (lR HO_32.out) (Kd.N_typed HO_5.out) (by decide) hg); have n2_ := Aside0.mk (blk_grown (lK BK160.out) hg (Kd.N_ne HO_5.out BK160.out (by decide))); have n3_ := Aside0.mk (Kd.V_afterv (v := (.slice (some ⟨go54, 0, none⟩) x5_2.length co7)) (v1 := (.slice (some ⟨go54, 0, none⟩) x5_2.length co7)) (ok := (fun k_ => (w.heap.size ≤ k_) ∧ some k_ ≠ (.slice (some ad159) t156.length co18 : Value).ownBlock ∧ some k_ ≠ ((.slice As174 y173.length cs174) : Value).ownBlock ∧ k_ ≠ gb160)) (by (with_reducible repeat (first | apply Kd.V_alloc | apply Kd.V_drewN | apply Kd.V_drew)); exact Kd.V_mono HL165_0.out (fun _ hk => ⟨⟨hk.1.1, ⟨hk.1.2.2.1, ⟨hk.2, hk.1.2.2.2⟩⟩⟩, hk.1.2.1⟩)) hg (.inl rfl)); have n4_ := Aside0.mk (Kd.V_afterv (v := (.slice (some ⟨go54, 0, none⟩) x5_2.length co7)) (v1 := (.slice (some ⟨go54, 0, none⟩) x5_2.length co7)) (ok := (fun k_ => (w.heap.size ≤ k_) ∧ some k_ ≠ (.slice (some ad159) t156.length co18 : Value).ownBlock ∧ some k_ ≠ ((.slice As174 y173.length cs174) : Value).ownBlock ∧ k_ ≠ gb160)) (by (with_reducible repeat (first | apply Kd.V_alloc | apply Kd.V_drewN | apply Kd.V_drew)); exact Kd.V_mono HL169_0.out (fun _ hk => ⟨⟨hk.1.1, ⟨hk.1.2.2.1, ⟨hk.2, hk.1.2.2.2⟩⟩⟩, hk.1.2.1⟩)) hg (.inl rfl)); have n5_ := Aside0.mk ((by rw [hw]; exact below_set (HB.out) GB54.out : Below w.heap.size w w62)); clear HO_5; clear HO_32; clear BK160; clear HL165_0; clear HL169_0; clear HB; clear HO175; have HO_5 := n0_; have HO_32 := n1_; have BK160 := n2_; have HL165_0 := n3_; have HL169_0 := n4_; have HB := n5_; clear n0_ n1_ n2_ n3_ n4_ n5_; clear hg hw hp_; have p55 : 0 ≤ (x10_3 : Int) := lD; have q55 : (x10_3 : Int) < ((x5_2.length : Int) : Int) := lD; obtain ⟨ce55, hcl55, hM55, hcc55, hfr55⟩ := Kd.N_elem HO_5.out [] (x10_3 : Int) p55 q55; obtain ⟨ua55_0, uc55_0, rfl, ul55_0, ge55_0⟩ := Kd.FK_slice_open hM55; have hx55_0 := hcc55 0 _ rfl; have hf55_0 := hfr55 0; (try simp only [show ((Kd.slice 3 (Kd.int .i64))).sz = 1 from rfl, Nat.mul_one, Nat.add_zero] at hx55_0); (try simp only [show ((Kd.slice 3 (Kd.int .i64))).sz = 1 from rfl, Nat.mul_one, Nat.add_zero] at hf55_0); clear hcl55 hcc55 hfr55; (try clear hM55); replace p55 := eq_true p55; replace q55 := eq_true q55; have HX63 := Aside0.mk (show Kd.N (Kd.slice 3 (Kd.int .i64)) 34 w62 w.heap.size (fun k_ => (w.heap.size ≤ k_) ∧ some k_ ≠ (.slice (some ad159) t156.length co18 : Value).ownBlock ∧ k_ ≠ gb160) (.slice (some ⟨go54, 0, none⟩) x5_2.length co7) y176 from (by (with_reducible repeat (first | apply Kd.N_alloc | apply Kd.N_drewN | apply Kd.N_drew)); exact HO_5.out)); obtain ⟨ce63, hcl63, hM63, hcc63, hfr63⟩ := Kd.N_elem HX63.out [] (x10_3 : Int) (lD) (by have h_ : (x10_3 : Int) < ((x5_2.length : Int) : Int) := lD; first | exact h_ | (have e_ := (Kd.N_reads' HO_5.out).1; omega) | simpa using h_); obtain ⟨ua63_0, uc63_0, rfl, ul63_0, ge63_0⟩ := Kd.FK_slice_open hM63; have HP63 := Kd.N_seg HX63.out (x10_3 : Int) (lD) (by have h_ : (x10_3 : Int) < ((x5_2.length : Int) : Int) := lD; first | exact h_ | (have e_ := (Kd.N_reads' HO_5.out).1; omega) | simpa using h_) (seg := [.slice none 0 0]) (j := 0) hcl63 hcc63 (show 1 ≤ 1 from by decide) (x' := ([] : List Int)) (Kd.FK_slice_mk (Nat.le_refl _) (Kd.F_nil _ _ _)) (fun _ hk => hk); have hx63_0 := hcc63 0 _ rfl; (try simp only [show ((Kd.slice 3 (Kd.int .i64))).sz = 1 from rfl, Nat.mul_one, Nat.add_zero] at hx63_0); have hf63_0 := hfr63 0; (try simp only [show ((Kd.slice 3 (Kd.int .i64))).sz = 1 from rfl, Nat.mul_one, Nat.add_zero] at hf63_0); clear hcl63 hcc63 hfr63; (try clear hM63); (try simp only [show ((Kd.slice 3 (Kd.int .i64))).sz = 1 from rfl, Nat.mul_one, Nat.add_zero] at HP63); (try simp only [show ((Kd.slice 3 (Kd.int .i64))).sz = 1 from rfl, Nat.mul_one, Nat.add_zero] at HP63)) | ((with_reducible refine gate_store (t := 34) (p := 106) rfl ?_); (try (rw [drewN_self w62]; generalize hq_ : World.drewN w62 _ = w62; have n0_ := Aside0.mk (Kd.N_at hq_ HO_5.out); have n1_ := Aside0.mk (Kd.R_at hq_ HO_32.out); have n2_ := Aside0.mk (Kd.V_at hq_ HL165_0.out); have n3_ := Aside0.mk (Kd.V_at hq_ HL169_0.out); have n4_ := Aside0.mk (blk_at hq_ BK160.out); have n5_ := Aside0.mk (below_at hq_ HB.out); clear hq_ HO_5 HO_32 HL165_0 HL169_0 BK160 HB; have HO_5 := n0_; have HO_32 := n1_; have HL165_0 := n2_; have HL169_0 := n3_; have BK160 := n4_; have HB := n5_; clear n0_ n1_ n2_ n3_ n4_ n5_; (try (have HX63 := Aside0.mk (show Kd.N (Kd.slice 3 (Kd.int .i64)) 34 w62 w.heap.size (fun k_ => (w.heap.size ≤ k_) ∧ some k_ ≠ (.slice (some ad159) t156.length co18 : Value).ownBlock ∧ k_ ≠ gb160) (.slice (some ⟨go54, 0, none⟩) x5_2.length co7) y176 from (by (with_reducible repeat (first | apply Kd.N_alloc | apply Kd.N_drewN | apply Kd.N_drew)); exact HO_5.out)))); (try (obtain ⟨ce63, hcl63, hM63, hcc63, hfr63⟩ := Kd.N_elem HX63.out [] (x10_3 : Int) (lD) (by have h_ : (x10_3 : Int) < ((x5_2.length : Int) : Int) := lD; first | exact h_ | (have e_ := (Kd.N_reads' HO_5.out).1; omega) | simpa using h_))); (try (obtain ⟨ua63_0, uc63_0, rfl, ul63_0, ge63_0⟩ := Kd.FK_slice_open hM63)); (try (have HP63 := Kd.N_seg HX63.out (x10_3 : Int) (lD) (by have h_ : (x10_3 : Int) < ((x5_2.length : Int) : Int) := lD; first | exact h_ | (have e_ := (Kd.N_reads' HO_5.out).1; omega) | simpa using h_) (seg := [.slice none 0 0]) (j := 0) hcl63 hcc63 (show 1 ≤ 1 from by decide) (x' := ([] : List Int)) (Kd.FK_slice_mk (Nat.le_refl _) (Kd.F_nil _ _ _)) (fun _ hk => hk))); (try (have hx63_0 := hcc63 0 _ rfl)); (try (try simp only [show ((Kd.slice 3 (Kd.int .i64))).sz = 1 from rfl, Nat.mul_one, Nat.add_zero] at hx63_0)); (try (have hf63_0 := hfr63 0)); (try (try simp only [show ((Kd.slice 3 (Kd.int .i64))).sz = 1 from rfl, Nat.mul_one, Nat.add_zero] at hf63_0)); (try (clear hcl63 hcc63 hfr63; (try clear hM63))); (try (try simp only [show ((Kd.slice 3 (Kd.int .i64))).sz = 1 from rfl, Nat.mul_one, Nat.add_zero] at HP63)); (try (try simp only [show ((Kd.slice 3 (Kd.int .i64))).sz = 1 from rfl, Nat.mul_one, Nat.add_zero] at HP63)))); refine store_event (t := 34) (p := 106) (v := ?vo_w64) (w1 := (w62.setCell ⟨go54, (x10_3 : Int).toNat, none⟩ (.slice none 0 0))) ?hg ?ho ?hn ?hr ?_; (case ho => rfl); (case hg => rfl); (case hn => rfl); (case hr => first | (go_simp; done) | (go_simp; rfl)); intro w64 hw; have hg : w62.grownBy w64 (some go54) := (by rw [hw]; exact HP63.2); have hp_ : Kd.N (Kd.slice 3 (Kd.int .i64)) 34 w64 w.heap.size (fun k_ => (w.heap.size ≤ k_) ∧ some k_ ≠ (.slice (some ad159) t156.length co18 : Value).ownBlock ∧ k_ ≠ gb160) (.slice (some ⟨go54, 0, none⟩) x5_2.length co7) y177 := (by rw [hw, Ny177.out]; exact HP63.1); clear HP63; have n0_ := Aside0.mk (hp_); have n1_ := Aside0.mk (Kd.R_over' (v := (.slice (some ⟨go54, 0, none⟩) x5_2.length co7)) (lR HO_32.out) (Kd.N_typed HO_5.out) (by decide) hg); have n2_ := Aside0.mk (blk_grown (lK BK160.out) hg (Kd.N_ne HO_5.out BK160.out (by decide))); have n3_ := Aside0.mk (Kd.V_afterv (v := (.slice (some ⟨go54, 0, none⟩) x5_2.length co7)) (v1 := (.slice (some ⟨go54, 0, none⟩) x5_2.length co7)) (ok := (fun k_ => (w.heap.size ≤ k_) ∧ some k_ ≠ (.slice (some ad159) t156.length co18 : Value).ownBlock ∧ k_ ≠ gb160)) (by (with_reducible repeat (first | apply Kd.V_alloc | apply Kd.V_drewN | apply Kd.V_drew)); exact Kd.V_mono HL165_0.out (fun _ hk => ⟨⟨hk.1.1, ⟨hk.1.2.1, hk.1.2.2.2⟩⟩, hk.2⟩)) hg (.inl rfl)); have n4_ := Aside0.mk (Kd.V_afterv (v := (.slice (some ⟨go54, 0, none⟩) x5_2.length co7)) (v1 := (.slice (some ⟨go54, 0, none⟩) x5_2.length co7)) (ok := (fun k_ => (w.heap.size ≤ k_) ∧ some k_ ≠ (.slice (some ad159) t156.length co18 : Value).ownBlock ∧ k_ ≠ gb160)) (by (with_reducible repeat (first | apply Kd.V_alloc | apply Kd.V_drewN | apply Kd.V_drew)); exact Kd.V_mono HL169_0.out (fun _ hk => ⟨⟨hk.1.1, ⟨hk.1.2.1, hk.1.2.2.2⟩⟩, hk.2⟩)) hg (.inl rfl)); have n5_ := Aside0.mk ((by rw [hw]; exact below_set (HB.out) GB54.out : Below w.heap.size w w64)); clear HO_5; clear HO_32; clear BK160; clear HL165_0; clear HL169_0; clear HB; have HO_5 := n0_; have HO_32 := n1_; have BK160 := n2_; have HL165_0 := n3_; have HL169_0 := n4_; have HB := n5_; clear n0_ n1_ n2_ n3_ n4_ n5_; clear hg hw hp_)))
                        (try simp only [← hl5_2])
                        go_roundg k3
                        case measure => have := HK1.out; have := HK2.out; have := HK3.out; omega
                        case rel => exact ⟨(y177), (wrap64 (x34_2 + 1)), lF, H', ⟨by have := HK1.out; have := HK2.out; have := HK3.out; omega⟩, ⟨by (try simp only [hl5_1]); (try simp only [hl5_2]); (with_reducible repeat (first | apply Kd.N_alloc | apply Kd.N_drewN | apply Kd.N_drew)); exact Kd.N_mono HO_5.out (fun _ hk => ⟨hk.1, hk.2.1⟩)⟩, ⟨by (try simp only [hl5_1]); (try simp only [hl5_2]); (with_reducible repeat (first | apply Kd.R_alloc | apply Kd.R_drewN | apply Kd.R_drew)); exact Kd.R_mono HO_32.out (fun _ hk => hk.1)⟩, ⟨lB⟩⟩
                       ·rw [if_neg c53] at H
                        exact absurd H (by simp)
                      ·rw [if_neg c52] at H
                       exact absurd H (by simp)
                     ·rw [if_neg c51] at H
                      exact absurd H (by simp)
                    ·rw [if_neg c50] at H
                     exact absurd H (by simp)
                   ·rw [if_neg c49] at H
                    exact absurd H (by simp)
                  ·rw [if_neg c48] at H
                   exact absurd H (by simp)
          ·rw [if_neg c21] at H
           exact absurd H (by simp)
         ·rw [if_neg c20] at H
          exact absurd H (by simp)
        ·rw [if_neg c19] at H
         have c19b0 : decide (x34_2 < (t156.length : Int)) = false := decide_eq_false c19
         (try simp only [hl5_1, hl5_2] at c19b0)
         clear c19
         have H' := Aside0.mk H
         clear H
         go_wp2
         repeat (go_quiet (fail); try go_wp2)
         go_loopg [14, 15] k2 (fun kq v14 v15 w' => ∃ (x14_3 : List (List Int)) (x15_3 : Int), v15 = .int .i64 x15_3 ∧ Aside0 (spec_l11Chains.l3 kq a0 x5_2 x14_3 x15_3 = some r) ∧ Aside0 (kq ≤ k2) ∧ Aside0 (Kd.N (Kd.slice 3 (Kd.int .i64)) 34 w' w.heap.size (fun k_ => (w.heap.size ≤ k_) ∧ some k_ ≠ (v14 : Value).ownBlock) (.slice Ao7 x5_2.length co7) x5_2) ∧ Aside0 (Kd.N (Kd.slice 3 (Kd.int .i64)) 34 w' w.heap.size (fun k_ => (w.heap.size ≤ k_)) v14 x14_3) ∧ Aside0 (Below w.heap.size w w'))
         case atStart => exact ⟨(([] : List (List Int))), (0), lF, H', ⟨Nat.le_refl _⟩, ⟨by (try simp only [hl5_1]); (try simp only [hl5_2]); (with_reducible repeat (first | apply Kd.N_alloc | apply Kd.N_drewN | apply Kd.N_drew)); exact Kd.N_mono HO_5.out (fun _ hk => ⟨hk.1, (by simp [Value.ownBlock])⟩)⟩, ⟨by (try simp only [hl5_1]); (try simp only [hl5_2]); first | exact Kd.S_nil _ _ _ _ _ | exact Kd.N_nil _ _ _ _ _ | exact Kd.V_nil _ _ _ _ _ | exact Kd.Q_nil _ _ _ _ _ | exact Kd.R_nil _ _ _ _ _⟩, ⟨lB⟩⟩
         case round =>
          clear H'
          try clear c1
          try clear p1
          try clear q1
          try clear hx1
          try clear qi1
          try clear c2
          try clear p2
          try clear c3
          try clear c3b0
          try clear c3b1
          try clear c4
          try clear c4b0
          try clear c4b1
          try clear c5
          try clear p5
          try clear q5
          try clear hx5
          try clear hf5
          try clear c6
          try clear p6
          try clear hx6
          try clear hf6
          try clear c8
          try clear c8b0
          try clear c9
          try clear c9b0
          try clear c10
          try clear c10b0
          try clear c11
          try clear p11
          try clear q11
          try clear hx11
          try clear hf11
          try clear c14
          try clear hx14
          try clear hf14
          try clear p15
          try clear q15
          try clear hx15
          try clear c16
          try clear p16
          try clear q16
          try clear hx16
          try clear qi16
          try clear c19
          try clear c19b0
          try clear c20
          try clear c20b0
          try clear c21
          try clear c21b0
          try clear c24
          try clear c24b0
          try clear c25
          try clear c25b0
          try clear c26
          try clear c26b0
          try clear c27
          try clear c27b0
          try clear c27b1
          try clear c29
          try clear c29b0
          try clear c30
          try clear c30b0
          try clear c31
          try clear c31b0
          try clear c31b1
          try clear c32
          try clear c32b0
          try clear c32b1
          try clear c33
          try clear c33b0
          try clear c33b1
          try clear c36
          try clear c36b0
          try clear c36b1
          try clear c37
          try clear c37b0
          try clear c37b1
          try clear c40
          try clear c40b0
          try clear c40b1
          try clear c42
          try clear c42b0
          try clear c44
          try clear c44b0
          try clear c46
          try clear c46b0
          try clear c46b1
          try clear c48
          try clear c48b0
          try clear c49
          try clear c49b0
          try clear c50
          try clear c50b0
          try clear c51
          try clear c51b0
          try clear c52
          try clear c53
          try clear c54
          try clear p54
          try clear q54
          try clear hx54
          try clear hf54
          try clear c55
          try clear p55
          try clear q55
          try clear hx55
          try clear hf55
          try clear c61
          try clear hx61
          try clear hf61
          try clear c63
          try clear hx63
          try clear hf63
          try clear p64
          try clear hcz23_0 hcz23_1 hcz23_2
          try clear hcz34_0 hcz34_1 hcz34_2
          try clear hcz35_0 hcz35_1 hcz35_2
          try clear hcz38_0 hcz38_1 hcz38_2
          try clear hcz39_0 hcz39_1 hcz39_2
          try clear hcz41_0 hcz41_1 hcz41_2
          try clear hcz43_0 hcz43_1 hcz43_2
          try clear hcz45_0 hcz45_1 hcz45_2
          try clear hcz47_0 hcz47_1 hcz47_2
          try clear hcz56_0 hcz56_1 hcz56_2
          try clear hfz23_0 hfz23_1 hfz23_2
          try clear hfz34_0 hfz34_1 hfz34_2
          try clear hfz35_0 hfz35_1 hfz35_2
          try clear hfz38_0 hfz38_1 hfz38_2
          try clear hfz39_0 hfz39_1 hfz39_2
          try clear hfz41_0 hfz41_1 hfz41_2
          try clear hfz43_0 hfz43_1 hfz43_2
          try clear hfz45_0 hfz45_1 hfz45_2
          try clear hfz47_0 hfz47_1 hfz47_2
          try clear hfz56_0 hfz56_1 hfz56_2
          try clear hx11_0
          try clear hx14_0
          try clear hx159_0
          try clear hx159_1
          try clear hx159_2
          try clear hx161_0
          try clear hx162_0
          try clear hx163_0
          try clear hx164_0
          try clear hx165_0
          try clear hx169_0
          try clear hx54_0
          try clear hx55_0
          try clear hx61_0
          try clear hx63_0
          try clear p1
          try clear p11
          try clear p15
          try clear p159
          try clear p161
          try clear p162
          try clear p163
          try clear p164
          try clear p165
          try clear p169
          try clear p2
          try clear p54
          try clear p55
          try clear p6
          try clear q1
          try clear q11
          try clear q15
          try clear q159
          try clear q161
          try clear q162
          try clear q163
          try clear q164
          try clear q165
          try clear q169
          try clear q54
          try clear q55
          obtain ⟨x14_3, x15_3, rfl, HA, HK3, HO_5, HO_14, HB⟩ := hrel
          cases gk with
          | zero => exact absurd HA.out (by simp [spec_l11Chains.l3])
          | succ k3 =>
           have H := HA.out
           clear HA
           simp only [spec_l11Chains.l3] at H
           by_cases c65 : x15_3 < a0
           ·rw [if_pos c65] at H
            have c65b0 : decide (x15_3 < a0) = true := decide_eq_true c65
            clear c65
            have H' := Aside0.mk H
            clear H
            go_wp2
            repeat (go_quiet (fail); try go_wp2)
            go_loopg [14, 115] k3 (fun kq v14 v115 w' => ∃ (x14_4 : List (List Int)) (x115_4 : Int), v115 = .int .i64 x115_4 ∧ Aside0 (spec_l11Chains.l4 kq a0 x5_2 x14_4 x15_3 x5_2 (x5_2.length : Int) x115_4 = some r) ∧ Aside0 (kq ≤ k3) ∧ Aside0 (Kd.N (Kd.slice 3 (Kd.int .i64)) 34 w' w.heap.size (fun k_ => (w.heap.size ≤ k_) ∧ some k_ ≠ (v14 : Value).ownBlock) (.slice Ao7 x5_2.length co7) x5_2) ∧ Aside0 (Kd.N (Kd.slice 3 (Kd.int .i64)) 34 w' w.heap.size (fun k_ => (w.heap.size ≤ k_)) v14 x14_4) ∧ Aside0 (Kd.N (Kd.slice 3 (Kd.int .i64)) 34 w' w.heap.size (fun k_ => (w.heap.size ≤ k_) ∧ some k_ ≠ (v14 : Value).ownBlock) (.slice Ao7 x5_2.length co7) x5_2) ∧ Aside0 (Below w.heap.size w w'))
            case atStart => exact ⟨(x14_3), (0), lF, H', ⟨Nat.le_refl _⟩, ⟨by (try simp only [hl5_1]); (try simp only [hl5_2]); (with_reducible repeat (first | apply Kd.N_alloc | apply Kd.N_drewN | apply Kd.N_drew)); exact HO_5.out⟩, ⟨by (try simp only [hl5_1]); (try simp only [hl5_2]); (with_reducible repeat (first | apply Kd.N_alloc | apply Kd.N_drewN | apply Kd.N_drew)); exact HO_14.out⟩, ⟨by (try simp only [hl5_1]); (try simp only [hl5_2]); (with_reducible repeat (first | apply Kd.N_alloc | apply Kd.N_drewN | apply Kd.N_drew)); exact HO_5.out⟩, ⟨lB⟩⟩
            case round =>
             clear H'
             try clear c1
             try clear p1
             try clear q1
             try clear hx1
             try clear qi1
             try clear c2
             try clear p2
             try clear c3
             try clear c3b0
             try clear c3b1
             try clear c4
             try clear c4b0
             try clear c4b1
             try clear c5
             try clear p5
             try clear q5
             try clear hx5
             try clear hf5
             try clear c6
             try clear p6
             try clear hx6
             try clear hf6
             try clear c8
             try clear c8b0
             try clear c9
             try clear c9b0
             try clear c10
             try clear c10b0
             try clear c11
             try clear p11
             try clear q11
             try clear hx11
             try clear hf11
             try clear c14
             try clear hx14
             try clear hf14
             try clear p15
             try clear q15
             try clear hx15
             try clear c16
             try clear p16
             try clear q16
             try clear hx16
             try clear qi16
             try clear c19
             try clear c19b0
             try clear c20
             try clear c20b0
             try clear c21
             try clear c21b0
             try clear c24
             try clear c24b0
             try clear c25
             try clear c25b0
             try clear c26
             try clear c26b0
             try clear c27
             try clear c27b0
             try clear c27b1
             try clear c29
             try clear c29b0
             try clear c30
             try clear c30b0
             try clear c31
             try clear c31b0
             try clear c31b1
             try clear c32
             try clear c32b0
             try clear c32b1
             try clear c33
             try clear c33b0
             try clear c33b1
             try clear c36
             try clear c36b0
             try clear c36b1
             try clear c37
             try clear c37b0
             try clear c37b1
             try clear c40
             try clear c40b0
             try clear c40b1
             try clear c42
             try clear c42b0
             try clear c44
             try clear c44b0
             try clear c46
             try clear c46b0
             try clear c46b1
             try clear c48
             try clear c48b0
             try clear c49
             try clear c49b0
             try clear c50
             try clear c50b0
             try clear c51
             try clear c51b0
             try clear c52
             try clear c53
             try clear c54
             try clear p54
             try clear q54
             try clear hx54
             try clear hf54
             try clear c55
             try clear p55
             try clear q55
             try clear hx55
             try clear hf55
             try clear c61
             try clear hx61
             try clear hf61
             try clear c63
             try clear hx63
             try clear hf63
             try clear p64
             try clear c65
             try clear c65b0
             try clear hcz23_0 hcz23_1 hcz23_2
             try clear hcz34_0 hcz34_1 hcz34_2
             try clear hcz35_0 hcz35_1 hcz35_2
             try clear hcz38_0 hcz38_1 hcz38_2
             try clear hcz39_0 hcz39_1 hcz39_2
             try clear hcz41_0 hcz41_1 hcz41_2
             try clear hcz43_0 hcz43_1 hcz43_2
             try clear hcz45_0 hcz45_1 hcz45_2
             try clear hcz47_0 hcz47_1 hcz47_2
             try clear hcz56_0 hcz56_1 hcz56_2
             try clear hfz23_0 hfz23_1 hfz23_2
             try clear hfz34_0 hfz34_1 hfz34_2
             try clear hfz35_0 hfz35_1 hfz35_2
             try clear hfz38_0 hfz38_1 hfz38_2
             try clear hfz39_0 hfz39_1 hfz39_2
             try clear hfz41_0 hfz41_1 hfz41_2
             try clear hfz43_0 hfz43_1 hfz43_2
             try clear hfz45_0 hfz45_1 hfz45_2
             try clear hfz47_0 hfz47_1 hfz47_2
             try clear hfz56_0 hfz56_1 hfz56_2
             try clear hx11_0
             try clear hx14_0
             try clear hx159_0
             try clear hx159_1
             try clear hx159_2
             try clear hx161_0
             try clear hx162_0
             try clear hx163_0
             try clear hx164_0
             try clear hx165_0
             try clear hx169_0
             try clear hx54_0
             try clear hx55_0
             try clear hx61_0
             try clear hx63_0
             try clear p1
             try clear p11
             try clear p15
             try clear p159
             try clear p16
             try clear p161
             try clear p162
             try clear p163
             try clear p164
             try clear p165
             try clear p169
             try clear p2
             try clear p5
             try clear p54
             try clear p55
             try clear p6
             try clear p64
             try clear q1
             try clear q11
             try clear q15
             try clear q159
             try clear q16
             try clear q161
             try clear q162
             try clear q163
             try clear q164
             try clear q165
             try clear q169
             try clear q5
             try clear q54
             try clear q55
             obtain ⟨x14_4, x115_4, rfl, HA, HK4, HO_5, HO_14, HO_113, HB⟩ := hrel
             cases gk with
             | zero => exact absurd HA.out (by simp [spec_l11Chains.l4])
             | succ k4 =>
              have H := HA.out
              clear HA
              simp only [spec_l11Chains.l4] at H
              by_cases c66 : x115_4 < (x5_2.length : Int)
              ·rw [if_pos c66] at H
               have c66b0 : decide (x115_4 < (x5_2.length : Int)) = true := decide_eq_true c66
               (try simp only [hl5_1, hl5_2] at c66b0)
               clear c66
               by_cases c67 : 0 ≤ x115_4
               ·rw [if_pos c67] at H
                have c67b0 : decide (0 ≤ x115_4) = true := decide_eq_true c67
                clear c67
                by_cases c68 : x115_4 < (x5_2.length : Int)
                ·rw [if_pos c68] at H
                 have c68b0 : decide (x115_4 < (x5_2.length : Int)) = true := decide_eq_true c68
                 (try simp only [hl5_1, hl5_2] at c68b0)
                 clear c68
                 by_cases c69 : ((rd_L5 x5_2 x115_4).length : Int) > 0
                 ·rw [if_pos c69] at H
                  have c69b0 : decide (0 < ((rd_L5 x5_2 x115_4).length : Int)) = true := decide_eq_true c69
                  (try simp only [hl5_1, hl5_2] at c69b0)
                  have c69b1 : decide (0 < (rd_L5 x5_2 x115_4).length) = true := decide_eq_true (by omega)
                  (try simp only [hl5_1, hl5_2] at c69b1)
                  clear c69
                  by_cases c70 : 0 < ((rd_L5 x5_2 x115_4).length : Int)
                  ·rw [if_pos c70] at H
                   have c70b0 : decide (0 < ((rd_L5 x5_2 x115_4).length : Int)) = true := decide_eq_true c70
                   (try simp only [hl5_1, hl5_2] at c70b0)
                   have c70b1 : decide (0 < (rd_L5 x5_2 x115_4).length) = true := decide_eq_true (by omega)
                   (try simp only [hl5_1, hl5_2] at c70b1)
                   clear c70
                   by_cases c71 : (rd (rd_L5 x5_2 x115_4) 0) = x15_3
                   ·rw [if_pos c71] at H
                    have c71b0 : ((rd (rd_L5 x5_2 x115_4) 0) == x15_3) = true := beq_iff_eq.mpr c71
                    have c71b1 : ((rd (rd_L5 x5_2 x115_4) 0) != x15_3) = false := bne_eq_false_iff_eq.mpr c71
                    clear c71
                    by_cases c72 : x14_4.length < 5864062014805
                    ·rw [if_pos c72] at H
                     have LMc72 := Aside0.mk c72
                     clear c72
                     obtain ⟨y180, hy180⟩ : ∃ y_ : List (List Int), y_ = (x14_4 ++ [rd_L5 x5_2 x115_4]) := ⟨_, rfl⟩
                     replace H : (spec_l11Chains.l4 k4 a0 x5_2 y180 x15_3 x5_2 (x5_2.length : Int) (wrap64 (x115_4 + 1))) = some r := by first | (rw [hy180]; with_reducible exact H) | (have H2_ := (Option.bind_some _ _).symm.trans H; rw [hy180]; with_reducible exact H2_) | (have H2_ := (Option.bind_some _ _).symm.trans H; with_reducible exact H2_) | with_reducible exact H | (rw [hy180]; exact H) | exact H
                     have Ny180 := Aside0.mk hy180
                     clear hy180
                     have H' := Aside0.mk H
                     clear H
                     have p178 : 0 ≤ (x115_4 : Int) := lD
                     have q178 : x115_4 < (x5_2.length : Int) := lD
                     obtain ⟨ad178, A178_0, c178_0, e178, hx178_0, hl178_0, hi178_0⟩ := at_L5 (Kd.N_reads' HO_113.out).2.2 x115_4 p178 q178
                     cases e178
                     obtain ⟨ce178, hce178, hMe178, hcc178⟩ := Kd.N_get HO_113.out [] x115_4 p178 (by first | exact q178 | exact lD | (have e_ := (Kd.N_reads' HO_113.out).1; omega))
                     obtain ⟨ua178_0, uc178_0, rfl, ul178_0, ge178_0⟩ := Kd.FK_slice_open hMe178
                     have hv178_0 := hcc178 0 _ rfl
                     rw [Nat.add_zero, show ((Kd.slice 3 (Kd.int .i64))).sz = 1 from rfl, Nat.mul_one] at hv178_0
                     replace hv178_0 := Option.some.inj (hv178_0.symm.trans hx178_0)
                     injection hv178_0 with hva_ hvn_ hvc_
                     rw [hva_] at ge178_0
                     rw [hvc_] at ul178_0
                     have HL178_0 := Aside0.mk (show Kd.V (Kd.int .i64) 3 _ w.heap.size _ _ (rd_L5 x5_2 x115_4) from Kd.V_mk ul178_0 ge178_0)
                     clear hva_ hvn_ hvc_ ge178_0 ul178_0
                     clear hcc178 hce178
                     have HR178_0 := Aside0.mk hi178_0
                     have HC178_0 := Aside0.mk hl178_0
                     clear hi178_0 hl178_0
                     replace p178 := eq_true p178
                     replace q178 := eq_true q178
                     have p179 : 0 ≤ (0 : Int) := (by omega)
                     have q179 : 0 < ((rd_L5 x5_2 x115_4).length : Int) := lD
                     obtain ⟨ad179, e179, hx179_0⟩ := Kd.at_int (by repeat (first | (with_reducible exact HR178_0.out) | (with_reducible refine Kd.C_alloc ?_ _) | (with_reducible refine Kd.C_drewN ?_ _) | (with_reducible refine Kd.C_drew ?_) | exact HR178_0.out | exact (Kd.V_reads' HL178_0.out).2.2)) 0 p179 q179
                     cases e179
                     have qi179 : (0 < (rd_L5 x5_2 x115_4).length) = True := eq_true (by omega)
                     (try rw [show ((0 : Int)).toNat = 0 from rfl] at hx179_0)
                     (try rw [Addr.add_zero'] at hx179_0)
                     replace p179 := eq_true p179
                     replace q179 := eq_true q179
                     go_wp2_with (first | ((with_reducible refine gate_builtin (b := .append) (xs := #[.tmp 129, .tmp 131]) rfl ?_); (try (refine gate_guard (by rfl) ?_; dsimp only)); at_builtin; refine Kd.N_append (Kd.slice 3 (Kd.int .i64)) (w0 := w) w.heap.size rfl (.tmp 129) (.tmp 131) 24 34 (.slice none 0 0) 24 rfl Try.underlying24 info34 rfl (by decide) (by omega) u14 x14_4 (rd_L5 x5_2 x115_4) [.slice (some ad179) (rd_L5 x5_2 x115_4).length c178_0] (fun k_ => (w.heap.size ≤ k_)) (fun k_ => ((fun k_ => (w.heap.size ≤ k_))) k_ ∧ some k_ ≠ (u14 : Value).ownBlock) rfl rfl ?aP (fun _ hk => hk) ?aF ?aO ?aB ?aS ?aL ?_; (case aP => exact (Kd.FK_slice_mk (Kd.V_reads' (Kd.V_mono (ok' := (fun k_ => ((fun k_ => (w.heap.size ≤ k_))) k_ ∧ some k_ ≠ (u14 : Value).ownBlock)) (HL178_0.out) (fun k_ hk => ⟨hk.1.1, hk.1.2⟩))).2.1 (Kd.V_F (Kd.V_mono (ok' := (fun k_ => ((fun k_ => (w.heap.size ≤ k_))) k_ ∧ some k_ ≠ (u14 : Value).ownBlock)) (HL178_0.out) (fun k_ hk => ⟨hk.1.1, hk.1.2⟩))))); (case aB => exact lB); (case aF => exact (fun k_ hk => (Nat.le_trans (below_size lB) hk))); (case aO => exact (by (with_reducible repeat (first | apply Kd.N_alloc | apply Kd.N_drewN | apply Kd.N_drew)); exact HO_14.out)); (case aS => exact (below_size lB)); (case aL => have := LMc72.out; omega); intro v181 w73 ho hb hg hat; rw [← Ny180.out] at ho; have n0_ := Aside0.mk (Kd.N_afterv (ok := (fun k_ => (w.heap.size ≤ k_))) (by (with_reducible repeat (first | apply Kd.N_alloc | apply Kd.N_drewN | apply Kd.N_drew)); exact HO_5.out) hg hat); have n1_ := Aside0.mk (Kd.N_afterv (ok := (fun k_ => (w.heap.size ≤ k_))) (by (with_reducible repeat (first | apply Kd.N_alloc | apply Kd.N_drewN | apply Kd.N_drew)); exact HO_113.out) hg hat); have n2_ := Aside0.mk (Kd.V_afterv (ok := (fun k_ => (w.heap.size ≤ k_) ∧ some k_ ≠ (.slice (some ad178) x5_2.length co7 : Value).ownBlock)) (by (with_reducible repeat (first | apply Kd.V_alloc | apply Kd.V_drewN | apply Kd.V_drew)); exact Kd.V_mono HL178_0.out (fun _ hk => ⟨⟨hk.1.1, hk.2⟩, hk.1.2⟩)) hg hat); have n3_ := Aside0.mk (hb); have n4_ := Aside0.mk (ho); clear HO_5; clear HO_113; clear HL178_0; clear HB; clear HO_14; have HO_5 := n0_; have HO_113 := n1_; have HL178_0 := n2_; have HB := n3_; have HO182 := n4_; clear n0_ n1_ n2_ n3_ n4_; clear ho hb hg hat))
                     repeat (go_quiet (fail); try go_wp2_with (first | ((with_reducible refine gate_builtin (b := .append) (xs := #[.tmp 129, .tmp 131]) rfl ?_); (try (refine gate_guard (by rfl) ?_; dsimp only)); at_builtin; refine Kd.N_append (Kd.slice 3 (Kd.int .i64)) (w0 := w) w.heap.size rfl (.tmp 129) (.tmp 131) 24 34 (.slice none 0 0) 24 rfl Try.underlying24 info34 rfl (by decide) (by omega) u14 x14_4 (rd_L5 x5_2 x115_4) [.slice (some ad179) (rd_L5 x5_2 x115_4).length c178_0] (fun k_ => (w.heap.size ≤ k_)) (fun k_ => ((fun k_ => (w.heap.size ≤ k_))) k_ ∧ some k_ ≠ (u14 : Value).ownBlock) rfl rfl ?aP (fun _ hk => hk) ?aF ?aO ?aB ?aS ?aL ?_; (case aP => exact (Kd.FK_slice_mk (Kd.V_reads' (Kd.V_mono (ok' := (fun k_ => ((fun k_ => (w.heap.size ≤ k_))) k_ ∧ some k_ ≠ (u14 : Value).ownBlock)) (HL178_0.out) (fun k_ hk => ⟨hk.1.1, hk.1.2⟩))).2.1 (Kd.V_F (Kd.V_mono (ok' := (fun k_ => ((fun k_ => (w.heap.size ≤ k_))) k_ ∧ some k_ ≠ (u14 : Value).ownBlock)) (HL178_0.out) (fun k_ hk => ⟨hk.1.1, hk.1.2⟩))))); (case aB => exact lB); (case aF => exact (fun k_ hk => (Nat.le_trans (below_size lB) hk))); (case aO => exact (by (with_reducible repeat (first | apply Kd.N_alloc | apply Kd.N_drewN | apply Kd.N_drew)); exact HO_14.out)); (case aS => exact (below_size lB)); (case aL => have := LMc72.out; omega); intro v181 w73 ho hb hg hat; rw [← Ny180.out] at ho; have n0_ := Aside0.mk (Kd.N_afterv (ok := (fun k_ => (w.heap.size ≤ k_))) (by (with_reducible repeat (first | apply Kd.N_alloc | apply Kd.N_drewN | apply Kd.N_drew)); exact HO_5.out) hg hat); have n1_ := Aside0.mk (Kd.N_afterv (ok := (fun k_ => (w.heap.size ≤ k_))) (by (with_reducible repeat (first | apply Kd.N_alloc | apply Kd.N_drewN | apply Kd.N_drew)); exact HO_113.out) hg hat); have n2_ := Aside0.mk (Kd.V_afterv (ok := (fun k_ => (w.heap.size ≤ k_) ∧ some k_ ≠ (.slice (some ad178) x5_2.length co7 : Value).ownBlock)) (by (with_reducible repeat (first | apply Kd.V_alloc | apply Kd.V_drewN | apply Kd.V_drew)); exact Kd.V_mono HL178_0.out (fun _ hk => ⟨⟨hk.1.1, hk.2⟩, hk.1.2⟩)) hg hat); have n3_ := Aside0.mk (hb); have n4_ := Aside0.mk (ho); clear HO_5; clear HO_113; clear HL178_0; clear HB; clear HO_14; have HO_5 := n0_; have HO_113 := n1_; have HL178_0 := n2_; have HB := n3_; have HO182 := n4_; clear n0_ n1_ n2_ n3_ n4_; clear ho hb hg hat)))
                     go_roundg k4
                     case measure => have := HK1.out; have := HK2.out; have := HK3.out; have := HK4.out; omega
                     case rel => exact ⟨(y180), (wrap64 (x115_4 + 1)), lF, H', ⟨by have := HK1.out; have := HK2.out; have := HK3.out; have := HK4.out; omega⟩, ⟨by (try simp only [hl5_1]); (try simp only [hl5_2]); (with_reducible repeat (first | apply Kd.N_alloc | apply Kd.N_drewN | apply Kd.N_drew)); exact HO_5.out⟩, ⟨by (try simp only [hl5_1]); (try simp only [hl5_2]); (with_reducible repeat (first | apply Kd.N_alloc | apply Kd.N_drewN | apply Kd.N_drew)); exact HO182.out⟩, ⟨by (try simp only [hl5_1]); (try simp only [hl5_2]); (with_reducible repeat (first | apply Kd.N_alloc | apply Kd.N_drewN | apply Kd.N_drew)); exact HO_113.out⟩, ⟨lB⟩⟩
                    ·rw [if_neg c72] at H
                     exact absurd H (by simp)
                   ·rw [if_neg c71] at H
                    have c71b0 : ((rd (rd_L5 x5_2 x115_4) 0) == x15_3) = false := beq_eq_false_iff_ne.mpr c71
                    have c71b1 : ((rd (rd_L5 x5_2 x115_4) 0) != x15_3) = true := bne_iff_ne.mpr c71
                    have H' := Aside0.mk H
                    clear H
                    have p178 : 0 ≤ (x115_4 : Int) := lD
                    have q178 : x115_4 < (x5_2.length : Int) := lD
                    obtain ⟨ad178, A178_0, c178_0, e178, hx178_0, hl178_0, hi178_0⟩ := at_L5 (Kd.N_reads' HO_113.out).2.2 x115_4 p178 q178
                    cases e178
                    obtain ⟨ce178, hce178, hMe178, hcc178⟩ := Kd.N_get HO_113.out [] x115_4 p178 (by first | exact q178 | exact lD | (have e_ := (Kd.N_reads' HO_113.out).1; omega))
                    obtain ⟨ua178_0, uc178_0, rfl, ul178_0, ge178_0⟩ := Kd.FK_slice_open hMe178
                    have hv178_0 := hcc178 0 _ rfl
                    rw [Nat.add_zero, show ((Kd.slice 3 (Kd.int .i64))).sz = 1 from rfl, Nat.mul_one] at hv178_0
                    replace hv178_0 := Option.some.inj (hv178_0.symm.trans hx178_0)
                    injection hv178_0 with hva_ hvn_ hvc_
                    rw [hva_] at ge178_0
                    rw [hvc_] at ul178_0
                    have HL178_0 := Aside0.mk (show Kd.V (Kd.int .i64) 3 _ w.heap.size _ _ (rd_L5 x5_2 x115_4) from Kd.V_mk ul178_0 ge178_0)
                    clear hva_ hvn_ hvc_ ge178_0 ul178_0
                    clear hcc178 hce178
                    have HR178_0 := Aside0.mk hi178_0
                    have HC178_0 := Aside0.mk hl178_0
                    clear hi178_0 hl178_0
                    replace p178 := eq_true p178
                    replace q178 := eq_true q178
                    have p179 : 0 ≤ (0 : Int) := (by omega)
                    have q179 : 0 < ((rd_L5 x5_2 x115_4).length : Int) := lD
                    obtain ⟨ad179, e179, hx179_0⟩ := Kd.at_int (by repeat (first | (with_reducible exact HR178_0.out) | (with_reducible refine Kd.C_alloc ?_ _) | (with_reducible refine Kd.C_drewN ?_ _) | (with_reducible refine Kd.C_drew ?_) | exact HR178_0.out | exact (Kd.V_reads' HL178_0.out).2.2)) 0 p179 q179
                    cases e179
                    have qi179 : (0 < (rd_L5 x5_2 x115_4).length) = True := eq_true (by omega)
                    (try rw [show ((0 : Int)).toNat = 0 from rfl] at hx179_0)
                    (try rw [Addr.add_zero'] at hx179_0)
                    replace p179 := eq_true p179
                    replace q179 := eq_true q179
                    go_wp2
                    repeat (go_quiet (fail); try go_wp2)
                    go_roundg k4
                    case measure => have := HK1.out; have := HK2.out; have := HK3.out; have := HK4.out; omega
                    case rel => exact ⟨(x14_4), (wrap64 (x115_4 + 1)), lF, H', ⟨by have := HK1.out; have := HK2.out; have := HK3.out; have := HK4.out; omega⟩, ⟨by (try simp only [hl5_1]); (try simp only [hl5_2]); (with_reducible repeat (first | apply Kd.N_alloc | apply Kd.N_drewN | apply Kd.N_drew)); exact HO_5.out⟩, ⟨by (try simp only [hl5_1]); (try simp only [hl5_2]); (with_reducible repeat (first | apply Kd.N_alloc | apply Kd.N_drewN | apply Kd.N_drew)); exact HO_14.out⟩, ⟨by (try simp only [hl5_1]); (try simp only [hl5_2]); (with_reducible repeat (first | apply Kd.N_alloc | apply Kd.N_drewN | apply Kd.N_drew)); exact HO_113.out⟩, ⟨lB⟩⟩
                  ·rw [if_neg c70] at H
                   exact absurd H (by simp)
                 ·rw [if_neg c69] at H
                  have c69b0 : decide (0 < ((rd_L5 x5_2 x115_4).length : Int)) = false := decide_eq_false c69
                  (try simp only [hl5_1, hl5_2] at c69b0)
                  have c69b1 : decide (0 < (rd_L5 x5_2 x115_4).length) = false := decide_eq_false (by omega)
                  (try simp only [hl5_1, hl5_2] at c69b1)
                  clear c69
                  have H' := Aside0.mk H
                  clear H
                  have p178 : 0 ≤ (x115_4 : Int) := lD
                  have q178 : x115_4 < (x5_2.length : Int) := lD
                  obtain ⟨ad178, A178_0, c178_0, e178, hx178_0, hl178_0, hi178_0⟩ := at_L5 (Kd.N_reads' HO_113.out).2.2 x115_4 p178 q178
                  cases e178
                  obtain ⟨ce178, hce178, hMe178, hcc178⟩ := Kd.N_get HO_113.out [] x115_4 p178 (by first | exact q178 | exact lD | (have e_ := (Kd.N_reads' HO_113.out).1; omega))
                  obtain ⟨ua178_0, uc178_0, rfl, ul178_0, ge178_0⟩ := Kd.FK_slice_open hMe178
                  have hv178_0 := hcc178 0 _ rfl
                  rw [Nat.add_zero, show ((Kd.slice 3 (Kd.int .i64))).sz = 1 from rfl, Nat.mul_one] at hv178_0
                  replace hv178_0 := Option.some.inj (hv178_0.symm.trans hx178_0)
                  injection hv178_0 with hva_ hvn_ hvc_
                  rw [hva_] at ge178_0
                  rw [hvc_] at ul178_0
                  have HL178_0 := Aside0.mk (show Kd.V (Kd.int .i64) 3 _ w.heap.size _ _ (rd_L5 x5_2 x115_4) from Kd.V_mk ul178_0 ge178_0)
                  clear hva_ hvn_ hvc_ ge178_0 ul178_0
                  clear hcc178 hce178
                  have HR178_0 := Aside0.mk hi178_0
                  have HC178_0 := Aside0.mk hl178_0
                  clear hi178_0 hl178_0
                  replace p178 := eq_true p178
                  replace q178 := eq_true q178
                  go_wp2
                  repeat (go_quiet (fail); try go_wp2)
                  go_roundg k4
                  case measure => have := HK1.out; have := HK2.out; have := HK3.out; have := HK4.out; omega
                  case rel => exact ⟨(x14_4), (wrap64 (x115_4 + 1)), lF, H', ⟨by have := HK1.out; have := HK2.out; have := HK3.out; have := HK4.out; omega⟩, ⟨by (try simp only [hl5_1]); (try simp only [hl5_2]); (with_reducible repeat (first | apply Kd.N_alloc | apply Kd.N_drewN | apply Kd.N_drew)); exact HO_5.out⟩, ⟨by (try simp only [hl5_1]); (try simp only [hl5_2]); (with_reducible repeat (first | apply Kd.N_alloc | apply Kd.N_drewN | apply Kd.N_drew)); exact HO_14.out⟩, ⟨by (try simp only [hl5_1]); (try simp only [hl5_2]); (with_reducible repeat (first | apply Kd.N_alloc | apply Kd.N_drewN | apply Kd.N_drew)); exact HO_113.out⟩, ⟨lB⟩⟩
                ·rw [if_neg c68] at H
                 exact absurd H (by simp)
               ·rw [if_neg c67] at H
                exact absurd H (by simp)
              ·rw [if_neg c66] at H
               have c66b0 : decide (x115_4 < (x5_2.length : Int)) = false := decide_eq_false c66
               (try simp only [hl5_1, hl5_2] at c66b0)
               clear c66
               have H' := Aside0.mk H
               clear H
               go_wp2
               repeat (go_quiet (fail); try go_wp2)
               go_roundg k4
               case measure => have := HK1.out; have := HK2.out; have := HK3.out; have := HK4.out; omega
               case rel => exact ⟨(x14_4), (wrap64 (x15_3 + 1)), lF, H', ⟨by have := HK1.out; have := HK2.out; have := HK3.out; have := HK4.out; omega⟩, ⟨by (try simp only [hl5_1]); (try simp only [hl5_2]); (with_reducible repeat (first | apply Kd.N_alloc | apply Kd.N_drewN | apply Kd.N_drew)); exact HO_5.out⟩, ⟨by (try simp only [hl5_1]); (try simp only [hl5_2]); (with_reducible repeat (first | apply Kd.N_alloc | apply Kd.N_drewN | apply Kd.N_drew)); exact HO_14.out⟩, ⟨lB⟩⟩
           ·rw [if_neg c65] at H
            have c65b0 : decide (x15_3 < a0) = false := decide_eq_false c65
            clear c65
            obtain rfl := Option.some.inj H
            go_wp2
            repeat (go_quiet (fail); try go_wp2)
            go_ret
            exact ⟨_, lE, by (with_reducible repeat (first | apply Kd.N_alloc | apply Kd.N_drewN | apply Kd.N_drew)); exact HO_14.out, lB⟩
  ·rw [if_neg c4] at H
   exact absurd H (by simp)
 ·rw [if_neg c3] at H
  exact absurd H (by simp)

end Go.Proofs.Ytpnhlccdhflogaa.Q
