-- Written by the program wip/tools/pr.py of this claim's session, over the kit's print.py.
import Derived.Test.YtpnhlccdhflogaaQx0
import Derived.Test.YtpnhlccdhflogaaQx2
namespace Go.Proofs.Ytpnhlccdhflogaa.Q
open Go.RowKit Go.Proofs.YtpnhlccdhflogaaW.PrintWords Go.Proofs.YtpnhlccdhflogaaW.PrintLast Go.Proofs.YtpnhlccdhflogaaW.PrintMore
attribute [local go_sem] max2_int min2_int max_two min_two max_three min_three max_four min_four   -- for this text's walks alone
set_option linter.unusedVariables false
set_option linter.unusedSimpArgs false

/-! ### spec_l11Chains: function 57 -/
mutual
def spec_l11Chains.l0 : Nat → Int → List (S48) → List (List Int) → Int → Int → Option ((List (List Int)))
 | 0, _, _, _, _, _ => none
 | k + 1, x0, x1, x5, x21, x22 => if x22 < x21 then (if 0 ≤ x22 then (if x22 < (x5.length : Int) then (spec_l11Chains.l0 k x0 x1 (x5.set (x22 : Int).toNat (([x22] : List Int))) x21 (wrap64 (x22 + 1))) else (none)) else (none)) else ((spec_l11By.f k x1).bind fun t175 => (spec_l11Chains.l1 k x0 x5 t175 (t175.length : Int) 0))
def spec_l11Chains.l1 : Nat → Int → List (List Int) → List (S48) → Int → Int → Option ((List (List Int)))
 | 0, _, _, _, _, _ => none
 | k + 1, x0, x5, x32, x33, x34 => if x34 < x33 then (if 0 ≤ x34 then (if x34 < (x32.length : Int) then (spec_l11Chains.l2 k x0 x5 (-1) (-1) x32 x33 x34 x5 (x5.length : Int) 0 ((rd_T48 x32 x34).f0) ((rd_T48 x32 x34).f1) ((rd_T48 x32 x34).f2)) else (none)) else (none)) else (spec_l11Chains.l3 k x0 x5 ([] : List (List Int)) 0)
def spec_l11Chains.l2 : Nat → Int → List (List Int) → Int → Int → List (S48) → Int → Int → List (List Int) → Int → Int → Int → Int → Int → Option ((List (List Int)))
 | 0, _, _, _, _, _, _, _, _, _, _, _, _, _ => none
 | k + 1, x0, x5, x9, x10, x32, x33, x34, x38, x39, x40, x180000, x180001, x180002 => if x40 < x39 then (if 0 ≤ x40 then (if x40 < (x38.length : Int) then (if ((rd_L5 x38 x40).length : Int) > 0 then (if 0 ≤ (wrap64 (((rd_L5 x38 x40).length : Int) - 1)) then (if (wrap64 (((rd_L5 x38 x40).length : Int) - 1)) < ((rd_L5 x38 x40).length : Int) then (if (rd (rd_L5 x38 x40) (wrap64 (((rd_L5 x38 x40).length : Int) - 1))) = x180000 then (if 0 < ((rd_L5 x38 x40).length : Int) then (if (rd (rd_L5 x38 x40) 0) = x180001 then (spec_l11Chains.l2 k x0 x5 x40 x40 x32 x33 x34 x38 x39 (wrap64 (x40 + 1)) x180000 x180001 x180002) else (spec_l11Chains.l2 k x0 x5 x40 x10 x32 x33 x34 x38 x39 (wrap64 (x40 + 1)) x180000 x180001 x180002)) else (none)) else (if 0 < ((rd_L5 x38 x40).length : Int) then (if (rd (rd_L5 x38 x40) 0) = x180001 then (spec_l11Chains.l2 k x0 x5 x9 x40 x32 x33 x34 x38 x39 (wrap64 (x40 + 1)) x180000 x180001 x180002) else (spec_l11Chains.l2 k x0 x5 x9 x10 x32 x33 x34 x38 x39 (wrap64 (x40 + 1)) x180000 x180001 x180002)) else (none))) else (none)) else (none)) else (spec_l11Chains.l2 k x0 x5 x9 x10 x32 x33 x34 x38 x39 (wrap64 (x40 + 1)) x180000 x180001 x180002)) else (none)) else (none)) else (if x180001 = 0 then (spec_l11Chains.l1 k x0 x5 x32 x33 (wrap64 (x34 + 1))) else (if x9 < 0 then (spec_l11Chains.l1 k x0 x5 x32 x33 (wrap64 (x34 + 1))) else (if x10 < 0 then (spec_l11Chains.l1 k x0 x5 x32 x33 (wrap64 (x34 + 1))) else (if x9 = x10 then (spec_l11Chains.l1 k x0 x5 x32 x33 (wrap64 (x34 + 1))) else (if 0 ≤ x10 then (if x10 < (x5.length : Int) then ((some (([] : List Int) : List Int)).bind fun y185 => (if 0 ≤ x9 then (if x9 < (x5.length : Int) then (if y185.length + (rd_L5 x5 x9).length < 17592186044416 then ((some (y185 ++ (rd_L5 x5 x9) : List Int)).bind fun y189 => (if y189.length + (rd_L5 x5 x10).length < 17592186044416 then (spec_l11Chains.l1 k x0 ((x5.set (x9 : Int).toNat (y189 ++ (rd_L5 x5 x10))).set (x10 : Int).toNat ([] : List Int)) x32 x33 (wrap64 (x34 + 1))) else (none))) else (none)) else (none)) else (none))) else (none)) else (none))))))
def spec_l11Chains.l3 : Nat → Int → List (List Int) → List (List Int) → Int → Option ((List (List Int)))
 | 0, _, _, _, _ => none
 | k + 1, x0, x5, x14, x15 => if x15 < x0 then (spec_l11Chains.l4 k x0 x5 x14 x15 x5 (x5.length : Int) 0) else (some x14)
def spec_l11Chains.l4 : Nat → Int → List (List Int) → List (List Int) → Int → List (List Int) → Int → Int → Option ((List (List Int)))
 | 0, _, _, _, _, _, _, _ => none
 | k + 1, x0, x5, x14, x15, x113, x114, x115 => if x115 < x114 then (if 0 ≤ x115 then (if x115 < (x113.length : Int) then (if ((rd_L5 x113 x115).length : Int) > 0 then (if 0 < ((rd_L5 x113 x115).length : Int) then (if (rd (rd_L5 x113 x115) 0) = x15 then (if x14.length < 5864062014805 then (spec_l11Chains.l4 k x0 x5 (x14 ++ [rd_L5 x113 x115]) x15 x113 x114 (wrap64 (x115 + 1))) else (none)) else (spec_l11Chains.l4 k x0 x5 x14 x15 x113 x114 (wrap64 (x115 + 1)))) else (none)) else (spec_l11Chains.l4 k x0 x5 x14 x15 x113 x114 (wrap64 (x115 + 1)))) else (none)) else (none)) else (spec_l11Chains.l3 k x0 x5 x14 (wrap64 (x15 + 1)))
end
def spec_l11Chains.f (k : Nat) (a0 : Int) (l1 : List (S48)) : Option ((List (List Int))) := if 0 ≤ a0 then (if (a0 : Int).toNat ≤ 11728124029610 then ((some (List.replicate (a0 : Int).toNat [] : List (List Int))).bind fun y168 => (spec_l11Chains.l0 k a0 l1 y168 (y168.length : Int) 0)) else (none)) else (none)
theorem spec_l11Chains.mono_l : ∀ k, (∀ y0 y1 y2 y3 y4, LeO (spec_l11Chains.l0 k y0 y1 y2 y3 y4) (spec_l11Chains.l0 (k + 1) y0 y1 y2 y3 y4)) ∧ (∀ y0 y1 y2 y3 y4, LeO (spec_l11Chains.l1 k y0 y1 y2 y3 y4) (spec_l11Chains.l1 (k + 1) y0 y1 y2 y3 y4)) ∧ (∀ y0 y1 y2 y3 y4 y5 y6 y7 y8 y9 y10 y11 y12, LeO (spec_l11Chains.l2 k y0 y1 y2 y3 y4 y5 y6 y7 y8 y9 y10 y11 y12) (spec_l11Chains.l2 (k + 1) y0 y1 y2 y3 y4 y5 y6 y7 y8 y9 y10 y11 y12)) ∧ (∀ y0 y1 y2 y3, LeO (spec_l11Chains.l3 k y0 y1 y2 y3) (spec_l11Chains.l3 (k + 1) y0 y1 y2 y3)) ∧ (∀ y0 y1 y2 y3 y4 y5 y6, LeO (spec_l11Chains.l4 k y0 y1 y2 y3 y4 y5 y6) (spec_l11Chains.l4 (k + 1) y0 y1 y2 y3 y4 y5 y6))
 | 0 => ⟨fun _ _ _ _ _ r h => by simp [spec_l11Chains.l0] at h, fun _ _ _ _ _ r h => by simp [spec_l11Chains.l1] at h, fun _ _ _ _ _ _ _ _ _ _ _ _ _ r h => by simp [spec_l11Chains.l2] at h, fun _ _ _ _ r h => by simp [spec_l11Chains.l3] at h, fun _ _ _ _ _ _ _ r h => by simp [spec_l11Chains.l4] at h⟩
 | k + 1 => by
  obtain ⟨ih0, ih1, ih2, ih3, ih4⟩ := spec_l11Chains.mono_l k
  refine ⟨?_, ?_, ?_, ?_, ?_⟩
  ·intro y0 y1 y2 y3 y4
   unfold spec_l11Chains.l0
   repeat' first
   | with_reducible apply ih0
   | with_reducible apply ih1
   | with_reducible apply ih2
   | with_reducible apply ih3
   | with_reducible apply ih4
   | with_reducible apply spec_l11By.mono
   | (with_reducible exact LeO.refl _)
   | (with_reducible exact LeO.none _)
   | (with_reducible refine LeO.ite ?_ ?_)
   | (with_reducible refine LeO.bind ?_ (fun _ => ?_))
   | apply ih0
   | apply ih1
   | apply ih2
   | apply ih3
   | apply ih4
   | apply spec_l11By.mono
   | exact LeO.none _
   | refine LeO.ite ?_ ?_
   | refine LeO.bind ?_ (fun _ => ?_)
  ·intro y0 y1 y2 y3 y4
   unfold spec_l11Chains.l1
   repeat' first
   | with_reducible apply ih0
   | with_reducible apply ih1
   | with_reducible apply ih2
   | with_reducible apply ih3
   | with_reducible apply ih4
   | with_reducible apply spec_l11By.mono
   | (with_reducible exact LeO.refl _)
   | (with_reducible exact LeO.none _)
   | (with_reducible refine LeO.ite ?_ ?_)
   | (with_reducible refine LeO.bind ?_ (fun _ => ?_))
   | apply ih0
   | apply ih1
   | apply ih2
   | apply ih3
   | apply ih4
   | apply spec_l11By.mono
   | exact LeO.none _
   | refine LeO.ite ?_ ?_
   | refine LeO.bind ?_ (fun _ => ?_)
  ·intro y0 y1 y2 y3 y4 y5 y6 y7 y8 y9 y10 y11 y12
   unfold spec_l11Chains.l2
   repeat' first
   | with_reducible apply ih0
   | with_reducible apply ih1
   | with_reducible apply ih2
   | with_reducible apply ih3
   | with_reducible apply ih4
   | with_reducible apply spec_l11By.mono
   | (with_reducible exact LeO.refl _)
   | (with_reducible exact LeO.none _)
   | (with_reducible refine LeO.ite ?_ ?_)
   | (with_reducible refine LeO.bind ?_ (fun _ => ?_))
   | apply ih0
   | apply ih1
   | apply ih2
   | apply ih3
   | apply ih4
   | apply spec_l11By.mono
   | exact LeO.none _
   | refine LeO.ite ?_ ?_
   | refine LeO.bind ?_ (fun _ => ?_)
  ·intro y0 y1 y2 y3
   unfold spec_l11Chains.l3
   repeat' first
   | with_reducible apply ih0
   | with_reducible apply ih1
   | with_reducible apply ih2
   | with_reducible apply ih3
   | with_reducible apply ih4
   | with_reducible apply spec_l11By.mono
   | (with_reducible exact LeO.refl _)
   | (with_reducible exact LeO.none _)
   | (with_reducible refine LeO.ite ?_ ?_)
   | (with_reducible refine LeO.bind ?_ (fun _ => ?_))
   | apply ih0
   | apply ih1
   | apply ih2
   | apply ih3
   | apply ih4
   | apply spec_l11By.mono
   | exact LeO.none _
   | refine LeO.ite ?_ ?_
   | refine LeO.bind ?_ (fun _ => ?_)
  ·intro y0 y1 y2 y3 y4 y5 y6
   unfold spec_l11Chains.l4
   repeat' first
   | with_reducible apply ih0
   | with_reducible apply ih1
   | with_reducible apply ih2
   | with_reducible apply ih3
   | with_reducible apply ih4
   | with_reducible apply spec_l11By.mono
   | (with_reducible exact LeO.refl _)
   | (with_reducible exact LeO.none _)
   | (with_reducible refine LeO.ite ?_ ?_)
   | (with_reducible refine LeO.bind ?_ (fun _ => ?_))
   | apply ih0
   | apply ih1
   | apply ih2
   | apply ih3
   | apply ih4
   | apply spec_l11By.mono
   | exact LeO.none _
   | refine LeO.ite ?_ ?_
   | refine LeO.bind ?_ (fun _ => ?_)
theorem spec_l11Chains.mono : ∀ a0 a1 k, LeO (spec_l11Chains.f k a0 a1) (spec_l11Chains.f (k + 1) a0 a1) := by
 intro a0 a1 k
 obtain ⟨ih0, ih1, ih2, ih3, ih4⟩ := spec_l11Chains.mono_l k
 unfold spec_l11Chains.f
 repeat' first
   | with_reducible apply ih0
   | with_reducible apply ih1
   | with_reducible apply ih2
   | with_reducible apply ih3
   | with_reducible apply ih4
   | with_reducible apply spec_l11By.mono
   | (with_reducible exact LeO.refl _)
   | (with_reducible exact LeO.none _)
   | (with_reducible refine LeO.ite ?_ ?_)
   | (with_reducible refine LeO.bind ?_ (fun _ => ?_))
   | apply ih0
   | apply ih1
   | apply ih2
   | apply ih3
   | apply ih4
   | apply spec_l11By.mono
   | exact LeO.none _
   | refine LeO.ite ?_ ?_
   | refine LeO.bind ?_ (fun _ => ?_)
set_option maxHeartbeats 8000000 in
set_option maxRecDepth 100000 in
theorem spec_l11Chains.calls (k : Nat) (a0 : Int) (A1 : Option Addr) (c1 : Nat) (l1 : List (S48)) (r : List (List Int)) (w : World) (hr1 : Kd.C k48 w A1 l1.length l1) (hc1 : l1.length ≤ c1) (h : spec_l11Chains.f k a0 l1 = some r) :
  Calls Try.prog 57 #[.int .i64 a0, .slice A1 l1.length c1] w fun e w' => ∃ v0_ : Value, e = .returned (v0_) ∧ Kd.N (Kd.slice 3 (Kd.int .i64)) 34 w' w.heap.size (fun k_ => (w.heap.size ≤ k_)) v0_ r ∧ Below w.heap.size w w' := by
 have hu48 := Try.underlying48
 have HR1 := Aside0.mk hr1
 have HC1 := Aside0.mk hc1
 clear hr1 hc1
 have HB := Aside0.mk (Below.refl w.heap.size w)
 have H : (if 0 ≤ a0 then (if (a0 : Int).toNat ≤ 11728124029610 then ((some (List.replicate (a0 : Int).toNat [] : List (List Int))).bind fun y168 => (spec_l11Chains.l0 k a0 l1 y168 (y168.length : Int) 0)) else (none)) else (none)) = some r := h
 clear h
 by_cases c3 : 0 ≤ a0
 ·rw [if_pos c3] at H
  have c3b0 := eq_true c3
  have c3b1 : decide (0 ≤ a0) = true := decide_eq_true c3
  clear c3
  by_cases c4 : (a0 : Int).toNat ≤ 11728124029610
  ·rw [if_pos c4] at H
   have c4b0 := eq_true c4
   have c4b1 : decide ((a0 : Int).toNat ≤ 11728124029610) = true := decide_eq_true c4
   clear c4
   obtain ⟨y168, hy168⟩ : ∃ y_ : List (List Int), y_ = (List.replicate (a0 : Int).toNat []) := ⟨_, rfl⟩
   replace H : (spec_l11Chains.l0 k a0 l1 y168 (y168.length : Int) 0) = some r := by first | (rw [hy168]; with_reducible exact H) | (have H2_ := (Option.bind_some _ _).symm.trans H; rw [hy168]; with_reducible exact H2_) | (have H2_ := (Option.bind_some _ _).symm.trans H; with_reducible exact H2_) | with_reducible exact H | (rw [hy168]; exact H) | exact H
   have Ny168 := Aside0.mk hy168
   clear hy168
   have H' := Aside0.mk H
   clear H
   go_enter Try.func57, Try.ntmps57
   go_wp2_with (first | ((with_reducible refine gate_dst (N := 19) rfl ?_); (try (refine gate_guard (by rfl) ?_; dsimp only)); refine Kd.N_make (Kd.slice 3 (Kd.int .i64)) _ 34 rfl (N' := 19) rfl 24 _ _ rfl a0 rfl rfl Try.underlying24 (.slice none 0 0) 24 info34 rfl (by decide) (by omega) [] (ok := fun k_ => w.heap.size ≤ k_) (okp := fun _ => False) (Kd.FK_slice_mk (Nat.le_refl _) (Kd.F_nil _ _ _)) (fun _ hk => hk.elim) (Nat.le_refl _) (lD) (Nat.le_trans (Nat.mul_le_mul_right _ (lD : a0.toNat ≤ 11728124029610)) (by omega)) (Below.refl _ _) (Nat.le_refl _) ?_; intro v169 w5 ho6 hb hg_ hnew_; clear hg_ hnew_; (first | rw [← Ny168.out] at ho6 | (simp only [Int.reduceToNat] at ho6; rw [← Ny168.out] at ho6)); have n0_ := Aside0.mk (Kd.N_lower (Kd.N_mono (ok' := fun k_ => (w.heap.size ≤ k_)) ho6 (fun k_ hk_ => (Nat.le_trans (below_size lB) hk_))) (below_size lB)); have n1_ := Aside0.mk (below_step lB hb); clear HB; have HO170 := n0_; have HB := n1_; clear n0_ n1_; clear hb ho6; obtain ⟨Ao7, co7, eo7⟩ := Kd.N_slice HO170.out; subst eo7))
   repeat (go_quiet (fail); try go_wp2_with (first | ((with_reducible refine gate_dst (N := 19) rfl ?_); (try (refine gate_guard (by rfl) ?_; dsimp only)); refine Kd.N_make (Kd.slice 3 (Kd.int .i64)) _ 34 rfl (N' := 19) rfl 24 _ _ rfl a0 rfl rfl Try.underlying24 (.slice none 0 0) 24 info34 rfl (by decide) (by omega) [] (ok := fun k_ => w.heap.size ≤ k_) (okp := fun _ => False) (Kd.FK_slice_mk (Nat.le_refl _) (Kd.F_nil _ _ _)) (fun _ hk => hk.elim) (Nat.le_refl _) (lD) (Nat.le_trans (Nat.mul_le_mul_right _ (lD : a0.toNat ≤ 11728124029610)) (by omega)) (Below.refl _ _) (Nat.le_refl _) ?_; intro v169 w5 ho6 hb hg_ hnew_; clear hg_ hnew_; (first | rw [← Ny168.out] at ho6 | (simp only [Int.reduceToNat] at ho6; rw [← Ny168.out] at ho6)); have n0_ := Aside0.mk (Kd.N_lower (Kd.N_mono (ok' := fun k_ => (w.heap.size ≤ k_)) ho6 (fun k_ hk_ => (Nat.le_trans (below_size lB) hk_))) (below_size lB)); have n1_ := Aside0.mk (below_step lB hb); clear HB; have HO170 := n0_; have HB := n1_; clear n0_ n1_; clear hb ho6; obtain ⟨Ao7, co7, eo7⟩ := Kd.N_slice HO170.out; subst eo7)))
   go_loopg [22] k (fun kq v22 w' => ∃ (x5_1 : List (List Int)) (x22_1 : Int), v22 = .int .i64 x22_1 ∧ Aside0 (spec_l11Chains.l0 kq a0 l1 x5_1 (y168.length : Int) x22_1 = some r) ∧ Aside0 (kq ≤ k) ∧ Aside0 (Kd.N (Kd.slice 3 (Kd.int .i64)) 34 w' w.heap.size (fun k_ => (w.heap.size ≤ k_)) (.slice Ao7 y168.length co7) x5_1) ∧ Aside0 (Below w.heap.size w w'))
   case atStart => exact ⟨(y168), (0), lF, H', ⟨Nat.le_refl _⟩, ⟨by (with_reducible repeat (first | apply Kd.N_alloc | apply Kd.N_drewN | apply Kd.N_drew)); exact HO170.out⟩, ⟨lB⟩⟩
   case round =>
    clear H'
    try clear c1
    try clear p2
    try clear c3
    try clear c3b0
    try clear c3b1
    try clear c4
    try clear c4b0
    try clear c4b1
    try clear c5
    obtain ⟨x5_1, x22_1, rfl, HA, HK1, HO_5, HB⟩ := hrel
    have hl5_1 := (Kd.N_reads' HO_5.out).1
    rw [hl5_1] at HO_5
    (try simp only [hl5_1])
    cases gk with
    | zero => exact absurd HA.out (by simp [spec_l11Chains.l0])
    | succ k1 =>
     have H := HA.out
     clear HA
     simp only [spec_l11Chains.l0] at H
     by_cases c8 : x22_1 < (y168.length : Int)
     ·rw [if_pos c8] at H
      have c8b0 : decide (x22_1 < (y168.length : Int)) = true := decide_eq_true c8
      (try simp only [hl5_1] at c8b0)
      clear c8
      obtain ⟨y171, hy171⟩ : ∃ y_ : List Int, y_ = (([x22_1] : List Int)) := ⟨_, rfl⟩
      replace H : (if 0 ≤ x22_1 then (if x22_1 < (x5_1.length : Int) then (spec_l11Chains.l0 k1 a0 l1 (x5_1.set (x22_1 : Int).toNat y171) (y168.length : Int) (wrap64 (x22_1 + 1))) else (none)) else (none)) = some r := by first | (rw [hy171]; with_reducible exact H) | (have H2_ := (Option.bind_some _ _).symm.trans H; rw [hy171]; with_reducible exact H2_) | (have H2_ := (Option.bind_some _ _).symm.trans H; with_reducible exact H2_) | with_reducible exact H | (rw [hy171]; exact H) | exact H
      have Ny171 := Aside0.mk hy171
      clear hy171
      by_cases c9 : 0 ≤ x22_1
      ·rw [if_pos c9] at H
       have c9b0 : decide (0 ≤ x22_1) = true := decide_eq_true c9
       clear c9
       by_cases c10 : x22_1 < (x5_1.length : Int)
       ·rw [if_pos c10] at H
        have c10b0 : decide (x22_1 < (x5_1.length : Int)) = true := decide_eq_true c10
        (try simp only [hl5_1] at c10b0)
        clear c10
        obtain ⟨y174, hy174⟩ : ∃ y_ : List (List Int), y_ = (x5_1.set (x22_1 : Int).toNat y171) := ⟨_, rfl⟩
        replace H : (spec_l11Chains.l0 k1 a0 l1 y174 (y168.length : Int) (wrap64 (x22_1 + 1))) = some r := by first | (rw [hy174]; with_reducible exact H) | (have H2_ := (Option.bind_some _ _).symm.trans H; rw [hy174]; with_reducible exact H2_) | (have H2_ := (Option.bind_some _ _).symm.trans H; with_reducible exact H2_) | with_reducible exact H | (rw [hy174]; exact H) | exact H
        have Ny174 := Aside0.mk hy174
        clear hy174
        have H' := Aside0.mk H
        clear H
        go_wp2_with (first | ((with_reducible refine gate_dst (N := 28) rfl ?_); (try (refine gate_guard (by rfl) ?_; dsimp only)); refine Kd.R_lit (Kd.int .i64) _ 3 ?hg (N := 28) ?hd (xs := ([x22_1] : List Int)) (inner := [.int .i64 x22_1]) (ok := fun _ => True) (okp := fun _ => True) ?hr ?hp (fun _ hk => hk) trivial (Below.refl _ _) (Nat.le_refl _) (by simp) ?_; (case hd => rfl); (case hg => rfl); (case hr => first | (go_simp; done) | (go_simp; rfl)); (case hp => exact (Reps.one (show Kd.M (Kd.int .i64) _ _ _ x22_1 [.int .i64 x22_1] from rfl) (Reps.none _ _))); intro v172 w12 ho13 hb hg_ hnew_; clear hg_ hnew_; (first | rw [← Ny171.out] at ho13 | (simp only [Int.reduceToNat] at ho13; rw [← Ny171.out] at ho13)); have n0_ := Aside0.mk (Kd.N_elder' (by (with_reducible repeat (first | apply Kd.N_alloc | apply Kd.N_drewN | apply Kd.N_drew)); exact HO_5.out) (Kd.R_base ho13) hb); have n1_ := Aside0.mk (Kd.R_lower (Kd.R_newM (M := fun k_ => (w.heap.size ≤ k_)) ho13 (below_size lB) (fun k_ h_ => h_)) (below_size lB)); have n2_ := Aside0.mk (below_step lB hb); clear HO_5; clear HB; have HO_5 := n0_; have HO173 := n1_; have HB := n2_; clear n0_ n1_ n2_; clear hb ho13; have p11 : 0 ≤ (x22_1 : Int) := lD; have q11 : (x22_1 : Int) < ((x5_1.length : Int) : Int) := lD; obtain ⟨go11, co11, eo11, gb11, gl11, cl11, HG11⟩ := Kd.N_form HO_5.out (by omega); (first | cases eo11 | (injection eo11 with ea_ en_ ec_; (first | subst ea_ | (injection ea_ with ea_; subst ea_)); subst ec_; clear en_)); have GB11 := Aside0.mk gb11; have GG11 := Aside0.mk HG11; clear gb11 gl11 HG11; obtain ⟨ce11, hcl11, hM11, hcc11, hfr11⟩ := Kd.N_elem HO_5.out [] (x22_1 : Int) p11 q11; obtain ⟨ua11_0, uc11_0, rfl, ul11_0, ge11_0⟩ := Kd.FK_slice_open hM11; have hx11_0 := hcc11 0 _ rfl; have hf11_0 := hfr11 0; (try simp only [show ((Kd.slice 3 (Kd.int .i64))).sz = 1 from rfl, Nat.mul_one, Nat.add_zero] at hx11_0); (try simp only [show ((Kd.slice 3 (Kd.int .i64))).sz = 1 from rfl, Nat.mul_one, Nat.add_zero] at hf11_0); clear hcl11 hcc11 hfr11; (try clear hM11); replace p11 := eq_true p11; replace q11 := eq_true q11; have HX14 := Aside0.mk (show Kd.N (Kd.slice 3 (Kd.int .i64)) 34 w12 w.heap.size (fun k_ => (w.heap.size ≤ k_)) (.slice (some ⟨go11, 0, none⟩) x5_1.length co7) x5_1 from (by (with_reducible repeat (first | apply Kd.N_alloc | apply Kd.N_drewN | apply Kd.N_drew)); exact Kd.N_mono HO_5.out (fun _ hk => hk.1))); obtain ⟨ce14, hcl14, hM14, hcc14, hfr14⟩ := Kd.N_elem HX14.out [] (x22_1 : Int) (lD) (by have h_ : (x22_1 : Int) < ((x5_1.length : Int) : Int) := lD; first | exact h_ | (have e_ := (Kd.N_reads' HO_5.out).1; omega) | simpa using h_); obtain ⟨ua14_0, uc14_0, rfl, ul14_0, ge14_0⟩ := Kd.FK_slice_open hM14; obtain ⟨As172, cs172, es172⟩ := Kd.R_slice HO173.out; subst es172; have HP14 := Kd.N_seg HX14.out (x22_1 : Int) (lD) (by have h_ : (x22_1 : Int) < ((x5_1.length : Int) : Int) := lD; first | exact h_ | (have e_ := (Kd.N_reads' HO_5.out).1; omega) | simpa using h_) (seg := [(.slice As172 y171.length cs172)]) (j := 0) hcl14 hcc14 (show 1 ≤ 1 from by decide) (x' := y171) (Kd.FK_slice_mk (Kd.R_reads' (Kd.R_mono (ok' := (fun k_ => ((fun k_ => (w.heap.size ≤ k_))) k_ ∧ k_ ≠ go11)) (Kd.R_apart' (HO173.out) (Kd.N_typed HO_5.out) (by decide)) (fun k_ hk => ⟨hk.1.1, fun e_ => (hk.2) (by rw [e_]; rfl)⟩))).2.1 (Kd.R_F (Kd.R_mono (ok' := (fun k_ => ((fun k_ => (w.heap.size ≤ k_))) k_ ∧ k_ ≠ go11)) (Kd.R_apart' (HO173.out) (Kd.N_typed HO_5.out) (by decide)) (fun k_ hk => ⟨hk.1.1, fun e_ => (hk.2) (by rw [e_]; rfl)⟩)))) (fun _ hk => hk); have hx14_0 := hcc14 0 _ rfl; (try simp only [show ((Kd.slice 3 (Kd.int .i64))).sz = 1 from rfl, Nat.mul_one, Nat.add_zero] at hx14_0); have hf14_0 := hfr14 0; (try simp only [show ((Kd.slice 3 (Kd.int .i64))).sz = 1 from rfl, Nat.mul_one, Nat.add_zero] at hf14_0); clear hcl14 hcc14 hfr14; (try clear hM14); (try simp only [show ((Kd.slice 3 (Kd.int .i64))).sz = 1 from rfl, Nat.mul_one, Nat.add_zero] at HP14); (try simp only [show ((Kd.slice 3 (Kd.int .i64))).sz = 1 from rfl, Nat.mul_one, Nat.add_zero] at HP14)) | ((with_reducible refine gate_store (t := 34) (p := 29) rfl ?_); (try (rw [drewN_self w12]; generalize hq_ : World.drewN w12 _ = w12; have n0_ := Aside0.mk (Kd.N_at hq_ HO_5.out); have n1_ := Aside0.mk (below_at hq_ HB.out); clear hq_ HO_5 HB; have HO_5 := n0_; have HB := n1_; clear n0_ n1_; (try (have HX14 := Aside0.mk (show Kd.N (Kd.slice 3 (Kd.int .i64)) 34 w12 w.heap.size (fun k_ => (w.heap.size ≤ k_)) (.slice (some ⟨go11, 0, none⟩) x5_1.length co7) x5_1 from (by (with_reducible repeat (first | apply Kd.N_alloc | apply Kd.N_drewN | apply Kd.N_drew)); exact Kd.N_mono HO_5.out (fun _ hk => hk.1))))); (try (obtain ⟨ce14, hcl14, hM14, hcc14, hfr14⟩ := Kd.N_elem HX14.out [] (x22_1 : Int) (lD) (by have h_ : (x22_1 : Int) < ((x5_1.length : Int) : Int) := lD; first | exact h_ | (have e_ := (Kd.N_reads' HO_5.out).1; omega) | simpa using h_))); (try (obtain ⟨ua14_0, uc14_0, rfl, ul14_0, ge14_0⟩ := Kd.FK_slice_open hM14)); (try (have HP14 := Kd.N_seg HX14.out (x22_1 : Int) (lD) (by have h_ : (x22_1 : Int) < ((x5_1.length : Int) : Int) := lD; first | exact h_ | (have e_ := (Kd.N_reads' HO_5.out).1; omega) | simpa using h_) (seg := [(.slice As172 y171.length cs172)]) (j := 0) hcl14 hcc14 (show 1 ≤ 1 from by decide) (x' := y171) (Kd.FK_slice_mk (Kd.R_reads' (Kd.R_mono (ok' := (fun k_ => ((fun k_ => (w.heap.size ≤ k_))) k_ ∧ k_ ≠ go11)) (Kd.R_apart' (HO173.out) (Kd.N_typed HO_5.out) (by decide)) (fun k_ hk => ⟨hk.1.1, fun e_ => (hk.2) (by rw [e_]; rfl)⟩))).2.1 (Kd.R_F (Kd.R_mono (ok' := (fun k_ => ((fun k_ => (w.heap.size ≤ k_))) k_ ∧ k_ ≠ go11)) (Kd.R_apart' (HO173.out) (Kd.N_typed HO_5.out) (by decide)) (fun k_ hk => ⟨hk.1.1, fun e_ => (hk.2) (by rw [e_]; rfl)⟩)))) (fun _ hk => hk))); (try (have hx14_0 := hcc14 0 _ rfl)); (try (try simp only [show ((Kd.slice 3 (Kd.int .i64))).sz = 1 from rfl, Nat.mul_one, Nat.add_zero] at hx14_0)); (try (have hf14_0 := hfr14 0)); (try (try simp only [show ((Kd.slice 3 (Kd.int .i64))).sz = 1 from rfl, Nat.mul_one, Nat.add_zero] at hf14_0)); (try (clear hcl14 hcc14 hfr14; (try clear hM14))); (try (try simp only [show ((Kd.slice 3 (Kd.int .i64))).sz = 1 from rfl, Nat.mul_one, Nat.add_zero] at HP14)); (try (try simp only [show ((Kd.slice 3 (Kd.int .i64))).sz = 1 from rfl, Nat.mul_one, Nat.add_zero] at HP14)))); (try have o1_HO173 := (Kd.R_val HO173.out).2); (try have o1_HO_5 := (Kd.R_val HO_5.out).2); refine store_event (t := 34) (p := 29) (v := ?vo_w15) (w1 := (w12.setCell ⟨go11, (x22_1 : Int).toNat, none⟩ ((.slice As172 y171.length cs172)))) ?hg ?ho ?hn ?hr ?_; (case ho => rfl); (case hg => rfl); (case hn => rfl); (case hr => first | (go_simp; done) | (go_simp; rfl) | (obtain ⟨A_, c_, e_⟩ := Kd.R_slice HO173.out; subst e_; first | (go_simp; done) | (go_simp; rfl)) | (obtain ⟨A_, c_, e_⟩ := Kd.R_slice HO_5.out; subst e_; first | (go_simp; done) | (go_simp; rfl)) | (go_simp; repeat (rw [run_store _ _ _ _ _ (by assumption)]; go_simp))); intro w15 hw; have hg : w12.grownBy w15 (some go11) := (by rw [hw]; exact HP14.2); have hp_ : Kd.N (Kd.slice 3 (Kd.int .i64)) 34 w15 w.heap.size (fun k_ => (w.heap.size ≤ k_)) (.slice (some ⟨go11, 0, none⟩) x5_1.length co7) y174 := (by rw [hw, Ny174.out]; exact HP14.1); clear HP14; have n0_ := Aside0.mk (hp_); have n1_ := Aside0.mk ((by rw [hw]; exact below_set (HB.out) GB11.out : Below w.heap.size w w15)); clear HO_5; clear HB; clear HO173; have HO_5 := n0_; have HB := n1_; clear n0_ n1_; clear hg hw hp_))
        repeat (go_quiet (fail); try go_wp2_with (first | ((with_reducible refine gate_dst (N := 28) rfl ?_); (try (refine gate_guard (by rfl) ?_; dsimp only)); refine Kd.R_lit (Kd.int .i64) _ 3 ?hg (N := 28) ?hd (xs := ([x22_1] : List Int)) (inner := [.int .i64 x22_1]) (ok := fun _ => True) (okp := fun _ => True) ?hr ?hp (fun _ hk => hk) trivial (Below.refl _ _) (Nat.le_refl _) (by simp) ?_; (case hd => rfl); (case hg => rfl); (case hr => first | (go_simp; done) | (go_simp; rfl)); (case hp => exact (Reps.one (show Kd.M (Kd.int .i64) _ _ _ x22_1 [.int .i64 x22_1] from rfl) (Reps.none _ _))); intro (.slice As172 y171.length cs172) w12 ho13 hb hg_ hnew_; clear hg_ hnew_; (first | rw [← Ny171.out] at ho13 | (simp only [Int.reduceToNat] at ho13; rw [← Ny171.out] at ho13)); have n0_ := Aside0.mk (Kd.N_elder' (by (with_reducible repeat (first | apply Kd.N_alloc | apply Kd.N_drewN | apply Kd.N_drew)); exact HO_5.out) (Kd.R_base ho13) hb); have n1_ := Aside0.mk (Kd.R_lower (Kd.R_newM (M := fun k_ => (w.heap.size ≤ k_)) ho13 (below_size lB) (fun k_ h_ => h_)) (below_size lB)); have n2_ := Aside0.mk (below_step lB hb); clear HO_5; clear HB; have HO_5 := n0_; have HO173 := n1_; have HB := n2_; clear n0_ n1_ n2_; clear hb ho13; have p11 : 0 ≤ (x22_1 : Int) := lD; have q11 : (x22_1 : Int) < ((x5_1.length : Int) : Int) := lD; obtain ⟨go11, co11, eo11, gb11, gl11, cl11, HG11⟩ := Kd.N_form HO_5.out (by omega); (first | cases eo11 | (injection eo11 with ea_ en_ ec_; (first | subst ea_ | (injection ea_ with ea_; subst ea_)); subst ec_; clear en_)); have GB11 := Aside0.mk gb11; have GG11 := Aside0.mk HG11; clear gb11 gl11 HG11; obtain ⟨ce11, hcl11, hM11, hcc11, hfr11⟩ := Kd.N_elem HO_5.out [] (x22_1 : Int) p11 q11; obtain ⟨ua11_0, uc11_0, rfl, ul11_0, ge11_0⟩ := Kd.FK_slice_open hM11; have hx11_0 := hcc11 0 _ rfl; have hf11_0 := hfr11 0; (try simp only [show ((Kd.slice 3 (Kd.int .i64))).sz = 1 from rfl, Nat.mul_one, Nat.add_zero] at hx11_0); (try simp only [show ((Kd.slice 3 (Kd.int .i64))).sz = 1 from rfl, Nat.mul_one, Nat.add_zero] at hf11_0); clear hcl11 hcc11 hfr11; (try clear hM11); replace p11 := eq_true p11; replace q11 := eq_true q11; have HX14 := Aside0.mk (show Kd.N (Kd.slice 3 (Kd.int .i64)) 34 w12 w.heap.size (fun k_ => (w.heap.size ≤ k_)) (.slice (some ⟨go11, 0, none⟩) x5_1.length co7) x5_1 from (by (with_reducible repeat (first | apply Kd.N_alloc | apply Kd.N_drewN | apply Kd.N_drew)); exact Kd.N_mono HO_5.out (fun _ hk => hk.1))); obtain ⟨ce14, hcl14, hM14, hcc14, hfr14⟩ := Kd.N_elem HX14.out [] (x22_1 : Int) (lD) (by have h_ : (x22_1 : Int) < ((x5_1.length : Int) : Int) := lD; first | exact h_ | (have e_ := (Kd.N_reads' HO_5.out).1; omega) | simpa using h_); obtain ⟨ua14_0, uc14_0, rfl, ul14_0, ge14_0⟩ := Kd.FK_slice_open hM14; have HP14 := Kd.N_seg HX14.out (x22_1 : Int) (lD) (by have h_ : (x22_1 : Int) < ((x5_1.length : Int) : Int) := lD; first | exact h_ | (have e_ := (Kd.N_reads' HO_5.out).1; omega) | simpa using h_) (seg := [(.slice As172 y171.length cs172)]) (j := 0) hcl14 hcc14 (show 1 ≤ 1 from by decide) (x' := y171) (Kd.FK_slice_mk (Kd.R_reads' (Kd.R_mono (ok' := (fun k_ => ((fun k_ => (w.heap.size ≤ k_))) k_ ∧ k_ ≠ go11)) (Kd.R_apart' (HO173.out) (Kd.N_typed HO_5.out) (by decide)) (fun k_ hk => ⟨hk.1.1, fun e_ => (hk.2) (by rw [e_]; rfl)⟩))).2.1 (Kd.R_F (Kd.R_mono (ok' := (fun k_ => ((fun k_ => (w.heap.size ≤ k_))) k_ ∧ k_ ≠ go11)) (Kd.R_apart' (HO173.out) (Kd.N_typed HO_5.out) (by decide)) (fun k_ hk => ⟨hk.1.1, fun e_ => (hk.2) (by rw [e_]; rfl)⟩)))) (fun _ hk => hk); have hx14_0 := hcc14 0 _ rfl; (try simp only [show ((Kd.slice 3 (Kd.int .i64))).sz = 1 from rfl, Nat.mul_one, Nat.add_zero] at hx14_0); have hf14_0 := hfr14 0; (try simp only [show ((Kd.slice 3 (Kd.int .i64))).sz = 1 from rfl, Nat.mul_one, Nat.add_zero] at hf14_0); clear hcl14 hcc14 hfr14; (try clear hM14); (try simp only [show ((Kd.slice 3 (Kd.int .i64))).sz = 1 from rfl, Nat.mul_one, Nat.add_zero] at HP14); (try simp only [show ((Kd.slice 3 (Kd.int .i64))).sz = 1 from rfl, Nat.mul_one, Nat.add_zero] at HP14)) | ((with_reducible refine gate_store (t := 34) (p := 29) rfl ?_); (try (rw [drewN_self w12]; generalize hq_ : World.drewN w12 _ = w12; have n0_ := Aside0.mk (Kd.N_at hq_ HO_5.out); have n1_ := Aside0.mk (below_at hq_ HB.out); clear hq_ HO_5 HB; have HO_5 := n0_; have HB := n1_; clear n0_ n1_; (try (have HX14 := Aside0.mk (show Kd.N (Kd.slice 3 (Kd.int .i64)) 34 w12 w.heap.size (fun k_ => (w.heap.size ≤ k_)) (.slice (some ⟨go11, 0, none⟩) x5_1.length co7) x5_1 from (by (with_reducible repeat (first | apply Kd.N_alloc | apply Kd.N_drewN | apply Kd.N_drew)); exact Kd.N_mono HO_5.out (fun _ hk => hk.1))))); (try (obtain ⟨ce14, hcl14, hM14, hcc14, hfr14⟩ := Kd.N_elem HX14.out [] (x22_1 : Int) (lD) (by have h_ : (x22_1 : Int) < ((x5_1.length : Int) : Int) := lD; first | exact h_ | (have e_ := (Kd.N_reads' HO_5.out).1; omega) | simpa using h_))); (try (obtain ⟨ua14_0, uc14_0, rfl, ul14_0, ge14_0⟩ := Kd.FK_slice_open hM14)); (try (have HP14 := Kd.N_seg HX14.out (x22_1 : Int) (lD) (by have h_ : (x22_1 : Int) < ((x5_1.length : Int) : Int) := lD; first | exact h_ | (have e_ := (Kd.N_reads' HO_5.out).1; omega) | simpa using h_) (seg := [(.slice As172 y171.length cs172)]) (j := 0) hcl14 hcc14 (show 1 ≤ 1 from by decide) (x' := y171) (Kd.FK_slice_mk (Kd.R_reads' (Kd.R_mono (ok' := (fun k_ => ((fun k_ => (w.heap.size ≤ k_))) k_ ∧ k_ ≠ go11)) (Kd.R_apart' (HO173.out) (Kd.N_typed HO_5.out) (by decide)) (fun k_ hk => ⟨hk.1.1, fun e_ => (hk.2) (by rw [e_]; rfl)⟩))).2.1 (Kd.R_F (Kd.R_mono (ok' := (fun k_ => ((fun k_ => (w.heap.size ≤ k_))) k_ ∧ k_ ≠ go11)) (Kd.R_apart' (HO173.out) (Kd.N_typed HO_5.out) (by decide)) (fun k_ hk => ⟨hk.1.1, fun e_ => (hk.2) (by rw [e_]; rfl)⟩)))) (fun _ hk => hk))); (try (have hx14_0 := hcc14 0 _ rfl)); (try (try simp only [show ((Kd.slice 3 (Kd.int .i64))).sz = 1 from rfl, Nat.mul_one, Nat.add_zero] at hx14_0)); (try (have hf14_0 := hfr14 0)); (try (try simp only [show ((Kd.slice 3 (Kd.int .i64))).sz = 1 from rfl, Nat.mul_one, Nat.add_zero] at hf14_0)); (try (clear hcl14 hcc14 hfr14; (try clear hM14))); (try (try simp only [show ((Kd.slice 3 (Kd.int .i64))).sz = 1 from rfl, Nat.mul_one, Nat.add_zero] at HP14)); (try (try simp only [show ((Kd.slice 3 (Kd.int .i64))).sz = 1 from rfl, Nat.mul_one, Nat.add_zero] at HP14)))); (try have o1_HO173 := (Kd.R_val HO173.out).2); (try have o1_HO_5 := (Kd.R_val HO_5.out).2); refine store_event (t := 34) (p := 29) (v := ?vo_w15) (w1 := (w12.setCell ⟨go11, (x22_1 : Int).toNat, none⟩ ((.slice As172 y171.length cs172)))) ?hg ?ho ?hn ?hr ?_; (case ho => rfl); (case hg => rfl); (case hn => rfl); (case hr => first | (go_simp; done) | (go_simp; rfl) | (obtain ⟨A_, c_, e_⟩ := Kd.R_slice HO173.out; subst e_; first | (go_simp; done) | (go_simp; rfl)) | (obtain ⟨A_, c_, e_⟩ := Kd.R_slice HO_5.out; subst e_; first | (go_simp; done) | (go_simp; rfl)) | (go_simp; repeat (rw [run_store _ _ _ _ _ (by assumption)]; go_simp))); intro w15 hw; have hg : w12.grownBy w15 (some go11) := (by rw [hw]; exact HP14.2); have hp_ : Kd.N (Kd.slice 3 (Kd.int .i64)) 34 w15 w.heap.size (fun k_ => (w.heap.size ≤ k_)) (.slice (some ⟨go11, 0, none⟩) x5_1.length co7) y174 := (by rw [hw, Ny174.out]; exact HP14.1); clear HP14; have n0_ := Aside0.mk (hp_); have n1_ := Aside0.mk ((by rw [hw]; exact below_set (HB.out) GB11.out : Below w.heap.size w w15)); clear HO_5; clear HB; clear HO173; have HO_5 := n0_; have HB := n1_; clear n0_ n1_; clear hg hw hp_)))
        (try simp only [← hl5_1])
        go_roundg k1
        case measure => have := HK1.out; omega
        case rel => exact ⟨(y174), (wrap64 (x22_1 + 1)), lF, H', ⟨by have := HK1.out; omega⟩, ⟨by (try simp only [hl5_1]); (with_reducible repeat (first | apply Kd.N_alloc | apply Kd.N_drewN | apply Kd.N_drew)); exact HO_5.out⟩, ⟨lB⟩⟩
       ·rw [if_neg c10] at H
        exact absurd H (by simp)
      ·rw [if_neg c9] at H
       exact absurd H (by simp)
     ·rw [if_neg c8] at H
      have c8b0 : decide (x22_1 < (y168.length : Int)) = false := decide_eq_false c8
      (try simp only [hl5_1] at c8b0)
      clear c8
      replace H := lO H
      obtain ⟨t175, A16, H⟩ := H
      have H' := Aside0.mk H
      clear H
      go_wp2_with (first | (go_at_call 96; (with_reducible refine (spec_l11By.calls k1 _ _ l1 t175 _ ?side1 ?side2 A16.out).mono ?_); (case side1 => exact lC (Kd.C_below HR1.out HB.out)); (case side2 => exact HC1.out); rintro e w17 ⟨v176, rfl, ho0, hb⟩; have n0_ := Aside0.mk (Kd.N_elder' (by (with_reducible repeat (first | apply Kd.N_alloc | apply Kd.N_drewN | apply Kd.N_drew)); exact HO_5.out) (Kd.R_base ho0) hb); have n1_ := Aside0.mk (Kd.R_lower (Kd.R_newM (M := fun k_ => (w.heap.size ≤ k_)) ho0 (below_size lB) (fun k_ h_ => h_)) (below_size lB)); have n2_ := Aside0.mk (below_step lB hb); clear HO_5; clear HB; have HO_5 := n0_; have HO177 := n1_; have HB := n2_; clear n0_ n1_ n2_; (try clear hb); (try clear hb2); (try clear hk); (try clear hi); (try clear ho0); obtain ⟨Ao18, co18, eo18⟩ := Kd.R_slice HO177.out; subst eo18))
      repeat (go_quiet (fail); try go_wp2_with (first | (go_at_call 96; (with_reducible refine (spec_l11By.calls k1 _ _ l1 t175 _ ?side1 ?side2 A16.out).mono ?_); (case side1 => exact lC (Kd.C_below HR1.out HB.out)); (case side2 => exact HC1.out); rintro e w17 ⟨v176, rfl, ho0, hb⟩; have n0_ := Aside0.mk (Kd.N_elder' (by (with_reducible repeat (first | apply Kd.N_alloc | apply Kd.N_drewN | apply Kd.N_drew)); exact HO_5.out) (Kd.R_base ho0) hb); have n1_ := Aside0.mk (Kd.R_lower (Kd.R_newM (M := fun k_ => (w.heap.size ≤ k_)) ho0 (below_size lB) (fun k_ h_ => h_)) (below_size lB)); have n2_ := Aside0.mk (below_step lB hb); clear HO_5; clear HB; have HO_5 := n0_; have HO177 := n1_; have HB := n2_; clear n0_ n1_ n2_; (try clear hb); (try clear hb2); (try clear hk); (try clear hi); (try clear ho0); obtain ⟨Ao18, co18, eo18⟩ := Kd.R_slice HO177.out; subst eo18)))
      go_loopg [34] k1 (fun kq v34 w' => ∃ (x5_2 : List (List Int)) (x34_2 : Int), v34 = .int .i64 x34_2 ∧ Aside0 (spec_l11Chains.l1 kq a0 x5_2 t175 (t175.length : Int) x34_2 = some r) ∧ Aside0 (kq ≤ k1) ∧ Aside0 (Kd.N (Kd.slice 3 (Kd.int .i64)) 34 w' w.heap.size (fun k_ => (w.heap.size ≤ k_) ∧ some k_ ≠ ((.slice Ao18 t175.length co18) : Value).ownBlock) (.slice Ao7 x5_1.length co7) x5_2) ∧ Aside0 (Kd.R k48 48 w' w.heap.size (fun k_ => (w.heap.size ≤ k_)) (.slice Ao18 t175.length co18) t175) ∧ Aside0 (Below w.heap.size w w'))
      case atStart => exact ⟨(x5_1), (0), lF, H', ⟨Nat.le_refl _⟩, ⟨by (try simp only [hl5_1]); (with_reducible repeat (first | apply Kd.N_alloc | apply Kd.N_drewN | apply Kd.N_drew)); exact HO_5.out⟩, ⟨by (try simp only [hl5_1]); (with_reducible repeat (first | apply Kd.R_alloc | apply Kd.R_drewN | apply Kd.R_drew)); exact Kd.R_mono HO177.out (fun _ hk => hk.1)⟩, ⟨lB⟩⟩
      case round =>
       clear H'
       try clear c1
       try clear p1
       try clear q1
       try clear hx1
       try clear p2
       try clear c3
       try clear c3b0
       try clear c3b1
       try clear c4
       try clear c4b0
       try clear c4b1
       try clear c5
       try clear p6
       try clear c8
       try clear c8b0
       try clear c9
       try clear c9b0
       try clear c10
       try clear c10b0
       try clear c11
       try clear p11
       try clear q11
       try clear hx11
       try clear hf11
       try clear c14
       try clear hx14
       try clear hf14
       try clear hx11_0
       try clear hx14_0
       try clear p11
       try clear p2
       try clear q11
       obtain ⟨x5_2, x34_2, rfl, HA, HK2, HO_5, HO_32, HB⟩ := hrel
       have hl5_2 := (Kd.N_reads' HO_5.out).1
       rw [hl5_2] at HO_5
       (try simp only [hl5_2])
       (try simp only [hl5_2] at HO_32)
       cases gk with
       | zero => exact absurd HA.out (by simp [spec_l11Chains.l1])
       | succ k2 =>
        have H := HA.out
        clear HA
        simp only [spec_l11Chains.l1] at H
        by_cases c19 : x34_2 < (t175.length : Int)
        ·rw [if_pos c19] at H
         have c19b0 : decide (x34_2 < (t175.length : Int)) = true := decide_eq_true c19
         (try simp only [hl5_1, hl5_2] at c19b0)
         clear c19
         by_cases c20 : 0 ≤ x34_2
         ·rw [if_pos c20] at H
          have c20b0 : decide (0 ≤ x34_2) = true := decide_eq_true c20
          clear c20
          by_cases c21 : x34_2 < (t175.length : Int)
          ·rw [if_pos c21] at H
           have c21b0 : decide (x34_2 < (t175.length : Int)) = true := decide_eq_true c21
           (try simp only [hl5_1, hl5_2] at c21b0)
           clear c21
           have H' := Aside0.mk H
           clear H
           have p178 : 0 ≤ (x34_2 : Int) := lD
           have q178 : x34_2 < (t175.length : Int) := lD
           obtain ⟨ad178, e178, hx178_0, hx178_1, hx178_2⟩ := at_T48 (Kd.R_reads' HO_32.out).2.2 x34_2 p178 q178
           cases e178
           replace p178 := eq_true p178
           replace q178 := eq_true q178
           go_wp2_with (first | ((with_reducible refine gate_dst (N := 8) rfl ?_); (try (refine gate_guard (by rfl) ?_; dsimp only)); refine bxe 8 #[.int .i64 0, .int .i64 0, .int .i64 0] 48 ?_; intro gb179 hg w22 hbox hb; have n0_ := Aside0.mk (Kd.N_below (Kd.N_elderB (by (with_reducible repeat (first | apply Kd.N_alloc | apply Kd.N_drewN | apply Kd.N_drew)); exact HO_5.out) gb179 (Nat.le_of_eq hg.symm)) hb); have n1_ := Aside0.mk (Kd.R_below (Kd.R_elderB (lR HO_32.out) gb179 (Nat.le_of_eq hg.symm)) hb); have n2_ := Aside0.mk (below_step lB hb); have n3_ := Aside0.mk (hbox); have n4_ := lG w hg; have n5_ := lG w hg; clear HO_5; clear HO_32; clear HB; have HO_5 := n0_; have HO_32 := n1_; have HB := n2_; have BK179 := n3_; have GW179 := n4_; have GE179 := n5_; clear n0_ n1_ n2_ n3_ n4_ n5_; clear hb hbox hg; obtain ⟨hcz23_0, hfz23_0, hcz23_1, hfz23_1, hcz23_2, hfz23_2⟩ := bk3 BK179.out))
           repeat (go_quiet (fail); try go_wp2_with (first | ((with_reducible refine gate_dst (N := 8) rfl ?_); (try (refine gate_guard (by rfl) ?_; dsimp only)); refine bxe 8 #[.int .i64 0, .int .i64 0, .int .i64 0] 48 ?_; intro gb179 hg w22 hbox hb; have n0_ := Aside0.mk (Kd.N_below (Kd.N_elderB (by (with_reducible repeat (first | apply Kd.N_alloc | apply Kd.N_drewN | apply Kd.N_drew)); exact HO_5.out) gb179 (Nat.le_of_eq hg.symm)) hb); have n1_ := Aside0.mk (Kd.R_below (Kd.R_elderB (lR HO_32.out) gb179 (Nat.le_of_eq hg.symm)) hb); have n2_ := Aside0.mk (below_step lB hb); have n3_ := Aside0.mk (hbox); have n4_ := lG w hg; have n5_ := lG w hg; clear HO_5; clear HO_32; clear HB; have HO_5 := n0_; have HO_32 := n1_; have HB := n2_; have BK179 := n3_; have GW179 := n4_; have GE179 := n5_; clear n0_ n1_ n2_ n3_ n4_ n5_; clear hb hbox hg; obtain ⟨hcz23_0, hfz23_0, hcz23_1, hfz23_1, hcz23_2, hfz23_2⟩ := bk3 BK179.out)))
           go_loopg [9, 10, 40] k2 (fun kq v9 v10 v40 w' => ∃ (x9_3 : Int) (x10_3 : Int) (x40_3 : Int), v9 = .int .i64 x9_3 ∧ v10 = .int .i64 x10_3 ∧ v40 = .int .i64 x40_3 ∧ Aside0 (spec_l11Chains.l2 kq a0 x5_2 x9_3 x10_3 t175 (t175.length : Int) x34_2 x5_2 (x5_2.length : Int) x40_3 ((rd_T48 t175 x34_2).f0) ((rd_T48 t175 x34_2).f1) ((rd_T48 t175 x34_2).f2) = some r) ∧ Aside0 (kq ≤ k2) ∧ Aside0 (Kd.N (Kd.slice 3 (Kd.int .i64)) 34 w' w.heap.size (fun k_ => (w.heap.size ≤ k_) ∧ some k_ ≠ ((.slice (some ad178) t175.length co18) : Value).ownBlock ∧ k_ ≠ gb179) (.slice Ao7 x5_2.length co7) x5_2) ∧ Aside0 (Kd.R k48 48 w' w.heap.size (fun k_ => (w.heap.size ≤ k_) ∧ k_ ≠ gb179) (.slice (some ad178) t175.length co18) t175) ∧ Aside0 (Kd.N (Kd.slice 3 (Kd.int .i64)) 34 w' w.heap.size (fun k_ => (w.heap.size ≤ k_) ∧ some k_ ≠ ((.slice (some ad178) t175.length co18) : Value).ownBlock ∧ k_ ≠ gb179) (.slice Ao7 x5_2.length co7) x5_2) ∧ Aside0 (w'.heap[gb179]? = some (.cells #[.int .i64 ((rd_T48 t175 x34_2).f0), .int .i64 ((rd_T48 t175 x34_2).f1), .int .i64 ((rd_T48 t175 x34_2).f2)] 48 (0, 0))) ∧ Aside0 (Below w.heap.size w w'))
           case atStart => exact ⟨((-1)), ((-1)), (0), lF, lF, lF, H', ⟨Nat.le_refl _⟩, ⟨by (try simp only [hl5_1]); (try simp only [hl5_2]); (with_reducible repeat (first | apply Kd.N_alloc | apply Kd.N_drewN | apply Kd.N_drew)); exact Kd.N_mono (Kd.N_far (p := ⟨gb179, 2, none⟩) (Kd.N_far (p := ⟨gb179, 1, none⟩) (Kd.N_far (p := ⟨gb179, 0, none⟩) (Kd.N_mono HO_5.out (fun k_ hk => (⟨hk, hk.2⟩ : _ ∧ k_ ≠ gb179))) (fun _ hk => hk.2) (.int .i64 ((rd_T48 t175 x34_2).f0))) (fun _ hk => hk.2) (.int .i64 ((rd_T48 t175 x34_2).f1))) (fun _ hk => hk.2) (.int .i64 ((rd_T48 t175 x34_2).f2))) (fun _ hk => ⟨hk.1.1.1, ⟨hk.1.1.2, hk.1.2⟩⟩)⟩, ⟨by (try simp only [hl5_1]); (try simp only [hl5_2]); (with_reducible repeat (first | apply Kd.R_alloc | apply Kd.R_drewN | apply Kd.R_drew)); exact Kd.R_mono (Kd.R_far (p := ⟨gb179, 2, none⟩) (Kd.R_far (p := ⟨gb179, 1, none⟩) (Kd.R_far (p := ⟨gb179, 0, none⟩) (Kd.R_mono HO_32.out (fun k_ hk => (⟨hk, hk.2⟩ : _ ∧ k_ ≠ gb179))) (fun _ hk => hk.2) (.int .i64 ((rd_T48 t175 x34_2).f0))) (fun _ hk => hk.2) (.int .i64 ((rd_T48 t175 x34_2).f1))) (fun _ hk => hk.2) (.int .i64 ((rd_T48 t175 x34_2).f2))) (fun _ hk => ⟨hk.1.1, hk.1.2⟩)⟩, ⟨by (try simp only [hl5_1]); (try simp only [hl5_2]); (with_reducible repeat (first | apply Kd.N_alloc | apply Kd.N_drewN | apply Kd.N_drew)); exact Kd.N_mono (Kd.N_far (p := ⟨gb179, 2, none⟩) (Kd.N_far (p := ⟨gb179, 1, none⟩) (Kd.N_far (p := ⟨gb179, 0, none⟩) (Kd.N_mono HO_5.out (fun k_ hk => (⟨hk, hk.2⟩ : _ ∧ k_ ≠ gb179))) (fun _ hk => hk.2) (.int .i64 ((rd_T48 t175 x34_2).f0))) (fun _ hk => hk.2) (.int .i64 ((rd_T48 t175 x34_2).f1))) (fun _ hk => hk.2) (.int .i64 ((rd_T48 t175 x34_2).f2))) (fun _ hk => ⟨hk.1.1.1, ⟨hk.1.1.2, hk.1.2⟩⟩)⟩, ⟨by (try simp only [hl5_1]); (try simp only [hl5_2]); (with_reducible repeat first | apply bN | apply bD | apply bA); refine blk_put (cs := #[.int .i64 ((rd_T48 t175 x34_2).f0), .int .i64 ((rd_T48 t175 x34_2).f1), .int .i64 0]) ?_ 2 _ rfl; (with_reducible repeat first | apply bN | apply bD | apply bA); refine blk_put (cs := #[.int .i64 ((rd_T48 t175 x34_2).f0), .int .i64 0, .int .i64 0]) ?_ 1 _ rfl; (with_reducible repeat first | apply bN | apply bD | apply bA); refine blk_put (cs := #[.int .i64 0, .int .i64 0, .int .i64 0]) ?_ 0 _ rfl; (with_reducible repeat first | apply bN | apply bD | apply bA); exact BK179.out⟩, ⟨lB⟩⟩
           case round =>
            clear H'
            try clear c1
            try clear p1
            try clear q1
            try clear hx1
            try clear c2
            try clear p2
            try clear c3
            try clear c3b0
            try clear c3b1
            try clear c4
            try clear c4b0
            try clear c4b1
            try clear c5
            try clear p6
            try clear c8
            try clear c8b0
            try clear c9
            try clear c9b0
            try clear c10
            try clear c10b0
            try clear c11
            try clear p11
            try clear q11
            try clear hx11
            try clear hf11
            try clear c14
            try clear hx14
            try clear hf14
            try clear p17
            try clear q17
            try clear hx17
            try clear c19
            try clear c19b0
            try clear c20
            try clear c20b0
            try clear c21
            try clear c21b0
            try clear hcz23_0 hcz23_1 hcz23_2 hfz23_0 hfz23_1 hfz23_2
            try clear hx11_0
            try clear hx14_0
            try clear hx178_0
            try clear hx178_1
            try clear hx178_2
            try clear p1
            try clear p11
            try clear p178
            try clear p2
            try clear p6
            try clear q1
            try clear q11
            try clear q178
            obtain ⟨x9_3, x10_3, x40_3, rfl, rfl, rfl, HA, HK3, HO_5, HO_32, HO_38, BK179, HB⟩ := hrel
            cases gk with
            | zero => exact absurd HA.out (by simp [spec_l11Chains.l2])
            | succ k3 =>
             have H := HA.out
             clear HA
             simp only [spec_l11Chains.l2] at H
             by_cases c24 : x40_3 < (x5_2.length : Int)
             ·rw [if_pos c24] at H
              have c24b0 : decide (x40_3 < (x5_2.length : Int)) = true := decide_eq_true c24
              (try simp only [hl5_1, hl5_2] at c24b0)
              clear c24
              by_cases c25 : 0 ≤ x40_3
              ·rw [if_pos c25] at H
               have c25b0 : decide (0 ≤ x40_3) = true := decide_eq_true c25
               clear c25
               by_cases c26 : x40_3 < (x5_2.length : Int)
               ·rw [if_pos c26] at H
                have c26b0 : decide (x40_3 < (x5_2.length : Int)) = true := decide_eq_true c26
                (try simp only [hl5_1, hl5_2] at c26b0)
                clear c26
                by_cases c27 : ((rd_L5 x5_2 x40_3).length : Int) > 0
                ·rw [if_pos c27] at H
                 have c27b0 : decide (0 < ((rd_L5 x5_2 x40_3).length : Int)) = true := decide_eq_true c27
                 (try simp only [hl5_1, hl5_2] at c27b0)
                 have c27b1 : decide (0 < (rd_L5 x5_2 x40_3).length) = true := decide_eq_true (by omega)
                 (try simp only [hl5_1, hl5_2] at c27b1)
                 clear c27
                 obtain ⟨ji28, hji28⟩ : ∃ j_ : Int, (wrap64 (((rd_L5 x5_2 x40_3).length : Int) - 1)) = j_ := ⟨_, rfl⟩
                 replace H : (if 0 ≤ (ji28) then (if (ji28) < ((rd_L5 x5_2 x40_3).length : Int) then (if (rd (rd_L5 x5_2 x40_3) (ji28)) = ((rd_T48 t175 x34_2).f0) then (if 0 < ((rd_L5 x5_2 x40_3).length : Int) then (if (rd (rd_L5 x5_2 x40_3) 0) = ((rd_T48 t175 x34_2).f1) then (spec_l11Chains.l2 k3 a0 x5_2 x40_3 x40_3 t175 (t175.length : Int) x34_2 x5_2 (x5_2.length : Int) (wrap64 (x40_3 + 1)) ((rd_T48 t175 x34_2).f0) ((rd_T48 t175 x34_2).f1) ((rd_T48 t175 x34_2).f2)) else (spec_l11Chains.l2 k3 a0 x5_2 x40_3 x10_3 t175 (t175.length : Int) x34_2 x5_2 (x5_2.length : Int) (wrap64 (x40_3 + 1)) ((rd_T48 t175 x34_2).f0) ((rd_T48 t175 x34_2).f1) ((rd_T48 t175 x34_2).f2))) else (none)) else (if 0 < ((rd_L5 x5_2 x40_3).length : Int) then (if (rd (rd_L5 x5_2 x40_3) 0) = ((rd_T48 t175 x34_2).f1) then (spec_l11Chains.l2 k3 a0 x5_2 x9_3 x40_3 t175 (t175.length : Int) x34_2 x5_2 (x5_2.length : Int) (wrap64 (x40_3 + 1)) ((rd_T48 t175 x34_2).f0) ((rd_T48 t175 x34_2).f1) ((rd_T48 t175 x34_2).f2)) else (spec_l11Chains.l2 k3 a0 x5_2 x9_3 x10_3 t175 (t175.length : Int) x34_2 x5_2 (x5_2.length : Int) (wrap64 (x40_3 + 1)) ((rd_T48 t175 x34_2).f0) ((rd_T48 t175 x34_2).f1) ((rd_T48 t175 x34_2).f2))) else (none))) else (none)) else (none)) = some r := by first | (rw [hji28] at H; exact H) | (simp only [hji28] at H ⊢; exact H)
                 have hji28w : (IntKind.i64.wrap (((rd_L5 x5_2 x40_3).length : Int) - 1)) = ji28 := (i64_w _).trans hji28
                 by_cases c29 : 0 ≤ (ji28)
                 ·rw [if_pos c29] at H
                  have c29b0 : decide (0 ≤ (ji28)) = true := decide_eq_true c29
                  clear c29
                  by_cases c30 : (ji28) < ((rd_L5 x5_2 x40_3).length : Int)
                  ·rw [if_pos c30] at H
                   have c30b0 : decide ((ji28) < ((rd_L5 x5_2 x40_3).length : Int)) = true := decide_eq_true c30
                   (try simp only [hl5_1, hl5_2] at c30b0)
                   clear c30
                   by_cases c31 : (rd (rd_L5 x5_2 x40_3) (ji28)) = ((rd_T48 t175 x34_2).f0)
                   ·rw [if_pos c31] at H
                    have c31b0 : ((rd (rd_L5 x5_2 x40_3) (ji28)) == ((rd_T48 t175 x34_2).f0)) = true := beq_iff_eq.mpr c31
                    have c31b1 : ((rd (rd_L5 x5_2 x40_3) (ji28)) != ((rd_T48 t175 x34_2).f0)) = false := bne_eq_false_iff_eq.mpr c31
                    clear c31
                    by_cases c32 : 0 < ((rd_L5 x5_2 x40_3).length : Int)
                    ·rw [if_pos c32] at H
                     have c32b0 : decide (0 < ((rd_L5 x5_2 x40_3).length : Int)) = true := decide_eq_true c32
                     (try simp only [hl5_1, hl5_2] at c32b0)
                     have c32b1 : decide (0 < (rd_L5 x5_2 x40_3).length) = true := decide_eq_true (by omega)
                     (try simp only [hl5_1, hl5_2] at c32b1)
                     clear c32
                     by_cases c33 : (rd (rd_L5 x5_2 x40_3) 0) = ((rd_T48 t175 x34_2).f1)
                     ·rw [if_pos c33] at H
                      have c33b0 : ((rd (rd_L5 x5_2 x40_3) 0) == ((rd_T48 t175 x34_2).f1)) = true := beq_iff_eq.mpr c33
                      have c33b1 : ((rd (rd_L5 x5_2 x40_3) 0) != ((rd_T48 t175 x34_2).f1)) = false := bne_eq_false_iff_eq.mpr c33
                      clear c33
                      have H' := Aside0.mk H
                      clear H
                      have p180 : 0 ≤ (x40_3 : Int) := lD
                      have q180 : x40_3 < (x5_2.length : Int) := lD
                      obtain ⟨ad180, A180_0, c180_0, e180, hx180_0, hl180_0, hi180_0⟩ := at_L5 (Kd.N_reads' HO_38.out).2.2 x40_3 p180 q180
                      cases e180
                      obtain ⟨ce180, hce180, hMe180, hcc180⟩ := Kd.N_get HO_38.out [] x40_3 p180 (by first | exact q180 | exact lD | (have e_ := (Kd.N_reads' HO_38.out).1; omega))
                      obtain ⟨ua180_0, uc180_0, rfl, ul180_0, ge180_0⟩ := Kd.FK_slice_open hMe180
                      have hv180_0 := hcc180 0 _ rfl
                      rw [Nat.add_zero, show ((Kd.slice 3 (Kd.int .i64))).sz = 1 from rfl, Nat.mul_one] at hv180_0
                      replace hv180_0 := Option.some.inj (hv180_0.symm.trans hx180_0)
                      injection hv180_0 with hva_ hvn_ hvc_
                      rw [hva_] at ge180_0
                      rw [hvc_] at ul180_0
                      have HL180_0 := Aside0.mk (show Kd.V (Kd.int .i64) 3 _ w.heap.size _ _ (rd_L5 x5_2 x40_3) from Kd.V_mk ul180_0 ge180_0)
                      clear hva_ hvn_ hvc_ ge180_0 ul180_0
                      clear hcc180 hce180
                      have HR180_0 := Aside0.mk hi180_0
                      have HC180_0 := Aside0.mk hl180_0
                      clear hi180_0 hl180_0
                      replace p180 := eq_true p180
                      replace q180 := eq_true q180
                      have p181 : 0 ≤ ((ji28) : Int) := lD
                      have q181 : (ji28) < ((rd_L5 x5_2 x40_3).length : Int) := lD
                      obtain ⟨ad181, e181, hx181_0⟩ := Kd.at_int (by repeat (first | (with_reducible exact HR180_0.out) | (with_reducible refine Kd.C_alloc ?_ _) | (with_reducible refine Kd.C_drewN ?_ _) | (with_reducible refine Kd.C_drew ?_) | exact HR180_0.out)) (ji28) p181 q181
                      cases e181
                      replace p181 := eq_true p181
                      replace q181 := eq_true q181
                      obtain ⟨hcz34_0, hfz34_0, hcz34_1, hfz34_1, hcz34_2, hfz34_2⟩ := bk3 BK179.out
                      have p182 : 0 ≤ (0 : Int) := (by omega)
                      have q182 : 0 < ((rd_L5 x5_2 x40_3).length : Int) := lD
                      obtain ⟨ad182, e182, hx182_0⟩ := Kd.at_int (by repeat (first | (with_reducible exact HR180_0.out) | (with_reducible refine Kd.C_alloc ?_ _) | (with_reducible refine Kd.C_drewN ?_ _) | (with_reducible refine Kd.C_drew ?_) | exact HR180_0.out)) 0 p182 q182
                      obtain rfl : ad181 = ad182 := (by injection e182)
                      have qi182 : (0 < (rd_L5 x5_2 x40_3).length) = True := eq_true (by omega)
                      (try rw [show ((0 : Int)).toNat = 0 from rfl] at hx182_0)
                      (try rw [Addr.add_zero'] at hx182_0)
                      replace p182 := eq_true p182
                      replace q182 := eq_true q182
                      go_wp2
                      repeat (go_quiet (fail); try go_wp2)
                      go_roundg k3
                      case measure => have := HK1.out; have := HK2.out; have := HK3.out; omega
                      case rel => exact ⟨(x40_3), (x40_3), (wrap64 (x40_3 + 1)), lF, lF, lF, H', ⟨by have := HK1.out; have := HK2.out; have := HK3.out; omega⟩, ⟨by (try simp only [hl5_1]); (try simp only [hl5_2]); (with_reducible repeat (first | apply Kd.N_alloc | apply Kd.N_drewN | apply Kd.N_drew)); exact HO_5.out⟩, ⟨by (try simp only [hl5_1]); (try simp only [hl5_2]); (with_reducible repeat (first | apply Kd.R_alloc | apply Kd.R_drewN | apply Kd.R_drew)); exact HO_32.out⟩, ⟨by (try simp only [hl5_1]); (try simp only [hl5_2]); (with_reducible repeat (first | apply Kd.N_alloc | apply Kd.N_drewN | apply Kd.N_drew)); exact HO_38.out⟩, ⟨by (try simp only [hl5_1]); (try simp only [hl5_2]); (with_reducible repeat first | apply bN | apply bD | apply bA); exact BK179.out⟩, ⟨lB⟩⟩
                     ·rw [if_neg c33] at H
                      have c33b0 : ((rd (rd_L5 x5_2 x40_3) 0) == ((rd_T48 t175 x34_2).f1)) = false := beq_eq_false_iff_ne.mpr c33
                      have c33b1 : ((rd (rd_L5 x5_2 x40_3) 0) != ((rd_T48 t175 x34_2).f1)) = true := bne_iff_ne.mpr c33
                      have H' := Aside0.mk H
                      clear H
                      have p180 : 0 ≤ (x40_3 : Int) := lD
                      have q180 : x40_3 < (x5_2.length : Int) := lD
                      obtain ⟨ad180, A180_0, c180_0, e180, hx180_0, hl180_0, hi180_0⟩ := at_L5 (Kd.N_reads' HO_38.out).2.2 x40_3 p180 q180
                      cases e180
                      obtain ⟨ce180, hce180, hMe180, hcc180⟩ := Kd.N_get HO_38.out [] x40_3 p180 (by first | exact q180 | exact lD | (have e_ := (Kd.N_reads' HO_38.out).1; omega))
                      obtain ⟨ua180_0, uc180_0, rfl, ul180_0, ge180_0⟩ := Kd.FK_slice_open hMe180
                      have hv180_0 := hcc180 0 _ rfl
                      rw [Nat.add_zero, show ((Kd.slice 3 (Kd.int .i64))).sz = 1 from rfl, Nat.mul_one] at hv180_0
                      replace hv180_0 := Option.some.inj (hv180_0.symm.trans hx180_0)
                      injection hv180_0 with hva_ hvn_ hvc_
                      rw [hva_] at ge180_0
                      rw [hvc_] at ul180_0
                      have HL180_0 := Aside0.mk (show Kd.V (Kd.int .i64) 3 _ w.heap.size _ _ (rd_L5 x5_2 x40_3) from Kd.V_mk ul180_0 ge180_0)
                      clear hva_ hvn_ hvc_ ge180_0 ul180_0
                      clear hcc180 hce180
                      have HR180_0 := Aside0.mk hi180_0
                      have HC180_0 := Aside0.mk hl180_0
                      clear hi180_0 hl180_0
                      replace p180 := eq_true p180
                      replace q180 := eq_true q180
                      have p181 : 0 ≤ ((ji28) : Int) := lD
                      have q181 : (ji28) < ((rd_L5 x5_2 x40_3).length : Int) := lD
                      obtain ⟨ad181, e181, hx181_0⟩ := Kd.at_int (by repeat (first | (with_reducible exact HR180_0.out) | (with_reducible refine Kd.C_alloc ?_ _) | (with_reducible refine Kd.C_drewN ?_ _) | (with_reducible refine Kd.C_drew ?_) | exact HR180_0.out)) (ji28) p181 q181
                      cases e181
                      replace p181 := eq_true p181
                      replace q181 := eq_true q181
                      obtain ⟨hcz35_0, hfz35_0, hcz35_1, hfz35_1, hcz35_2, hfz35_2⟩ := bk3 BK179.out
                      have p182 : 0 ≤ (0 : Int) := (by omega)
                      have q182 : 0 < ((rd_L5 x5_2 x40_3).length : Int) := lD
                      obtain ⟨ad182, e182, hx182_0⟩ := Kd.at_int (by repeat (first | (with_reducible exact HR180_0.out) | (with_reducible refine Kd.C_alloc ?_ _) | (with_reducible refine Kd.C_drewN ?_ _) | (with_reducible refine Kd.C_drew ?_) | exact HR180_0.out)) 0 p182 q182
                      obtain rfl : ad181 = ad182 := (by injection e182)
                      have qi182 : (0 < (rd_L5 x5_2 x40_3).length) = True := eq_true (by omega)
                      (try rw [show ((0 : Int)).toNat = 0 from rfl] at hx182_0)
                      (try rw [Addr.add_zero'] at hx182_0)
                      replace p182 := eq_true p182
                      replace q182 := eq_true q182
                      go_wp2
                      repeat (go_quiet (fail); try go_wp2)
                      go_roundg k3
                      case measure => have := HK1.out; have := HK2.out; have := HK3.out; omega
                      case rel => exact ⟨(x40_3), (x10_3), (wrap64 (x40_3 + 1)), lF, lF, lF, H', ⟨by have := HK1.out; have := HK2.out; have := HK3.out; omega⟩, ⟨by (try simp only [hl5_1]); (try simp only [hl5_2]); (with_reducible repeat (first | apply Kd.N_alloc | apply Kd.N_drewN | apply Kd.N_drew)); exact HO_5.out⟩, ⟨by (try simp only [hl5_1]); (try simp only [hl5_2]); (with_reducible repeat (first | apply Kd.R_alloc | apply Kd.R_drewN | apply Kd.R_drew)); exact HO_32.out⟩, ⟨by (try simp only [hl5_1]); (try simp only [hl5_2]); (with_reducible repeat (first | apply Kd.N_alloc | apply Kd.N_drewN | apply Kd.N_drew)); exact HO_38.out⟩, ⟨by (try simp only [hl5_1]); (try simp only [hl5_2]); (with_reducible repeat first | apply bN | apply bD | apply bA); exact BK179.out⟩, ⟨lB⟩⟩
                    ·rw [if_neg c32] at H
                     exact absurd H (by simp)
                   ·rw [if_neg c31] at H
                    have c31b0 : ((rd (rd_L5 x5_2 x40_3) (ji28)) == ((rd_T48 t175 x34_2).f0)) = false := beq_eq_false_iff_ne.mpr c31
                    have c31b1 : ((rd (rd_L5 x5_2 x40_3) (ji28)) != ((rd_T48 t175 x34_2).f0)) = true := bne_iff_ne.mpr c31
                    by_cases c36 : 0 < ((rd_L5 x5_2 x40_3).length : Int)
                    ·rw [if_pos c36] at H
                     have c36b0 : decide (0 < ((rd_L5 x5_2 x40_3).length : Int)) = true := decide_eq_true c36
                     (try simp only [hl5_1, hl5_2] at c36b0)
                     have c36b1 : decide (0 < (rd_L5 x5_2 x40_3).length) = true := decide_eq_true (by omega)
                     (try simp only [hl5_1, hl5_2] at c36b1)
                     clear c36
                     by_cases c37 : (rd (rd_L5 x5_2 x40_3) 0) = ((rd_T48 t175 x34_2).f1)
                     ·rw [if_pos c37] at H
                      have c37b0 : ((rd (rd_L5 x5_2 x40_3) 0) == ((rd_T48 t175 x34_2).f1)) = true := beq_iff_eq.mpr c37
                      have c37b1 : ((rd (rd_L5 x5_2 x40_3) 0) != ((rd_T48 t175 x34_2).f1)) = false := bne_eq_false_iff_eq.mpr c37
                      clear c37
                      have H' := Aside0.mk H
                      clear H
                      have p180 : 0 ≤ (x40_3 : Int) := lD
                      have q180 : x40_3 < (x5_2.length : Int) := lD
                      obtain ⟨ad180, A180_0, c180_0, e180, hx180_0, hl180_0, hi180_0⟩ := at_L5 (Kd.N_reads' HO_38.out).2.2 x40_3 p180 q180
                      cases e180
                      obtain ⟨ce180, hce180, hMe180, hcc180⟩ := Kd.N_get HO_38.out [] x40_3 p180 (by first | exact q180 | exact lD | (have e_ := (Kd.N_reads' HO_38.out).1; omega))
                      obtain ⟨ua180_0, uc180_0, rfl, ul180_0, ge180_0⟩ := Kd.FK_slice_open hMe180
                      have hv180_0 := hcc180 0 _ rfl
                      rw [Nat.add_zero, show ((Kd.slice 3 (Kd.int .i64))).sz = 1 from rfl, Nat.mul_one] at hv180_0
                      replace hv180_0 := Option.some.inj (hv180_0.symm.trans hx180_0)
                      injection hv180_0 with hva_ hvn_ hvc_
                      rw [hva_] at ge180_0
                      rw [hvc_] at ul180_0
                      have HL180_0 := Aside0.mk (show Kd.V (Kd.int .i64) 3 _ w.heap.size _ _ (rd_L5 x5_2 x40_3) from Kd.V_mk ul180_0 ge180_0)
                      clear hva_ hvn_ hvc_ ge180_0 ul180_0
                      clear hcc180 hce180
                      have HR180_0 := Aside0.mk hi180_0
                      have HC180_0 := Aside0.mk hl180_0
                      clear hi180_0 hl180_0
                      replace p180 := eq_true p180
                      replace q180 := eq_true q180
                      have p181 : 0 ≤ ((ji28) : Int) := lD
                      have q181 : (ji28) < ((rd_L5 x5_2 x40_3).length : Int) := lD
                      obtain ⟨ad181, e181, hx181_0⟩ := Kd.at_int (by repeat (first | (with_reducible exact HR180_0.out) | (with_reducible refine Kd.C_alloc ?_ _) | (with_reducible refine Kd.C_drewN ?_ _) | (with_reducible refine Kd.C_drew ?_) | exact HR180_0.out)) (ji28) p181 q181
                      cases e181
                      replace p181 := eq_true p181
                      replace q181 := eq_true q181
                      obtain ⟨hcz38_0, hfz38_0, hcz38_1, hfz38_1, hcz38_2, hfz38_2⟩ := bk3 BK179.out
                      have p183 : 0 ≤ (0 : Int) := (by omega)
                      have q183 : 0 < ((rd_L5 x5_2 x40_3).length : Int) := lD
                      obtain ⟨ad183, e183, hx183_0⟩ := Kd.at_int (by repeat (first | (with_reducible exact HR180_0.out) | (with_reducible refine Kd.C_alloc ?_ _) | (with_reducible refine Kd.C_drewN ?_ _) | (with_reducible refine Kd.C_drew ?_) | exact HR180_0.out)) 0 p183 q183
                      obtain rfl : ad181 = ad183 := (by injection e183)
                      have qi183 : (0 < (rd_L5 x5_2 x40_3).length) = True := eq_true (by omega)
                      (try rw [show ((0 : Int)).toNat = 0 from rfl] at hx183_0)
                      (try rw [Addr.add_zero'] at hx183_0)
                      replace p183 := eq_true p183
                      replace q183 := eq_true q183
                      go_wp2
                      repeat (go_quiet (fail); try go_wp2)
                      go_roundg k3
                      case measure => have := HK1.out; have := HK2.out; have := HK3.out; omega
                      case rel => exact ⟨(x9_3), (x40_3), (wrap64 (x40_3 + 1)), lF, lF, lF, H', ⟨by have := HK1.out; have := HK2.out; have := HK3.out; omega⟩, ⟨by (try simp only [hl5_1]); (try simp only [hl5_2]); (with_reducible repeat (first | apply Kd.N_alloc | apply Kd.N_drewN | apply Kd.N_drew)); exact HO_5.out⟩, ⟨by (try simp only [hl5_1]); (try simp only [hl5_2]); (with_reducible repeat (first | apply Kd.R_alloc | apply Kd.R_drewN | apply Kd.R_drew)); exact HO_32.out⟩, ⟨by (try simp only [hl5_1]); (try simp only [hl5_2]); (with_reducible repeat (first | apply Kd.N_alloc | apply Kd.N_drewN | apply Kd.N_drew)); exact HO_38.out⟩, ⟨by (try simp only [hl5_1]); (try simp only [hl5_2]); (with_reducible repeat first | apply bN | apply bD | apply bA); exact BK179.out⟩, ⟨lB⟩⟩
                     ·rw [if_neg c37] at H
                      have c37b0 : ((rd (rd_L5 x5_2 x40_3) 0) == ((rd_T48 t175 x34_2).f1)) = false := beq_eq_false_iff_ne.mpr c37
                      have c37b1 : ((rd (rd_L5 x5_2 x40_3) 0) != ((rd_T48 t175 x34_2).f1)) = true := bne_iff_ne.mpr c37
                      have H' := Aside0.mk H
                      clear H
                      have p180 : 0 ≤ (x40_3 : Int) := lD
                      have q180 : x40_3 < (x5_2.length : Int) := lD
                      obtain ⟨ad180, A180_0, c180_0, e180, hx180_0, hl180_0, hi180_0⟩ := at_L5 (Kd.N_reads' HO_38.out).2.2 x40_3 p180 q180
                      cases e180
                      obtain ⟨ce180, hce180, hMe180, hcc180⟩ := Kd.N_get HO_38.out [] x40_3 p180 (by first | exact q180 | exact lD | (have e_ := (Kd.N_reads' HO_38.out).1; omega))
                      obtain ⟨ua180_0, uc180_0, rfl, ul180_0, ge180_0⟩ := Kd.FK_slice_open hMe180
                      have hv180_0 := hcc180 0 _ rfl
                      rw [Nat.add_zero, show ((Kd.slice 3 (Kd.int .i64))).sz = 1 from rfl, Nat.mul_one] at hv180_0
                      replace hv180_0 := Option.some.inj (hv180_0.symm.trans hx180_0)
                      injection hv180_0 with hva_ hvn_ hvc_
                      rw [hva_] at ge180_0
                      rw [hvc_] at ul180_0
                      have HL180_0 := Aside0.mk (show Kd.V (Kd.int .i64) 3 _ w.heap.size _ _ (rd_L5 x5_2 x40_3) from Kd.V_mk ul180_0 ge180_0)
                      clear hva_ hvn_ hvc_ ge180_0 ul180_0
                      clear hcc180 hce180
                      have HR180_0 := Aside0.mk hi180_0
                      have HC180_0 := Aside0.mk hl180_0
                      clear hi180_0 hl180_0
                      replace p180 := eq_true p180
                      replace q180 := eq_true q180
                      have p181 : 0 ≤ ((ji28) : Int) := lD
                      have q181 : (ji28) < ((rd_L5 x5_2 x40_3).length : Int) := lD
                      obtain ⟨ad181, e181, hx181_0⟩ := Kd.at_int (by repeat (first | (with_reducible exact HR180_0.out) | (with_reducible refine Kd.C_alloc ?_ _) | (with_reducible refine Kd.C_drewN ?_ _) | (with_reducible refine Kd.C_drew ?_) | exact HR180_0.out)) (ji28) p181 q181
                      cases e181
                      replace p181 := eq_true p181
                      replace q181 := eq_true q181
                      obtain ⟨hcz39_0, hfz39_0, hcz39_1, hfz39_1, hcz39_2, hfz39_2⟩ := bk3 BK179.out
                      have p183 : 0 ≤ (0 : Int) := (by omega)
                      have q183 : 0 < ((rd_L5 x5_2 x40_3).length : Int) := lD
                      obtain ⟨ad183, e183, hx183_0⟩ := Kd.at_int (by repeat (first | (with_reducible exact HR180_0.out) | (with_reducible refine Kd.C_alloc ?_ _) | (with_reducible refine Kd.C_drewN ?_ _) | (with_reducible refine Kd.C_drew ?_) | exact HR180_0.out)) 0 p183 q183
                      obtain rfl : ad181 = ad183 := (by injection e183)
                      have qi183 : (0 < (rd_L5 x5_2 x40_3).length) = True := eq_true (by omega)
                      (try rw [show ((0 : Int)).toNat = 0 from rfl] at hx183_0)
                      (try rw [Addr.add_zero'] at hx183_0)
                      replace p183 := eq_true p183
                      replace q183 := eq_true q183
                      go_wp2
                      repeat (go_quiet (fail); try go_wp2)
                      go_roundg k3
                      case measure => have := HK1.out; have := HK2.out; have := HK3.out; omega
                      case rel => exact ⟨(x9_3), (x10_3), (wrap64 (x40_3 + 1)), lF, lF, lF, H', ⟨by have := HK1.out; have := HK2.out; have := HK3.out; omega⟩, ⟨by (try simp only [hl5_1]); (try simp only [hl5_2]); (with_reducible repeat (first | apply Kd.N_alloc | apply Kd.N_drewN | apply Kd.N_drew)); exact HO_5.out⟩, ⟨by (try simp only [hl5_1]); (try simp only [hl5_2]); (with_reducible repeat (first | apply Kd.R_alloc | apply Kd.R_drewN | apply Kd.R_drew)); exact HO_32.out⟩, ⟨by (try simp only [hl5_1]); (try simp only [hl5_2]); (with_reducible repeat (first | apply Kd.N_alloc | apply Kd.N_drewN | apply Kd.N_drew)); exact HO_38.out⟩, ⟨by (try simp only [hl5_1]); (try simp only [hl5_2]); (with_reducible repeat first | apply bN | apply bD | apply bA); exact BK179.out⟩, ⟨lB⟩⟩
                    ·rw [if_neg c36] at H
                     exact absurd H (by simp)
                  ·rw [if_neg c30] at H
                   exact absurd H (by simp)
                 ·rw [if_neg c29] at H
                  exact absurd H (by simp)
                ·rw [if_neg c27] at H
                 have c27b0 : decide (0 < ((rd_L5 x5_2 x40_3).length : Int)) = false := decide_eq_false c27
                 (try simp only [hl5_1, hl5_2] at c27b0)
                 have c27b1 : decide (0 < (rd_L5 x5_2 x40_3).length) = false := decide_eq_false (by omega)
                 (try simp only [hl5_1, hl5_2] at c27b1)
                 clear c27
                 have H' := Aside0.mk H
                 clear H
                 have p180 : 0 ≤ (x40_3 : Int) := lD
                 have q180 : x40_3 < (x5_2.length : Int) := lD
                 obtain ⟨ad180, A180_0, c180_0, e180, hx180_0, hl180_0, hi180_0⟩ := at_L5 (Kd.N_reads' HO_38.out).2.2 x40_3 p180 q180
                 cases e180
                 obtain ⟨ce180, hce180, hMe180, hcc180⟩ := Kd.N_get HO_38.out [] x40_3 p180 (by first | exact q180 | exact lD | (have e_ := (Kd.N_reads' HO_38.out).1; omega))
                 obtain ⟨ua180_0, uc180_0, rfl, ul180_0, ge180_0⟩ := Kd.FK_slice_open hMe180
                 have hv180_0 := hcc180 0 _ rfl
                 rw [Nat.add_zero, show ((Kd.slice 3 (Kd.int .i64))).sz = 1 from rfl, Nat.mul_one] at hv180_0
                 replace hv180_0 := Option.some.inj (hv180_0.symm.trans hx180_0)
                 injection hv180_0 with hva_ hvn_ hvc_
                 rw [hva_] at ge180_0
                 rw [hvc_] at ul180_0
                 have HL180_0 := Aside0.mk (show Kd.V (Kd.int .i64) 3 _ w.heap.size _ _ (rd_L5 x5_2 x40_3) from Kd.V_mk ul180_0 ge180_0)
                 clear hva_ hvn_ hvc_ ge180_0 ul180_0
                 clear hcc180 hce180
                 have HR180_0 := Aside0.mk hi180_0
                 have HC180_0 := Aside0.mk hl180_0
                 clear hi180_0 hl180_0
                 replace p180 := eq_true p180
                 replace q180 := eq_true q180
                 go_wp2
                 repeat (go_quiet (fail); try go_wp2)
                 go_roundg k3
                 case measure => have := HK1.out; have := HK2.out; have := HK3.out; omega
                 case rel => exact ⟨(x9_3), (x10_3), (wrap64 (x40_3 + 1)), lF, lF, lF, H', ⟨by have := HK1.out; have := HK2.out; have := HK3.out; omega⟩, ⟨by (try simp only [hl5_1]); (try simp only [hl5_2]); (with_reducible repeat (first | apply Kd.N_alloc | apply Kd.N_drewN | apply Kd.N_drew)); exact HO_5.out⟩, ⟨by (try simp only [hl5_1]); (try simp only [hl5_2]); (with_reducible repeat (first | apply Kd.R_alloc | apply Kd.R_drewN | apply Kd.R_drew)); exact HO_32.out⟩, ⟨by (try simp only [hl5_1]); (try simp only [hl5_2]); (with_reducible repeat (first | apply Kd.N_alloc | apply Kd.N_drewN | apply Kd.N_drew)); exact HO_38.out⟩, ⟨by (try simp only [hl5_1]); (try simp only [hl5_2]); (with_reducible repeat first | apply bN | apply bD | apply bA); exact BK179.out⟩, ⟨lB⟩⟩
               ·rw [if_neg c26] at H
                exact absurd H (by simp)
              ·rw [if_neg c25] at H
               exact absurd H (by simp)
             ·rw [if_neg c24] at H
              have c24b0 : decide (x40_3 < (x5_2.length : Int)) = false := decide_eq_false c24
              (try simp only [hl5_1, hl5_2] at c24b0)
              clear c24
              by_cases c40 : ((rd_T48 t175 x34_2).f1) = 0
              ·rw [if_pos c40] at H
               have c40b0 : (((rd_T48 t175 x34_2).f1) == 0) = true := beq_iff_eq.mpr c40
               have c40b1 : (((rd_T48 t175 x34_2).f1) != 0) = false := bne_eq_false_iff_eq.mpr c40
               clear c40
               have H' := Aside0.mk H
               clear H
               obtain ⟨hcz41_0, hfz41_0, hcz41_1, hfz41_1, hcz41_2, hfz41_2⟩ := bk3 BK179.out
               go_wp2
               repeat (go_quiet (fail); try go_wp2)
               (try simp only [← hl5_2])
               go_roundg k3
               case measure => have := HK1.out; have := HK2.out; have := HK3.out; omega
               case rel => exact ⟨(x5_2), (wrap64 (x34_2 + 1)), lF, H', ⟨by have := HK1.out; have := HK2.out; have := HK3.out; omega⟩, ⟨by (try simp only [hl5_1]); (try simp only [hl5_2]); (with_reducible repeat (first | apply Kd.N_alloc | apply Kd.N_drewN | apply Kd.N_drew)); exact Kd.N_mono HO_5.out (fun _ hk => ⟨hk.1, hk.2.1⟩)⟩, ⟨by (try simp only [hl5_1]); (try simp only [hl5_2]); (with_reducible repeat (first | apply Kd.R_alloc | apply Kd.R_drewN | apply Kd.R_drew)); exact Kd.R_mono HO_32.out (fun _ hk => hk.1)⟩, ⟨lB⟩⟩
              ·rw [if_neg c40] at H
               have c40b0 : (((rd_T48 t175 x34_2).f1) == 0) = false := beq_eq_false_iff_ne.mpr c40
               have c40b1 : (((rd_T48 t175 x34_2).f1) != 0) = true := bne_iff_ne.mpr c40
               by_cases c42 : x9_3 < 0
               ·rw [if_pos c42] at H
                have c42b0 : decide (x9_3 < 0) = true := decide_eq_true c42
                clear c42
                have H' := Aside0.mk H
                clear H
                obtain ⟨hcz43_0, hfz43_0, hcz43_1, hfz43_1, hcz43_2, hfz43_2⟩ := bk3 BK179.out
                go_wp2
                repeat (go_quiet (fail); try go_wp2)
                (try simp only [← hl5_2])
                go_roundg k3
                case measure => have := HK1.out; have := HK2.out; have := HK3.out; omega
                case rel => exact ⟨(x5_2), (wrap64 (x34_2 + 1)), lF, H', ⟨by have := HK1.out; have := HK2.out; have := HK3.out; omega⟩, ⟨by (try simp only [hl5_1]); (try simp only [hl5_2]); (with_reducible repeat (first | apply Kd.N_alloc | apply Kd.N_drewN | apply Kd.N_drew)); exact Kd.N_mono HO_5.out (fun _ hk => ⟨hk.1, hk.2.1⟩)⟩, ⟨by (try simp only [hl5_1]); (try simp only [hl5_2]); (with_reducible repeat (first | apply Kd.R_alloc | apply Kd.R_drewN | apply Kd.R_drew)); exact Kd.R_mono HO_32.out (fun _ hk => hk.1)⟩, ⟨lB⟩⟩
               ·rw [if_neg c42] at H
                have c42b0 : decide (x9_3 < 0) = false := decide_eq_false c42
                clear c42
                by_cases c44 : x10_3 < 0
                ·rw [if_pos c44] at H
                 have c44b0 : decide (x10_3 < 0) = true := decide_eq_true c44
                 clear c44
                 have H' := Aside0.mk H
                 clear H
                 obtain ⟨hcz45_0, hfz45_0, hcz45_1, hfz45_1, hcz45_2, hfz45_2⟩ := bk3 BK179.out
                 go_wp2
                 repeat (go_quiet (fail); try go_wp2)
                 (try simp only [← hl5_2])
                 go_roundg k3
                 case measure => have := HK1.out; have := HK2.out; have := HK3.out; omega
                 case rel => exact ⟨(x5_2), (wrap64 (x34_2 + 1)), lF, H', ⟨by have := HK1.out; have := HK2.out; have := HK3.out; omega⟩, ⟨by (try simp only [hl5_1]); (try simp only [hl5_2]); (with_reducible repeat (first | apply Kd.N_alloc | apply Kd.N_drewN | apply Kd.N_drew)); exact Kd.N_mono HO_5.out (fun _ hk => ⟨hk.1, hk.2.1⟩)⟩, ⟨by (try simp only [hl5_1]); (try simp only [hl5_2]); (with_reducible repeat (first | apply Kd.R_alloc | apply Kd.R_drewN | apply Kd.R_drew)); exact Kd.R_mono HO_32.out (fun _ hk => hk.1)⟩, ⟨lB⟩⟩
                ·rw [if_neg c44] at H
                 have c44b0 : decide (x10_3 < 0) = false := decide_eq_false c44
                 clear c44
                 by_cases c46 : x9_3 = x10_3
                 ·rw [if_pos c46] at H
                  have c46b0 : (x9_3 == x10_3) = true := beq_iff_eq.mpr c46
                  have c46b1 : (x9_3 != x10_3) = false := bne_eq_false_iff_eq.mpr c46
                  clear c46
                  have H' := Aside0.mk H
                  clear H
                  obtain ⟨hcz47_0, hfz47_0, hcz47_1, hfz47_1, hcz47_2, hfz47_2⟩ := bk3 BK179.out
                  go_wp2
                  repeat (go_quiet (fail); try go_wp2)
                  (try simp only [← hl5_2])
                  go_roundg k3
                  case measure => have := HK1.out; have := HK2.out; have := HK3.out; omega
                  case rel => exact ⟨(x5_2), (wrap64 (x34_2 + 1)), lF, H', ⟨by have := HK1.out; have := HK2.out; have := HK3.out; omega⟩, ⟨by (try simp only [hl5_1]); (try simp only [hl5_2]); (with_reducible repeat (first | apply Kd.N_alloc | apply Kd.N_drewN | apply Kd.N_drew)); exact Kd.N_mono HO_5.out (fun _ hk => ⟨hk.1, hk.2.1⟩)⟩, ⟨by (try simp only [hl5_1]); (try simp only [hl5_2]); (with_reducible repeat (first | apply Kd.R_alloc | apply Kd.R_drewN | apply Kd.R_drew)); exact Kd.R_mono HO_32.out (fun _ hk => hk.1)⟩, ⟨lB⟩⟩
                 ·rw [if_neg c46] at H
                  have c46b0 : (x9_3 == x10_3) = false := beq_eq_false_iff_ne.mpr c46
                  have c46b1 : (x9_3 != x10_3) = true := bne_iff_ne.mpr c46
                  by_cases c48 : 0 ≤ x10_3
                  ·rw [if_pos c48] at H
                   have c48b0 : decide (0 ≤ x10_3) = true := decide_eq_true c48
                   clear c48
                   by_cases c49 : x10_3 < (x5_2.length : Int)
                   ·rw [if_pos c49] at H
                    have c49b0 : decide (x10_3 < (x5_2.length : Int)) = true := decide_eq_true c49
                    (try simp only [hl5_1, hl5_2] at c49b0)
                    clear c49
                    obtain ⟨y185, hy185⟩ : ∃ y_ : List Int, y_ = (([] : List Int)) := ⟨_, rfl⟩
                    replace H : (if 0 ≤ x9_3 then (if x9_3 < (x5_2.length : Int) then (if y185.length + (rd_L5 x5_2 x9_3).length < 17592186044416 then ((some (y185 ++ (rd_L5 x5_2 x9_3) : List Int)).bind fun y189 => (if y189.length + (rd_L5 x5_2 x10_3).length < 17592186044416 then (spec_l11Chains.l1 k3 a0 ((x5_2.set (x9_3 : Int).toNat (y189 ++ (rd_L5 x5_2 x10_3))).set (x10_3 : Int).toNat ([] : List Int)) t175 (t175.length : Int) (wrap64 (x34_2 + 1))) else (none))) else (none)) else (none)) else (none)) = some r := by first | (rw [hy185]; with_reducible exact H) | (have H2_ := (Option.bind_some _ _).symm.trans H; rw [hy185]; with_reducible exact H2_) | (have H2_ := (Option.bind_some _ _).symm.trans H; with_reducible exact H2_) | with_reducible exact H | (rw [hy185]; exact H) | exact H
                    have Ny185 := Aside0.mk hy185
                    clear hy185
                    by_cases c50 : 0 ≤ x9_3
                    ·rw [if_pos c50] at H
                     have c50b0 : decide (0 ≤ x9_3) = true := decide_eq_true c50
                     clear c50
                     by_cases c51 : x9_3 < (x5_2.length : Int)
                     ·rw [if_pos c51] at H
                      have c51b0 : decide (x9_3 < (x5_2.length : Int)) = true := decide_eq_true c51
                      (try simp only [hl5_1, hl5_2] at c51b0)
                      clear c51
                      by_cases c52 : y185.length + (rd_L5 x5_2 x9_3).length < 17592186044416
                      ·rw [if_pos c52] at H
                       have LMc52 := Aside0.mk c52
                       clear c52
                       obtain ⟨y189, hy189⟩ : ∃ y_ : List Int, y_ = (y185 ++ (rd_L5 x5_2 x9_3)) := ⟨_, rfl⟩
                       replace H : (if y189.length + (rd_L5 x5_2 x10_3).length < 17592186044416 then (spec_l11Chains.l1 k3 a0 ((x5_2.set (x9_3 : Int).toNat (y189 ++ (rd_L5 x5_2 x10_3))).set (x10_3 : Int).toNat ([] : List Int)) t175 (t175.length : Int) (wrap64 (x34_2 + 1))) else (none)) = some r := by first | (rw [hy189]; with_reducible exact H) | (have H2_ := (Option.bind_some _ _).symm.trans H; rw [hy189]; with_reducible exact H2_) | (have H2_ := (Option.bind_some _ _).symm.trans H; with_reducible exact H2_) | with_reducible exact H | (rw [hy189]; exact H) | exact H
                       have Ny189 := Aside0.mk hy189
                       clear hy189
                       by_cases c53 : y189.length + (rd_L5 x5_2 x10_3).length < 17592186044416
                       ·rw [if_pos c53] at H
                        have LMc53 := Aside0.mk c53
                        clear c53
                        obtain ⟨y192, hy192⟩ : ∃ y_ : List Int, y_ = (y189 ++ (rd_L5 x5_2 x10_3)) := ⟨_, rfl⟩
                        replace H : (spec_l11Chains.l1 k3 a0 ((x5_2.set (x9_3 : Int).toNat y192).set (x10_3 : Int).toNat ([] : List Int)) t175 (t175.length : Int) (wrap64 (x34_2 + 1))) = some r := by first | (rw [hy192]; with_reducible exact H) | (have H2_ := (Option.bind_some _ _).symm.trans H; rw [hy192]; with_reducible exact H2_) | (have H2_ := (Option.bind_some _ _).symm.trans H; with_reducible exact H2_) | with_reducible exact H | (rw [hy192]; exact H) | exact H
                        have Ny192 := Aside0.mk hy192
                        clear hy192
                        obtain ⟨y195, hy195⟩ : ∃ y_ : List (List Int), y_ = (x5_2.set (x9_3 : Int).toNat y192) := ⟨_, rfl⟩
                        replace H : (spec_l11Chains.l1 k3 a0 (y195.set (x10_3 : Int).toNat ([] : List Int)) t175 (t175.length : Int) (wrap64 (x34_2 + 1))) = some r := by first | (rw [hy195]; with_reducible exact H) | (have H2_ := (Option.bind_some _ _).symm.trans H; rw [hy195]; with_reducible exact H2_) | (have H2_ := (Option.bind_some _ _).symm.trans H; with_reducible exact H2_) | with_reducible exact H | (rw [hy195]; exact H) | exact H
                        have Ny195 := Aside0.mk hy195
                        clear hy195
                        obtain ⟨y196, hy196⟩ : ∃ y_ : List (List Int), y_ = (y195.set (x10_3 : Int).toNat ([] : List Int)) := ⟨_, rfl⟩
                        replace H : (spec_l11Chains.l1 k3 a0 y196 t175 (t175.length : Int) (wrap64 (x34_2 + 1))) = some r := by first | (rw [hy196]; with_reducible exact H) | (have H2_ := (Option.bind_some _ _).symm.trans H; rw [hy196]; with_reducible exact H2_) | (have H2_ := (Option.bind_some _ _).symm.trans H; with_reducible exact H2_) | with_reducible exact H | (rw [hy196]; exact H) | exact H
                        have Ny196 := Aside0.mk hy196
                        clear hy196
                        have H' := Aside0.mk H
                        clear H
                        obtain ⟨hcz56_0, hfz56_0, hcz56_1, hfz56_1, hcz56_2, hfz56_2⟩ := bk3 BK179.out
                        have p184 : 0 ≤ (x10_3 : Int) := lD
                        have q184 : x10_3 < (x5_2.length : Int) := lD
                        obtain ⟨ad184, A184_0, c184_0, e184, hx184_0, hl184_0, hi184_0⟩ := at_L5 (Kd.N_reads' HO_5.out).2.2 x10_3 p184 q184
                        cases e184
                        obtain ⟨ce184, hce184, hMe184, hcc184⟩ := Kd.N_get HO_5.out [] x10_3 p184 (by first | exact q184 | exact lD | (have e_ := (Kd.N_reads' HO_5.out).1; omega))
                        obtain ⟨ua184_0, uc184_0, rfl, ul184_0, ge184_0⟩ := Kd.FK_slice_open hMe184
                        have hv184_0 := hcc184 0 _ rfl
                        rw [Nat.add_zero, show ((Kd.slice 3 (Kd.int .i64))).sz = 1 from rfl, Nat.mul_one] at hv184_0
                        replace hv184_0 := Option.some.inj (hv184_0.symm.trans hx184_0)
                        injection hv184_0 with hva_ hvn_ hvc_
                        rw [hva_] at ge184_0
                        rw [hvc_] at ul184_0
                        have HL184_0 := Aside0.mk (show Kd.V (Kd.int .i64) 3 _ w.heap.size _ _ (rd_L5 x5_2 x10_3) from Kd.V_mk ul184_0 ge184_0)
                        clear hva_ hvn_ hvc_ ge184_0 ul184_0
                        clear hcc184 hce184
                        have HR184_0 := Aside0.mk hi184_0
                        have HC184_0 := Aside0.mk hl184_0
                        clear hi184_0 hl184_0
                        replace p184 := eq_true p184
                        replace q184 := eq_true q184
                        go_wp2_with (first | ((with_reducible refine gate_dst (N := 95) rfl ?_); (try (refine gate_guard (by rfl) ?_; dsimp only)); refine Kd.R_lit (Kd.int .i64) _ 3 ?hg (N := 95) ?hd (xs := ([] : List Int)) (inner := []) (ok := fun _ => True) (okp := fun _ => True) ?hr ?hp (fun _ hk => hk) trivial (Below.refl _ _) (Nat.le_refl _) (by simp) ?_; (case hd => rfl); (case hg => rfl); (case hr => first | (go_simp; done) | (go_simp; rfl)); (case hp => exact (Reps.none _ _)); intro v186 w57 ho58 hb hg_ hnew_; clear hg_ hnew_; (first | rw [← Ny185.out] at ho58 | (simp only [Int.reduceToNat] at ho58; rw [← Ny185.out] at ho58)); have n0_ := Aside0.mk (Kd.N_elder' (by (with_reducible repeat (first | apply Kd.N_alloc | apply Kd.N_drewN | apply Kd.N_drew)); exact HO_5.out) (Kd.R_base ho58) hb); have n1_ := Aside0.mk (Kd.R_below (lR HO_32.out) hb); have n2_ := Aside0.mk (Kd.N_elder' (by (with_reducible repeat (first | apply Kd.N_alloc | apply Kd.N_drewN | apply Kd.N_drew)); exact HO_38.out) (Kd.R_base ho58) hb); have n3_ := Aside0.mk (Kd.V_elder' (by (with_reducible repeat (first | apply Kd.V_alloc | apply Kd.V_drewN | apply Kd.V_drew)); exact HL184_0.out) (Kd.R_base ho58) hb); have n4_ := Aside0.mk (Kd.R_lower (Kd.R_newM (M := fun k_ => (w.heap.size ≤ k_)) ho58 (below_size lB) (fun k_ h_ => h_)) (below_size lB)); have n5_ := Aside0.mk (blk_below (lK BK179.out) hb); have n6_ := Aside0.mk (Kd.C_below (by repeat (first | (with_reducible exact HR184_0.out) | (with_reducible refine Kd.C_alloc ?_ _) | (with_reducible refine Kd.C_drewN ?_ _) | (with_reducible refine Kd.C_drew ?_) | exact HR184_0.out | exact (Kd.V_reads' HL184_0.out).2.2)) hb); have n7_ := Aside0.mk (below_step lB hb); clear HO_5; clear HO_32; clear HO_38; clear HL184_0; clear BK179; clear HR184_0; clear HB; have HO_5 := n0_; have HO_32 := n1_; have HO_38 := n2_; have HL184_0 := n3_; have HO187 := n4_; have BK179 := n5_; have HR184_0 := n6_; have HB := n7_; clear n0_ n1_ n2_ n3_ n4_ n5_ n6_ n7_; clear hb ho58; have p188 : 0 ≤ (x9_3 : Int) := lD; have q188 : x9_3 < (x5_2.length : Int) := lD; obtain ⟨ad188, A188_0, c188_0, e188, hx188_0, hl188_0, hi188_0⟩ := at_L5 (Kd.N_reads' HO_5.out).2.2 x9_3 p188 q188; obtain rfl : ad184 = ad188 := (by injection e188); obtain ⟨ce188, hce188, hMe188, hcc188⟩ := Kd.N_get HO_5.out [] x9_3 p188 (by first | exact q188 | exact lD | (have e_ := (Kd.N_reads' HO_5.out).1; omega)); obtain ⟨ua188_0, uc188_0, rfl, ul188_0, ge188_0⟩ := Kd.FK_slice_open hMe188; have hv188_0 := hcc188 0 _ rfl; rw [Nat.add_zero, show ((Kd.slice 3 (Kd.int .i64))).sz = 1 from rfl, Nat.mul_one] at hv188_0; replace hv188_0 := Option.some.inj (hv188_0.symm.trans hx188_0); injection hv188_0 with hva_ hvn_ hvc_; rw [hva_] at ge188_0; rw [hvc_] at ul188_0; have HL188_0 := Aside0.mk (show Kd.V (Kd.int .i64) 3 _ w.heap.size _ _ (rd_L5 x5_2 x9_3) from Kd.V_mk ul188_0 ge188_0); clear hva_ hvn_ hvc_ ge188_0 ul188_0; clear hcc188 hce188; have HR188_0 := Aside0.mk hi188_0; have HC188_0 := Aside0.mk hl188_0; clear hi188_0 hl188_0; replace p188 := eq_true p188; replace q188 := eq_true q188) | ((with_reducible refine gate_builtin (b := .append) (xs := #[.tmp 95, .tmp 99]) rfl ?_); (try (refine gate_guard (by rfl) ?_; dsimp only)); at_builtin; refine Kd.R_append_rows (Kd.int .i64) (w0 := w) w.heap.size rfl (.tmp 95) (.tmp 99) 34 3 (.int .i64 0) 8 rfl Try.underlying34 info3 rfl (by decide) (by omega) v186 y185 (rd_L5 x5_2 x9_3) _ _ _ (fun k_ => (w.heap.size ≤ k_)) (fun _ => False) rfl rfl ?aO ?aR (fun _ _ h => h) (fun _ h => h.elim) ?aF ?aB ?aS ?aL ?_; (case aR => repeat (first | exact (by repeat (first | (with_reducible exact HR188_0.out) | (with_reducible refine Kd.C_alloc ?_ _) | (with_reducible refine Kd.C_drewN ?_ _) | (with_reducible refine Kd.C_drew ?_) | exact HR188_0.out | exact (Kd.V_reads' HL188_0.out).2.2)) | (with_reducible refine Kd.C_alloc ?_ _) | (with_reducible refine Kd.C_drewN ?_ _) | (with_reducible refine Kd.C_drew ?_))); (case aB => exact lB); (case aF => exact (fun k_ hk => (Nat.le_trans (below_size lB) hk))); (case aO => exact (by (with_reducible repeat (first | apply Kd.R_alloc | apply Kd.R_drewN | apply Kd.R_drew)); exact Kd.R_mono HO187.out (fun _ hk => hk.1))); (case aS => exact (below_size lB)); (case aL => have := LMc52.out; omega); intro v190 w59 ho hb hg hat; rw [← Ny189.out] at ho; have n0_ := Aside0.mk (Kd.N_afterv (ok := (fun k_ => (w.heap.size ≤ k_) ∧ some k_ ≠ (.slice (some ad178) t175.length co18 : Value).ownBlock ∧ k_ ≠ gb179)) (by (with_reducible repeat (first | apply Kd.N_alloc | apply Kd.N_drewN | apply Kd.N_drew)); exact HO_5.out) hg hat); have n1_ := Aside0.mk (Kd.R_over' (lR HO_32.out) (Kd.R_typed (lR HO187.out)) (by decide) hg); have n2_ := Aside0.mk (Kd.N_afterv (ok := (fun k_ => (w.heap.size ≤ k_) ∧ some k_ ≠ (.slice (some ad178) t175.length co18 : Value).ownBlock ∧ k_ ≠ gb179)) (by (with_reducible repeat (first | apply Kd.N_alloc | apply Kd.N_drewN | apply Kd.N_drew)); exact HO_38.out) hg hat); have n3_ := Aside0.mk (blk_grown (lK BK179.out) hg (Kd.R_ne HO187.out BK179.out (by decide))); have n4_ := Aside0.mk (Kd.V_afterv (ok := (fun k_ => (w.heap.size ≤ k_) ∧ some k_ ≠ (.slice (some ad184) x5_2.length co7 : Value).ownBlock ∧ some k_ ≠ (.slice (some ad178) t175.length co18 : Value).ownBlock ∧ k_ ≠ gb179)) (by (with_reducible repeat (first | apply Kd.V_alloc | apply Kd.V_drewN | apply Kd.V_drew)); exact Kd.V_mono HL184_0.out (fun _ hk => ⟨⟨hk.1.1.1, ⟨hk.1.2, ⟨hk.1.1.2.1, hk.1.1.2.2⟩⟩⟩, hk.2⟩)) hg hat); have n5_ := Aside0.mk (Kd.V_afterv (ok := (fun k_ => (w.heap.size ≤ k_) ∧ some k_ ≠ (.slice (some ad184) x5_2.length co7 : Value).ownBlock ∧ some k_ ≠ (.slice (some ad178) t175.length co18 : Value).ownBlock ∧ k_ ≠ gb179)) (by (with_reducible repeat (first | apply Kd.V_alloc | apply Kd.V_drewN | apply Kd.V_drew)); exact Kd.V_mono HL188_0.out (fun _ hk => ⟨⟨hk.1.1.1, ⟨hk.2, ⟨hk.1.1.2.1, hk.1.1.2.2⟩⟩⟩, hk.1.2⟩)) hg hat); have n6_ := Aside0.mk (hb); have n7_ := Aside0.mk (ho); clear HO_5; clear HO_32; clear HO_38; clear BK179; clear HL184_0; clear HL188_0; clear HB; clear HO187; have HO_5 := n0_; have HO_32 := n1_; have HO_38 := n2_; have BK179 := n3_; have HL184_0 := n4_; have HL188_0 := n5_; have HB := n6_; have HO191 := n7_; clear n0_ n1_ n2_ n3_ n4_ n5_ n6_ n7_; clear ho hb hg hat) | ((with_reducible refine gate_builtin (b := .append) (xs := #[.tmp 100, .tmp 101]) rfl ?_); (try (refine gate_guard (by rfl) ?_; dsimp only)); at_builtin; refine Kd.R_append_rows (Kd.int .i64) (w0 := w) w.heap.size rfl (.tmp 100) (.tmp 101) 34 3 (.int .i64 0) 8 rfl Try.underlying34 info3 rfl (by decide) (by omega) v190 y189 (rd_L5 x5_2 x10_3) _ _ _ (fun k_ => (w.heap.size ≤ k_)) (fun _ => False) rfl rfl ?aO ?aR (fun _ _ h => h) (fun _ h => h.elim) ?aF ?aB ?aS ?aL ?_; (case aR => repeat (first | exact ((Kd.V_reads' (by (with_reducible repeat (first | apply Kd.V_alloc | apply Kd.V_drewN | apply Kd.V_drew)); exact HL184_0.out)).2.2) | (with_reducible refine Kd.C_alloc ?_ _) | (with_reducible refine Kd.C_drewN ?_ _) | (with_reducible refine Kd.C_drew ?_))); (case aB => exact lB); (case aF => exact (fun k_ hk => (Nat.le_trans (below_size lB) hk))); (case aO => exact (lR HO191.out)); (case aS => exact (below_size lB)); (case aL => have := LMc53.out; omega); intro v193 w60 ho hb hg hat; rw [← Ny192.out] at ho; have n0_ := Aside0.mk (Kd.N_afterv (ok := (fun k_ => (w.heap.size ≤ k_) ∧ some k_ ≠ (.slice (some ad178) t175.length co18 : Value).ownBlock ∧ k_ ≠ gb179)) (by (with_reducible repeat (first | apply Kd.N_alloc | apply Kd.N_drewN | apply Kd.N_drew)); exact HO_5.out) hg hat); have n1_ := Aside0.mk (Kd.R_over' (lR HO_32.out) (Kd.R_typed (lR HO191.out)) (by decide) hg); have n2_ := Aside0.mk (Kd.N_afterv (ok := (fun k_ => (w.heap.size ≤ k_) ∧ some k_ ≠ (.slice (some ad178) t175.length co18 : Value).ownBlock ∧ k_ ≠ gb179)) (by (with_reducible repeat (first | apply Kd.N_alloc | apply Kd.N_drewN | apply Kd.N_drew)); exact HO_38.out) hg hat); have n3_ := Aside0.mk (blk_grown (lK BK179.out) hg (Kd.R_ne HO191.out BK179.out (by decide))); have n4_ := Aside0.mk (Kd.V_afterv (ok := (fun k_ => (w.heap.size ≤ k_) ∧ some k_ ≠ (.slice (some ad184) x5_2.length co7 : Value).ownBlock ∧ some k_ ≠ (.slice (some ad178) t175.length co18 : Value).ownBlock ∧ k_ ≠ gb179)) (by (with_reducible repeat (first | apply Kd.V_alloc | apply Kd.V_drewN | apply Kd.V_drew)); exact HL184_0.out) hg hat); have n5_ := Aside0.mk (Kd.V_afterv (ok := (fun k_ => (w.heap.size ≤ k_) ∧ some k_ ≠ (.slice (some ad184) x5_2.length co7 : Value).ownBlock ∧ some k_ ≠ (.slice (some ad178) t175.length co18 : Value).ownBlock ∧ k_ ≠ gb179)) (by (with_reducible repeat (first | apply Kd.V_alloc | apply Kd.V_drewN | apply Kd.V_drew)); exact HL188_0.out) hg hat); have n6_ := Aside0.mk (hb); have n7_ := Aside0.mk (ho); clear HO_5; clear HO_32; clear HO_38; clear BK179; clear HL184_0; clear HL188_0; clear HB; clear HO191; have HO_5 := n0_; have HO_32 := n1_; have HO_38 := n2_; have BK179 := n3_; have HL184_0 := n4_; have HL188_0 := n5_; have HB := n6_; have HO194 := n7_; clear n0_ n1_ n2_ n3_ n4_ n5_ n6_ n7_; clear ho hb hg hat; have p54 : 0 ≤ (x9_3 : Int) := lD; have q54 : (x9_3 : Int) < ((x5_2.length : Int) : Int) := lD; obtain ⟨go54, co54, eo54, gb54, gl54, cl54, HG54⟩ := Kd.N_form HO_5.out (by omega); (first | cases eo54 | (injection eo54 with ea_ en_ ec_; (first | subst ea_ | (injection ea_ with ea_; subst ea_)); subst ec_; clear en_)); have GB54 := Aside0.mk gb54; have GG54 := Aside0.mk HG54; clear gb54 gl54 HG54; (first | simp only [add_plain] at hx184_0 | skip); (first | simp only [add_plain] at hx188_0 | skip); obtain ⟨ce54, hcl54, hM54, hcc54, hfr54⟩ := Kd.N_elem HO_5.out [] (x9_3 : Int) p54 q54; obtain ⟨ua54_0, uc54_0, rfl, ul54_0, ge54_0⟩ := Kd.FK_slice_open hM54; have hx54_0 := hcc54 0 _ rfl; have hf54_0 := hfr54 0; (try simp only [show ((Kd.slice 3 (Kd.int .i64))).sz = 1 from rfl, Nat.mul_one, Nat.add_zero] at hx54_0); (try simp only [show ((Kd.slice 3 (Kd.int .i64))).sz = 1 from rfl, Nat.mul_one, Nat.add_zero] at hf54_0); clear hcl54 hcc54 hfr54; (try clear hM54); replace p54 := eq_true p54; replace q54 := eq_true q54; have n_ := Aside0.mk (Kd.N_mono (ok' := (fun k_ => (w.heap.size ≤ k_) ∧ some k_ ≠ (.slice (some ad178) t175.length co18 : Value).ownBlock ∧ some k_ ≠ (v193 : Value).ownBlock ∧ k_ ≠ gb179)) HO_5.out (fun k_ hk => ⟨hk.1.1, ⟨hk.1.2.1, ⟨hk.2, hk.1.2.2⟩⟩⟩)); clear HO_5; have HO_5 := n_; clear n_; have HX61 := Aside0.mk (show Kd.N (Kd.slice 3 (Kd.int .i64)) 34 w60 w.heap.size (fun k_ => (w.heap.size ≤ k_) ∧ some k_ ≠ (.slice (some ad178) t175.length co18 : Value).ownBlock ∧ k_ ≠ gb179) (.slice (some ⟨go54, 0, none⟩) x5_2.length co7) x5_2 from (by (with_reducible repeat (first | apply Kd.N_alloc | apply Kd.N_drewN | apply Kd.N_drew)); exact Kd.N_mono HO_5.out (fun _ hk => ⟨hk.1, ⟨hk.2.1, hk.2.2.2⟩⟩))); obtain ⟨ce61, hcl61, hM61, hcc61, hfr61⟩ := Kd.N_elem HX61.out [] (x9_3 : Int) (lD) (by have h_ : (x9_3 : Int) < ((x5_2.length : Int) : Int) := lD; first | exact h_ | (have e_ := (Kd.N_reads' HO_5.out).1; omega) | simpa using h_); obtain ⟨ua61_0, uc61_0, rfl, ul61_0, ge61_0⟩ := Kd.FK_slice_open hM61; obtain ⟨As193, cs193, es193⟩ := Kd.R_slice HO194.out; subst es193; have HP61 := Kd.N_seg HX61.out (x9_3 : Int) (lD) (by have h_ : (x9_3 : Int) < ((x5_2.length : Int) : Int) := lD; first | exact h_ | (have e_ := (Kd.N_reads' HO_5.out).1; omega) | simpa using h_) (seg := [(.slice As193 y192.length cs193)]) (j := 0) hcl61 hcc61 (show 1 ≤ 1 from by decide) (x' := y192) (Kd.FK_slice_mk (Kd.R_reads' (Kd.R_mono (ok' := (fun k_ => ((fun k_ => (w.heap.size ≤ k_) ∧ some k_ ≠ (.slice (some ad178) t175.length co18 : Value).ownBlock ∧ k_ ≠ gb179)) k_ ∧ k_ ≠ go54)) (Kd.R_types (Kd.R_apart' (Kd.R_apart' (HO194.out) (Kd.R_typed HO_32.out) (by decide)) (Kd.N_typed HO_5.out) (by decide)) BK179.out (by decide)) (fun k_ hk => ⟨⟨hk.1.1.1, ⟨hk.1.1.2, hk.2⟩⟩, fun e_ => (hk.1.2) (by rw [e_]; rfl)⟩))).2.1 (Kd.R_F (Kd.R_mono (ok' := (fun k_ => ((fun k_ => (w.heap.size ≤ k_) ∧ some k_ ≠ (.slice (some ad178) t175.length co18 : Value).ownBlock ∧ k_ ≠ gb179)) k_ ∧ k_ ≠ go54)) (Kd.R_types (Kd.R_apart' (Kd.R_apart' (HO194.out) (Kd.R_typed HO_32.out) (by decide)) (Kd.N_typed HO_5.out) (by decide)) BK179.out (by decide)) (fun k_ hk => ⟨⟨hk.1.1.1, ⟨hk.1.1.2, hk.2⟩⟩, fun e_ => (hk.1.2) (by rw [e_]; rfl)⟩)))) (fun _ hk => hk); have hx61_0 := hcc61 0 _ rfl; (try simp only [show ((Kd.slice 3 (Kd.int .i64))).sz = 1 from rfl, Nat.mul_one, Nat.add_zero] at hx61_0); have hf61_0 := hfr61 0; (try simp only [show ((Kd.slice 3 (Kd.int .i64))).sz = 1 from rfl, Nat.mul_one, Nat.add_zero] at hf61_0); clear hcl61 hcc61 hfr61; (try clear hM61); (try simp only [show ((Kd.slice 3 (Kd.int .i64))).sz = 1 from rfl, Nat.mul_one, Nat.add_zero] at HP61); (try simp only [show ((Kd.slice 3 (Kd.int .i64))).sz = 1 from rfl, Nat.mul_one, Nat.add_zero] at HP61)) | ((with_reducible refine gate_store (t := 34) (p := 103) rfl ?_); (try (rw [drewN_self w60]; generalize hq_ : World.drewN w60 _ = w60; have n0_ := Aside0.mk (Kd.N_at hq_ HO_5.out); have n1_ := Aside0.mk (Kd.R_at hq_ HO_32.out); have n2_ := Aside0.mk (Kd.V_at hq_ HL184_0.out); have n3_ := Aside0.mk (Kd.V_at hq_ HL188_0.out); have n4_ := Aside0.mk (blk_at hq_ BK179.out); have n5_ := Aside0.mk (below_at hq_ HB.out); clear hq_ HO_5 HO_32 HL184_0 HL188_0 BK179 HB; have HO_5 := n0_; have HO_32 := n1_; have HL184_0 := n2_; have HL188_0 := n3_; have BK179 := n4_; have HB := n5_; clear n0_ n1_ n2_ n3_ n4_ n5_; (try (have n_ := Aside0.mk (Kd.N_mono (ok' := (fun k_ => (w.heap.size ≤ k_) ∧ some k_ ≠ (.slice (some ad178) t175.length co18 : Value).ownBlock ∧ some k_ ≠ ((.slice As193 y192.length cs193) : Value).ownBlock ∧ k_ ≠ gb179)) HO_5.out (fun k_ hk => ⟨hk.1.1, ⟨hk.1.2.1, ⟨hk.2, hk.1.2.2⟩⟩⟩)); clear HO_5; have HO_5 := n_; clear n_)); (try (have HX61 := Aside0.mk (show Kd.N (Kd.slice 3 (Kd.int .i64)) 34 w60 w.heap.size (fun k_ => (w.heap.size ≤ k_) ∧ some k_ ≠ (.slice (some ad178) t175.length co18 : Value).ownBlock ∧ k_ ≠ gb179) (.slice (some ⟨go54, 0, none⟩) x5_2.length co7) x5_2 from (by (with_reducible repeat (first | apply Kd.N_alloc | apply Kd.N_drewN | apply Kd.N_drew)); exact Kd.N_mono HO_5.out (fun _ hk => ⟨hk.1, ⟨hk.2.1, hk.2.2.2⟩⟩))))); (try (obtain ⟨ce61, hcl61, hM61, hcc61, hfr61⟩ := Kd.N_elem HX61.out [] (x9_3 : Int) (lD) (by have h_ : (x9_3 : Int) < ((x5_2.length : Int) : Int) := lD; first | exact h_ | (have e_ := (Kd.N_reads' HO_5.out).1; omega) | simpa using h_))); (try (obtain ⟨ua61_0, uc61_0, rfl, ul61_0, ge61_0⟩ := Kd.FK_slice_open hM61)); (try (have HP61 := Kd.N_seg HX61.out (x9_3 : Int) (lD) (by have h_ : (x9_3 : Int) < ((x5_2.length : Int) : Int) := lD; first | exact h_ | (have e_ := (Kd.N_reads' HO_5.out).1; omega) | simpa using h_) (seg := [(.slice As193 y192.length cs193)]) (j := 0) hcl61 hcc61 (show 1 ≤ 1 from by decide) (x' := y192) (Kd.FK_slice_mk (Kd.R_reads' (Kd.R_mono (ok' := (fun k_ => ((fun k_ => (w.heap.size ≤ k_) ∧ some k_ ≠ (.slice (some ad178) t175.length co18 : Value).ownBlock ∧ k_ ≠ gb179)) k_ ∧ k_ ≠ go54)) (Kd.R_types (Kd.R_apart' (Kd.R_apart' (HO194.out) (Kd.R_typed HO_32.out) (by decide)) (Kd.N_typed HO_5.out) (by decide)) BK179.out (by decide)) (fun k_ hk => ⟨⟨hk.1.1.1, ⟨hk.1.1.2, hk.2⟩⟩, fun e_ => (hk.1.2) (by rw [e_]; rfl)⟩))).2.1 (Kd.R_F (Kd.R_mono (ok' := (fun k_ => ((fun k_ => (w.heap.size ≤ k_) ∧ some k_ ≠ (.slice (some ad178) t175.length co18 : Value).ownBlock ∧ k_ ≠ gb179)) k_ ∧ k_ ≠ go54)) (Kd.R_types (Kd.R_apart' (Kd.R_apart' (HO194.out) (Kd.R_typed HO_32.out) (by decide)) (Kd.N_typed HO_5.out) (by decide)) BK179.out (by decide)) (fun k_ hk => ⟨⟨hk.1.1.1, ⟨hk.1.1.2, hk.2⟩⟩, fun e_ => (hk.1.2) (by rw [e_]; rfl)⟩)))) (fun _ hk => hk))); (try (have hx61_0 := hcc61 0 _ rfl)); (try (try simp only [show ((Kd.slice 3 (Kd.int .i64))).sz = 1 from rfl, Nat.mul_one, Nat.add_zero] at hx61_0)); (try (have hf61_0 := hfr61 0)); (try (try simp only [show ((Kd.slice 3 (Kd.int .i64))).sz = 1 from rfl, Nat.mul_one, Nat.add_zero] at hf61_0)); (try (clear hcl61 hcc61 hfr61; (try clear hM61))); (try (try simp only [show ((Kd.slice 3 (Kd.int .i64))).sz = 1 from rfl, Nat.mul_one, Nat.add_zero] at HP61)); (try (try simp only [show ((Kd.slice 3 (Kd.int .i64))).sz = 1 from rfl, Nat.mul_one, Nat.add_zero] at HP61)))); (try have o1_HO191 := (Kd.R_val HO191.out).2); (try have o1_HO194 := (Kd.R_val HO194.out).2); (try have o1_HO_32 := (Kd.R_val HO_32.out).2); (try have o1_HO_38 := (Kd.R_val HO_38.out).2); (try have o1_HO_5 := (Kd.R_val HO_5.out).2); refine store_event (t := 34) (p := 103) (v := ?vo_w62) (w1 := (w60.setCell ⟨go54, (x9_3 : Int).toNat, none⟩ ((.slice As193 y192.length cs193)))) ?hg ?ho ?hn ?hr ?_; (case ho => rfl); (case hg => rfl); (case hn => rfl); (case hr => first | (go_simp; done) | (go_simp; rfl) | (obtain ⟨A_, c_, e_⟩ := Kd.R_slice HO191.out; subst e_; first | (go_simp; done) | (go_simp; rfl)) | (obtain ⟨A_, c_, e_⟩ := Kd.R_slice HO194.out; subst e_; first | (go_simp; done) | (go_simp; rfl)) | (obtain ⟨A_, c_, e_⟩ := Kd.R_slice HO_32.out; subst e_; first | (go_simp; done) | (go_simp; rfl)) | (obtain ⟨A_, c_, e_⟩ := Kd.R_slice HO_38.out; subst e_; first | (go_simp; done) | (go_simp; rfl)) | (obtain ⟨A_, c_, e_⟩ := Kd.R_slice HO_5.out; subst e_; first | (go_simp; done) | (go_simp; rfl)) | (go_simp; repeat (rw [run_store _ _ _ _ _ (by assumption)]; go_simp))); intro w62 hw; have hg : w60.grownBy w62 (some go54) := (by rw [hw]; exact HP61.2); have hp_ : Kd.N (Kd.slice 3 (Kd.int .i64)) 34 w62 w.heap.size (fun k_ => (w.heap.size ≤ k_) ∧ some k_ ≠ (.slice (some ad178) t175.length co18 : Value).ownBlock ∧ k_ ≠ gb179) (.slice (some ⟨go54, 0, none⟩) x5_2.length co7) y195 := (by rw [hw, Ny195.out]; exact HP61.1); clear HP61; have n0_ := Aside0.mk (hp_); have n1_ := Aside0.mk (Kd.R_over' (v := (.slice (some ⟨go54, 0, none⟩) x5_2.length co7)) (lR HO_32.out) (Kd.N_typed HO_5.out) (by decide) hg); have n2_ := Aside0.mk (blk_grown (lK BK179.out) hg (Kd.N_ne HO_5.out BK179.out (by decide))); have n3_ := Aside0.mk (Kd.V_afterv (v := (.slice (some ⟨go54, 0, none⟩) x5_2.length co7)) (v1 := (.slice (some ⟨go54, 0, none⟩) x5_2.length co7)) (ok := (fun k_ => (w.heap.size ≤ k_) ∧ some k_ ≠ (.slice (some ad178) t175.length co18 : Value).ownBlock ∧ some k_ ≠ ((.slice As193 y192.length cs193) : Value).ownBlock ∧ k_ ≠ gb179)) (by (with_reducible repeat (first | apply Kd.V_alloc | apply Kd.V_drewN | apply Kd.V_drew)); exact Kd.V_mono HL184_0.out (fun _ hk => ⟨⟨hk.1.1, ⟨hk.1.2.2.1, ⟨hk.2, hk.1.2.2.2⟩⟩⟩, hk.1.2.1⟩)) hg (.inl rfl)); have n4_ := Aside0.mk (Kd.V_afterv (v := (.slice (some ⟨go54, 0, none⟩) x5_2.length co7)) (v1 := (.slice (some ⟨go54, 0, none⟩) x5_2.length co7)) (ok := (fun k_ => (w.heap.size ≤ k_) ∧ some k_ ≠ (.slice (some ad178) t175.length co18 : Value).ownBlock ∧ some k_ ≠ ((.slice As193 y192.length cs193) : Value).ownBlock ∧ k_ ≠ gb179)) (by (with_reducible repeat (first | apply Kd.V_alloc | apply Kd.V_drewN | apply Kd.V_drew)); exact Kd.V_mono HL188_0.out (fun _ hk => ⟨⟨hk.1.1, ⟨hk.1.2.2.1, ⟨hk.2, hk.1.2.2.2⟩⟩⟩, hk.1.2.1⟩)) hg (.inl rfl)); have n5_ := Aside0.mk ((by rw [hw]; exact below_set (HB.out) GB54.out : Below w.heap.size w w62)); clear HO_5; clear HO_32; clear BK179; clear HL184_0; clear HL188_0; clear HB; clear HO194; have HO_5 := n0_; have HO_32 := n1_; have BK179 := n2_; have HL184_0 := n3_; have HL188_0 := n4_; have HB := n5_; clear n0_ n1_ n2_ n3_ n4_ n5_; clear hg hw hp_; have p55 : 0 ≤ (x10_3 : Int) := lD; have q55 : (x10_3 : Int) < ((x5_2.length : Int) : Int) := lD; obtain ⟨ce55, hcl55, hM55, hcc55, hfr55⟩ := Kd.N_elem HO_5.out [] (x10_3 : Int) p55 q55; obtain ⟨ua55_0, uc55_0, rfl, ul55_0, ge55_0⟩ := Kd.FK_slice_open hM55; have hx55_0 := hcc55 0 _ rfl; have hf55_0 := hfr55 0; (try simp only [show ((Kd.slice 3 (Kd.int .i64))).sz = 1 from rfl, Nat.mul_one, Nat.add_zero] at hx55_0); (try simp only [show ((Kd.slice 3 (Kd.int .i64))).sz = 1 from rfl, Nat.mul_one, Nat.add_zero] at hf55_0); clear hcl55 hcc55 hfr55; (try clear hM55); replace p55 := eq_true p55; replace q55 := eq_true q55; have HX63 := Aside0.mk (show Kd.N (Kd.slice 3 (Kd.int .i64)) 34 w62 w.heap.size (fun k_ => (w.heap.size ≤ k_) ∧ some k_ ≠ (.slice (some ad178) t175.length co18 : Value).ownBlock ∧ k_ ≠ gb179) (.slice (some ⟨go54, 0, none⟩) x5_2.length co7) y195 from (by (with_reducible repeat (first | apply Kd.N_alloc | apply Kd.N_drewN | apply Kd.N_drew)); exact HO_5.out)); obtain ⟨ce63, hcl63, hM63, hcc63, hfr63⟩ := Kd.N_elem HX63.out [] (x10_3 : Int) (lD) (by have h_ : (x10_3 : Int) < ((x5_2.length : Int) : Int) := lD; first | exact h_ | (have e_ := (Kd.N_reads' HO_5.out).1; omega) | simpa using h_); obtain ⟨ua63_0, uc63_0, rfl, ul63_0, ge63_0⟩ := Kd.FK_slice_open hM63; have HP63 := Kd.N_seg HX63.out (x10_3 : Int) (lD) (by have h_ : (x10_3 : Int) < ((x5_2.length : Int) : Int) := lD; first | exact h_ | (have e_ := (Kd.N_reads' HO_5.out).1; omega) | simpa using h_) (seg := [.slice none 0 0]) (j := 0) hcl63 hcc63 (show 1 ≤ 1 from by decide) (x' := ([] : List Int)) (Kd.FK_slice_mk (Nat.le_refl _) (Kd.F_nil _ _ _)) (fun _ hk => hk); have hx63_0 := hcc63 0 _ rfl; (try simp only [show ((Kd.slice 3 (Kd.int .i64))).sz = 1 from rfl, Nat.mul_one, Nat.add_zero] at hx63_0); have hf63_0 := hfr63 0; (try simp only [show ((Kd.slice 3 (Kd.int .i64))).sz = 1 from rfl, Nat.mul_one, Nat.add_zero] at hf63_0); clear hcl63 hcc63 hfr63; (try clear hM63); (try simp only [show ((Kd.slice 3 (Kd.int .i64))).sz = 1 from rfl, Nat.mul_one, Nat.add_zero] at HP63); (try simp only [show ((Kd.slice 3 (Kd.int .i64))).sz = 1 from rfl, Nat.mul_one, Nat.add_zero] at HP63)) | ((with_reducible refine gate_store (t := 34) (p := 106) rfl ?_); (try (rw [drewN_self w62]; generalize hq_ : World.drewN w62 _ = w62; have n0_ := Aside0.mk (Kd.N_at hq_ HO_5.out); have n1_ := Aside0.mk (Kd.R_at hq_ HO_32.out); have n2_ := Aside0.mk (Kd.V_at hq_ HL184_0.out); have n3_ := Aside0.mk (Kd.V_at hq_ HL188_0.out); have n4_ := Aside0.mk (blk_at hq_ BK179.out); have n5_ := Aside0.mk (below_at hq_ HB.out); clear hq_ HO_5 HO_32 HL184_0 HL188_0 BK179 HB; have HO_5 := n0_; have HO_32 := n1_; have HL184_0 := n2_; have HL188_0 := n3_; have BK179 := n4_; have HB := n5_; clear n0_ n1_ n2_ n3_ n4_ n5_; (try (have HX63 := Aside0.mk (show Kd.N (Kd.slice 3 (Kd.int .i64)) 34 w62 w.heap.size (fun k_ => (w.heap.size ≤ k_) ∧ some k_ ≠ (.slice (some ad178) t175.length co18 : Value).ownBlock ∧ k_ ≠ gb179) (.slice (some ⟨go54, 0, none⟩) x5_2.length co7) y195 from (by (with_reducible repeat (first | apply Kd.N_alloc | apply Kd.N_drewN | apply Kd.N_drew)); exact HO_5.out)))); (try (obtain ⟨ce63, hcl63, hM63, hcc63, hfr63⟩ := Kd.N_elem HX63.out [] (x10_3 : Int) (lD) (by have h_ : (x10_3 : Int) < ((x5_2.length : Int) : Int) := lD; first | exact h_ | (have e_ := (Kd.N_reads' HO_5.out).1; omega) | simpa using h_))); (try (obtain ⟨ua63_0, uc63_0, rfl, ul63_0, ge63_0⟩ := Kd.FK_slice_open hM63)); (try (have HP63 := Kd.N_seg HX63.out (x10_3 : Int) (lD) (by have h_ : (x10_3 : Int) < ((x5_2.length : Int) : Int) := lD; first | exact h_ | (have e_ := (Kd.N_reads' HO_5.out).1; omega) | simpa using h_) (seg := [.slice none 0 0]) (j := 0) hcl63 hcc63 (show 1 ≤ 1 from by decide) (x' := ([] : List Int)) (Kd.FK_slice_mk (Nat.le_refl _) (Kd.F_nil _ _ _)) (fun _ hk => hk))); (try (have hx63_0 := hcc63 0 _ rfl)); (try (try simp only [show ((Kd.slice 3 (Kd.int .i64))).sz = 1 from rfl, Nat.mul_one, Nat.add_zero] at hx63_0)); (try (have hf63_0 := hfr63 0)); (try (try simp only [show ((Kd.slice 3 (Kd.int .i64))).sz = 1 from rfl, Nat.mul_one, Nat.add_zero] at hf63_0)); (try (clear hcl63 hcc63 hfr63; (try clear hM63))); (try (try simp only [show ((Kd.slice 3 (Kd.int .i64))).sz = 1 from rfl, Nat.mul_one, Nat.add_zero] at HP63)); (try (try simp only [show ((Kd.slice 3 (Kd.int .i64))).sz = 1 from rfl, Nat.mul_one, Nat.add_zero] at HP63)))); refine store_event (t := 34) (p := 106) (v := ?vo_w64) (w1 := (w62.setCell ⟨go54, (x10_3 : Int).toNat, none⟩ (.slice none 0 0))) ?hg ?ho ?hn ?hr ?_; (case ho => rfl); (case hg => rfl); (case hn => rfl); (case hr => first | (go_simp; done) | (go_simp; rfl)); intro w64 hw; have hg : w62.grownBy w64 (some go54) := (by rw [hw]; exact HP63.2); have hp_ : Kd.N (Kd.slice 3 (Kd.int .i64)) 34 w64 w.heap.size (fun k_ => (w.heap.size ≤ k_) ∧ some k_ ≠ (.slice (some ad178) t175.length co18 : Value).ownBlock ∧ k_ ≠ gb179) (.slice (some ⟨go54, 0, none⟩) x5_2.length co7) y196 := (by rw [hw, Ny196.out]; exact HP63.1); clear HP63; have n0_ := Aside0.mk (hp_); have n1_ := Aside0.mk (Kd.R_over' (v := (.slice (some ⟨go54, 0, none⟩) x5_2.length co7)) (lR HO_32.out) (Kd.N_typed HO_5.out) (by decide) hg); have n2_ := Aside0.mk (blk_grown (lK BK179.out) hg (Kd.N_ne HO_5.out BK179.out (by decide))); have n3_ := Aside0.mk (Kd.V_afterv (v := (.slice (some ⟨go54, 0, none⟩) x5_2.length co7)) (v1 := (.slice (some ⟨go54, 0, none⟩) x5_2.length co7)) (ok := (fun k_ => (w.heap.size ≤ k_) ∧ some k_ ≠ (.slice (some ad178) t175.length co18 : Value).ownBlock ∧ k_ ≠ gb179)) (by (with_reducible repeat (first | apply Kd.V_alloc | apply Kd.V_drewN | apply Kd.V_drew)); exact Kd.V_mono HL184_0.out (fun _ hk => ⟨⟨hk.1.1, ⟨hk.1.2.1, hk.1.2.2.2⟩⟩, hk.2⟩)) hg (.inl rfl)); have n4_ := Aside0.mk (Kd.V_afterv (v := (.slice (some ⟨go54, 0, none⟩) x5_2.length co7)) (v1 := (.slice (some ⟨go54, 0, none⟩) x5_2.length co7)) (ok := (fun k_ => (w.heap.size ≤ k_) ∧ some k_ ≠ (.slice (some ad178) t175.length co18 : Value).ownBlock ∧ k_ ≠ gb179)) (by (with_reducible repeat (first | apply Kd.V_alloc | apply Kd.V_drewN | apply Kd.V_drew)); exact Kd.V_mono HL188_0.out (fun _ hk => ⟨⟨hk.1.1, ⟨hk.1.2.1, hk.1.2.2.2⟩⟩, hk.2⟩)) hg (.inl rfl)); have n5_ := Aside0.mk ((by rw [hw]; exact below_set (HB.out) GB54.out : Below w.heap.size w w64)); clear HO_5; clear HO_32; clear BK179; clear HL184_0; clear HL188_0; clear HB; have HO_5 := n0_; have HO_32 := n1_; have BK179 := n2_; have HL184_0 := n3_; have HL188_0 := n4_; have HB := n5_; clear n0_ n1_ n2_ n3_ n4_ n5_; clear hg hw hp_))
                        repeat (go_quiet (fail); try go_wp2_with (first | ((with_reducible refine gate_dst (N := 95) rfl ?_); (try (refine gate_guard (by rfl) ?_; dsimp only)); refine Kd.R_lit (Kd.int .i64) _ 3 ?hg (N := 95) ?hd (xs := ([] : List Int)) (inner := []) (ok := fun _ => True) (okp := fun _ => True) ?hr ?hp (fun _ hk => hk) trivial (Below.refl _ _) (Nat.le_refl _) (by simp) ?_; (case hd => rfl); (case hg => rfl); (case hr => first | (go_simp; done) | (go_simp; rfl)); (case hp => exact (Reps.none _ _)); intro v186 w57 ho58 hb hg_ hnew_; clear hg_ hnew_; (first | rw [← Ny185.out] at ho58 | (simp only [Int.reduceToNat] at ho58; rw [← Ny185.out] at ho58)); have n0_ := Aside0.mk (Kd.N_elder' (by (with_reducible repeat (first | apply Kd.N_alloc | apply Kd.N_drewN | apply Kd.N_drew)); exact HO_5.out) (Kd.R_base ho58) hb); have n1_ := Aside0.mk (Kd.R_below (lR HO_32.out) hb); have n2_ := Aside0.mk (Kd.N_elder' (by (with_reducible repeat (first | apply Kd.N_alloc | apply Kd.N_drewN | apply Kd.N_drew)); exact HO_38.out) (Kd.R_base ho58) hb); have n3_ := Aside0.mk (Kd.V_elder' (by (with_reducible repeat (first | apply Kd.V_alloc | apply Kd.V_drewN | apply Kd.V_drew)); exact HL184_0.out) (Kd.R_base ho58) hb); have n4_ := Aside0.mk (Kd.R_lower (Kd.R_newM (M := fun k_ => (w.heap.size ≤ k_)) ho58 (below_size lB) (fun k_ h_ => h_)) (below_size lB)); have n5_ := Aside0.mk (blk_below (lK BK179.out) hb); have n6_ := Aside0.mk (Kd.C_below (by repeat (first | (with_reducible exact HR184_0.out) | (with_reducible refine Kd.C_alloc ?_ _) | (with_reducible refine Kd.C_drewN ?_ _) | (with_reducible refine Kd.C_drew ?_) | exact HR184_0.out | exact (Kd.V_reads' HL184_0.out).2.2)) hb); have n7_ := Aside0.mk (below_step lB hb); clear HO_5; clear HO_32; clear HO_38; clear HL184_0; clear BK179; clear HR184_0; clear HB; have HO_5 := n0_; have HO_32 := n1_; have HO_38 := n2_; have HL184_0 := n3_; have HO187 := n4_; have BK179 := n5_; have HR184_0 := n6_; have HB := n7_; clear n0_ n1_ n2_ n3_ n4_ n5_ n6_ n7_; clear hb ho58; have p188 : 0 ≤ (x9_3 : Int) := lD; have q188 : x9_3 < (x5_2.length : Int) := lD; obtain ⟨ad188, A188_0, c188_0, e188, hx188_0, hl188_0, hi188_0⟩ := at_L5 (Kd.N_reads' HO_5.out).2.2 x9_3 p188 q188; obtain rfl : ad184 = ad188 := (by injection e188); obtain ⟨ce188, hce188, hMe188, hcc188⟩ := Kd.N_get HO_5.out [] x9_3 p188 (by first | exact q188 | exact lD | (have e_ := (Kd.N_reads' HO_5.out).1; omega)); obtain ⟨ua188_0, uc188_0, rfl, ul188_0, ge188_0⟩ := Kd.FK_slice_open hMe188; have hv188_0 := hcc188 0 _ rfl; rw [Nat.add_zero, show ((Kd.slice 3 (Kd.int .i64))).sz = 1 from rfl, Nat.mul_one] at hv188_0; replace hv188_0 := Option.some.inj (hv188_0.symm.trans hx188_0); injection hv188_0 with hva_ hvn_ hvc_; rw [hva_] at ge188_0; rw [hvc_] at ul188_0; have HL188_0 := Aside0.mk (show Kd.V (Kd.int .i64) 3 _ w.heap.size _ _ (rd_L5 x5_2 x9_3) from Kd.V_mk ul188_0 ge188_0); clear hva_ hvn_ hvc_ ge188_0 ul188_0; clear hcc188 hce188; have HR188_0 := Aside0.mk hi188_0; have HC188_0 := Aside0.mk hl188_0; clear hi188_0 hl188_0; replace p188 := eq_true p188; replace q188 := eq_true q188) | ((with_reducible refine gate_builtin (b := .append) (xs := #[.tmp 95, .tmp 99]) rfl ?_); (try (refine gate_guard (by rfl) ?_; dsimp only)); at_builtin; refine Kd.R_append_rows (Kd.int .i64) (w0 := w) w.heap.size rfl (.tmp 95) (.tmp 99) 34 3 (.int .i64 0) 8 rfl Try.underlying34 info3 rfl (by decide) (by omega) v186 y185 (rd_L5 x5_2 x9_3) _ _ _ (fun k_ => (w.heap.size ≤ k_)) (fun _ => False) rfl rfl ?aO ?aR (fun _ _ h => h) (fun _ h => h.elim) ?aF ?aB ?aS ?aL ?_; (case aR => repeat (first | exact (by repeat (first | (with_reducible exact HR188_0.out) | (with_reducible refine Kd.C_alloc ?_ _) | (with_reducible refine Kd.C_drewN ?_ _) | (with_reducible refine Kd.C_drew ?_) | exact HR188_0.out | exact (Kd.V_reads' HL188_0.out).2.2)) | (with_reducible refine Kd.C_alloc ?_ _) | (with_reducible refine Kd.C_drewN ?_ _) | (with_reducible refine Kd.C_drew ?_))); (case aB => exact lB); (case aF => exact (fun k_ hk => (Nat.le_trans (below_size lB) hk))); (case aO => exact (by (with_reducible repeat (first | apply Kd.R_alloc | apply Kd.R_drewN | apply Kd.R_drew)); exact Kd.R_mono HO187.out (fun _ hk => hk.1))); (case aS => exact (below_size lB)); (case aL => have := LMc52.out; omega); intro v190 w59 ho hb hg hat; rw [← Ny189.out] at ho; have n0_ := Aside0.mk (Kd.N_afterv (ok := (fun k_ => (w.heap.size ≤ k_) ∧ some k_ ≠ (.slice (some ad178) t175.length co18 : Value).ownBlock ∧ k_ ≠ gb179)) (by (with_reducible repeat (first | apply Kd.N_alloc | apply Kd.N_drewN | apply Kd.N_drew)); exact HO_5.out) hg hat); have n1_ := Aside0.mk (Kd.R_over' (lR HO_32.out) (Kd.R_typed (lR HO187.out)) (by decide) hg); have n2_ := Aside0.mk (Kd.N_afterv (ok := (fun k_ => (w.heap.size ≤ k_) ∧ some k_ ≠ (.slice (some ad178) t175.length co18 : Value).ownBlock ∧ k_ ≠ gb179)) (by (with_reducible repeat (first | apply Kd.N_alloc | apply Kd.N_drewN | apply Kd.N_drew)); exact HO_38.out) hg hat); have n3_ := Aside0.mk (blk_grown (lK BK179.out) hg (Kd.R_ne HO187.out BK179.out (by decide))); have n4_ := Aside0.mk (Kd.V_afterv (ok := (fun k_ => (w.heap.size ≤ k_) ∧ some k_ ≠ (.slice (some ad184) x5_2.length co7 : Value).ownBlock ∧ some k_ ≠ (.slice (some ad178) t175.length co18 : Value).ownBlock ∧ k_ ≠ gb179)) (by (with_reducible repeat (first | apply Kd.V_alloc | apply Kd.V_drewN | apply Kd.V_drew)); exact Kd.V_mono HL184_0.out (fun _ hk => ⟨⟨hk.1.1.1, ⟨hk.1.2, ⟨hk.1.1.2.1, hk.1.1.2.2⟩⟩⟩, hk.2⟩)) hg hat); have n5_ := Aside0.mk (Kd.V_afterv (ok := (fun k_ => (w.heap.size ≤ k_) ∧ some k_ ≠ (.slice (some ad184) x5_2.length co7 : Value).ownBlock ∧ some k_ ≠ (.slice (some ad178) t175.length co18 : Value).ownBlock ∧ k_ ≠ gb179)) (by (with_reducible repeat (first | apply Kd.V_alloc | apply Kd.V_drewN | apply Kd.V_drew)); exact Kd.V_mono HL188_0.out (fun _ hk => ⟨⟨hk.1.1.1, ⟨hk.2, ⟨hk.1.1.2.1, hk.1.1.2.2⟩⟩⟩, hk.1.2⟩)) hg hat); have n6_ := Aside0.mk (hb); have n7_ := Aside0.mk (ho); clear HO_5; clear HO_32; clear HO_38; clear BK179; clear HL184_0; clear HL188_0; clear HB; clear HO187; have HO_5 := n0_; have HO_32 := n1_; have HO_38 := n2_; have BK179 := n3_; have HL184_0 := n4_; have HL188_0 := n5_; have HB := n6_; have HO191 := n7_; clear n0_ n1_ n2_ n3_ n4_ n5_ n6_ n7_; clear ho hb hg hat) | ((with_reducible refine gate_builtin (b := .append) (xs := #[.tmp 100, .tmp 101]) rfl ?_); (try (refine gate_guard (by rfl) ?_; dsimp only)); at_builtin; refine Kd.R_append_rows (Kd.int .i64) (w0 := w) w.heap.size rfl (.tmp 100) (.tmp 101) 34 3 (.int .i64 0) 8 rfl Try.underlying34 info3 rfl (by decide) (by omega) v190 y189 (rd_L5 x5_2 x10_3) _ _ _ (fun k_ => (w.heap.size ≤ k_)) (fun _ => False) rfl rfl ?aO ?aR (fun _ _ h => h) (fun _ h => h.elim) ?aF ?aB ?aS ?aL ?_; (case aR => repeat (first | exact ((Kd.V_reads' (by (with_reducible repeat (first | apply Kd.V_alloc | apply Kd.V_drewN | apply Kd.V_drew)); exact HL184_0.out)).2.2) | (with_reducible refine Kd.C_alloc ?_ _) | (with_reducible refine Kd.C_drewN ?_ _) | (with_reducible refine Kd.C_drew ?_))); (case aB => exact lB); (case aF => exact (fun k_ hk => (Nat.le_trans (below_size lB) hk))); (case aO => exact (lR HO191.out)); (case aS => exact (below_size lB)); (case aL => have := LMc53.out; omega); intro (.slice As193 y192.length cs193) w60 ho hb hg hat; rw [← Ny192.out] at ho; have n0_ := Aside0.mk (Kd.N_afterv (ok := (fun k_ => (w.heap.size ≤ k_) ∧ some k_ ≠ (.slice (some ad178) t175.length co18 : Value).ownBlock ∧ k_ ≠ gb179)) (by (with_reducible repeat (first | apply Kd.N_alloc | apply Kd.N_drewN | apply Kd.N_drew)); exact HO_5.out) hg hat); have n1_ := Aside0.mk (Kd.R_over' (lR HO_32.out) (Kd.R_typed (lR HO191.out)) (by decide) hg); have n2_ := Aside0.mk (Kd.N_afterv (ok := (fun k_ => (w.heap.size ≤ k_) ∧ some k_ ≠ (.slice (some ad178) t175.length co18 : Value).ownBlock ∧ k_ ≠ gb179)) (by (with_reducible repeat (first | apply Kd.N_alloc | apply Kd.N_drewN | apply Kd.N_drew)); exact HO_38.out) hg hat); have n3_ := Aside0.mk (blk_grown (lK BK179.out) hg (Kd.R_ne HO191.out BK179.out (by decide))); have n4_ := Aside0.mk (Kd.V_afterv (ok := (fun k_ => (w.heap.size ≤ k_) ∧ some k_ ≠ (.slice (some ad184) x5_2.length co7 : Value).ownBlock ∧ some k_ ≠ (.slice (some ad178) t175.length co18 : Value).ownBlock ∧ k_ ≠ gb179)) (by (with_reducible repeat (first | apply Kd.V_alloc | apply Kd.V_drewN | apply Kd.V_drew)); exact HL184_0.out) hg hat); have n5_ := Aside0.mk (Kd.V_afterv (ok := (fun k_ => (w.heap.size ≤ k_) ∧ some k_ ≠ (.slice (some ad184) x5_2.length co7 : Value).ownBlock ∧ some k_ ≠ (.slice (some ad178) t175.length co18 : Value).ownBlock ∧ k_ ≠ gb179)) (by (with_reducible repeat (first | apply Kd.V_alloc | apply Kd.V_drewN | apply Kd.V_drew)); exact HL188_0.out) hg hat); have n6_ := Aside0.mk (hb); have n7_ := Aside0.mk (ho); clear HO_5; clear HO_32; clear HO_38; clear BK179; clear HL184_0; clear HL188_0; clear HB; clear HO191; have HO_5 := n0_; have HO_32 := n1_; have HO_38 := n2_; have BK179 := n3_; have HL184_0 := n4_; have HL188_0 := n5_; have HB := n6_; have HO194 := n7_; clear n0_ n1_ n2_ n3_ n4_ n5_ n6_ n7_; clear ho hb hg hat; have p54 : 0 ≤ (x9_3 : Int) := lD; have q54 : (x9_3 : Int) < ((x5_2.length : Int) : Int) := lD; obtain ⟨go54, co54, eo54, gb54, gl54, cl54, HG54⟩ := Kd.N_form HO_5.out (by omega); (first | cases eo54 | (injection eo54 with ea_ en_ ec_; (first | subst ea_ | (injection ea_ with ea_; subst ea_)); subst ec_; clear en_)); have GB54 := Aside0.mk gb54; have GG54 := Aside0.mk HG54; clear gb54 gl54 HG54; (first | simp only [add_plain] at hx184_0 | skip); (first | simp only [add_plain] at hx188_0 | skip); obtain ⟨ce54, hcl54, hM54, hcc54, hfr54⟩ := Kd.N_elem HO_5.out [] (x9_3 : Int) p54 q54; obtain ⟨ua54_0, uc54_0, rfl, ul54_0, ge54_0⟩ := Kd.FK_slice_open hM54; have hx54_0 := hcc54 0 _ rfl; have hf54_0 := hfr54 0; (try simp only [show ((Kd.slice 3 (Kd.int .i64))).sz = 1 from rfl, Nat.mul_one, Nat.add_zero] at hx54_0); (try simp only [show ((Kd.slice 3 (Kd.int .i64))).sz = 1 from rfl, Nat.mul_one, Nat.add_zero] at hf54_0); clear hcl54 hcc54 hfr54; (try clear hM54); replace p54 := eq_true p54; replace q54 := eq_true q54; have n_ := Aside0.mk (Kd.N_mono (ok' := (fun k_ => (w.heap.size ≤ k_) ∧ some k_ ≠ (.slice (some ad178) t175.length co18 : Value).ownBlock ∧ some k_ ≠ ((.slice As193 y192.length cs193) : Value).ownBlock ∧ k_ ≠ gb179)) HO_5.out (fun k_ hk => ⟨hk.1.1, ⟨hk.1.2.1, ⟨hk.2, hk.1.2.2⟩⟩⟩)); clear HO_5; have HO_5 := n_; clear n_; have HX61 := Aside0.mk (show Kd.N (Kd.slice 3 (Kd.int .i64)) 34 w60 w.heap.size (fun k_ => (w.heap.size ≤ k_) ∧ some k_ ≠ (.slice (some ad178) t175.length co18 : Value).ownBlock ∧ k_ ≠ gb179) (.slice (some ⟨go54, 0, none⟩) x5_2.length co7) x5_2 from (by (with_reducible repeat (first | apply Kd.N_alloc | apply Kd.N_drewN | apply Kd.N_drew)); exact Kd.N_mono HO_5.out (fun _ hk => ⟨hk.1, ⟨hk.2.1, hk.2.2.2⟩⟩))); obtain ⟨ce61, hcl61, hM61, hcc61, hfr61⟩ := Kd.N_elem HX61.out [] (x9_3 : Int) (lD) (by have h_ : (x9_3 : Int) < ((x5_2.length : Int) : Int) := lD; first | exact h_ | (have e_ := (Kd.N_reads' HO_5.out).1; omega) | simpa using h_); obtain ⟨ua61_0, uc61_0, rfl, ul61_0, ge61_0⟩ := Kd.FK_slice_open hM61; have HP61 := Kd.N_seg HX61.out (x9_3 : Int) (lD) (by have h_ : (x9_3 : Int) < ((x5_2.length : Int) : Int) := lD; first | exact h_ | (have e_ := (Kd.N_reads' HO_5.out).1; omega) | simpa using h_) (seg := [(.slice As193 y192.length cs193)]) (j := 0) hcl61 hcc61 (show 1 ≤ 1 from by decide) (x' := y192) (Kd.FK_slice_mk (Kd.R_reads' (Kd.R_mono (ok' := (fun k_ => ((fun k_ => (w.heap.size ≤ k_) ∧ some k_ ≠ (.slice (some ad178) t175.length co18 : Value).ownBlock ∧ k_ ≠ gb179)) k_ ∧ k_ ≠ go54)) (Kd.R_types (Kd.R_apart' (Kd.R_apart' (HO194.out) (Kd.R_typed HO_32.out) (by decide)) (Kd.N_typed HO_5.out) (by decide)) BK179.out (by decide)) (fun k_ hk => ⟨⟨hk.1.1.1, ⟨hk.1.1.2, hk.2⟩⟩, fun e_ => (hk.1.2) (by rw [e_]; rfl)⟩))).2.1 (Kd.R_F (Kd.R_mono (ok' := (fun k_ => ((fun k_ => (w.heap.size ≤ k_) ∧ some k_ ≠ (.slice (some ad178) t175.length co18 : Value).ownBlock ∧ k_ ≠ gb179)) k_ ∧ k_ ≠ go54)) (Kd.R_types (Kd.R_apart' (Kd.R_apart' (HO194.out) (Kd.R_typed HO_32.out) (by decide)) (Kd.N_typed HO_5.out) (by decide)) BK179.out (by decide)) (fun k_ hk => ⟨⟨hk.1.1.1, ⟨hk.1.1.2, hk.2⟩⟩, fun e_ => (hk.1.2) (by rw [e_]; rfl)⟩)))) (fun _ hk => hk); have hx61_0 := hcc61 0 _ rfl; (try simp only [show ((Kd.slice 3 (Kd.int .i64))).sz = 1 from rfl, Nat.mul_one, Nat.add_zero] at hx61_0); have hf61_0 := hfr61 0; (try simp only [show ((Kd.slice 3 (Kd.int .i64))).sz = 1 from rfl, Nat.mul_one, Nat.add_zero] at hf61_0); clear hcl61 hcc61 hfr61; (try clear hM61); (try simp only [show ((Kd.slice 3 (Kd.int .i64))).sz = 1 from rfl, Nat.mul_one, Nat.add_zero] at HP61); (try simp only [show ((Kd.slice 3 (Kd.int .i64))).sz = 1 from rfl, Nat.mul_one, Nat.add_zero] at HP61)) | ((with_reducible refine gate_store (t := 34) (p := 103) rfl ?_); (try (rw [drewN_self w60]; generalize hq_ : World.drewN w60 _ = w60; have n0_ := Aside0.mk (Kd.N_at hq_ HO_5.out); have n1_ := Aside0.mk (Kd.R_at hq_ HO_32.out); have n2_ := Aside0.mk (Kd.V_at hq_ HL184_0.out); have n3_ := Aside0.mk (Kd.V_at hq_ HL188_0.out); have n4_ := Aside0.mk (blk_at hq_ BK179.out); have n5_ := Aside0.mk (below_at hq_ HB.out); clear hq_ HO_5 HO_32 HL184_0 HL188_0 BK179 HB; have HO_5 := n0_; have HO_32 := n1_; have HL184_0 := n2_; have HL188_0 := n3_; have BK179 := n4_; have HB := n5_; clear n0_ n1_ n2_ n3_ n4_ n5_; (try (have n_ := Aside0.mk (Kd.N_mono (ok' := (fun k_ => (w.heap.size ≤ k_) ∧ some k_ ≠ (.slice (some ad178) t175.length co18 : Value).ownBlock ∧ some k_ ≠ ((.slice As193 y192.length cs193) : Value).ownBlock ∧ k_ ≠ gb179)) HO_5.out (fun k_ hk => ⟨hk.1.1, ⟨hk.1.2.1, ⟨hk.2, hk.1.2.2⟩⟩⟩)); clear HO_5; have HO_5 := n_; clear n_)); (try (have HX61 := Aside0.mk (show Kd.N (Kd.slice 3 (Kd.int .i64)) 34 w60 w.heap.size (fun k_ => (w.heap.size ≤ k_) ∧ some k_ ≠ (.slice (some ad178) t175.length co18 : Value).ownBlock ∧ k_ ≠ gb179) (.slice (some ⟨go54, 0, none⟩) x5_2.length co7) x5_2 from (by (with_reducible repeat (first | apply Kd.N_alloc | apply Kd.N_drewN | apply Kd.N_drew)); exact Kd.N_mono HO_5.out (fun _ hk => ⟨hk.1, ⟨hk.2.1, hk.2.2.2⟩⟩))))); (try (obtain ⟨ce61, hcl61, hM61, hcc61, hfr61⟩ := Kd.N_elem HX61.out [] (x9_3 : Int) (lD) (by have h_ : (x9_3 : Int) < ((x5_2.length : Int) : Int) := lD; first | exact h_ | (have e_ := (Kd.N_reads' HO_5.out).1; omega) | simpa using h_))); (try (obtain ⟨ua61_0, uc61_0, rfl, ul61_0, ge61_0⟩ := Kd.FK_slice_open hM61)); (try (have HP61 := Kd.N_seg HX61.out (x9_3 : Int) (lD) (by have h_ : (x9_3 : Int) < ((x5_2.length : Int) : Int) := lD; first | exact h_ | (have e_ := (Kd.N_reads' HO_5.out).1; omega) | simpa using h_) (seg := [(.slice As193 y192.length cs193)]) (j := 0) hcl61 hcc61 (show 1 ≤ 1 from by decide) (x' := y192) (Kd.FK_slice_mk (Kd.R_reads' (Kd.R_mono (ok' := (fun k_ => ((fun k_ => (w.heap.size ≤ k_) ∧ some k_ ≠ (.slice (some ad178) t175.length co18 : Value).ownBlock ∧ k_ ≠ gb179)) k_ ∧ k_ ≠ go54)) (Kd.R_types (Kd.R_apart' (Kd.R_apart' (HO194.out) (Kd.R_typed HO_32.out) (by decide)) (Kd.N_typed HO_5.out) (by decide)) BK179.out (by decide)) (fun k_ hk => ⟨⟨hk.1.1.1, ⟨hk.1.1.2, hk.2⟩⟩, fun e_ => (hk.1.2) (by rw [e_]; rfl)⟩))).2.1 (Kd.R_F (Kd.R_mono (ok' := (fun k_ => ((fun k_ => (w.heap.size ≤ k_) ∧ some k_ ≠ (.slice (some ad178) t175.length co18 : Value).ownBlock ∧ k_ ≠ gb179)) k_ ∧ k_ ≠ go54)) (Kd.R_types (Kd.R_apart' (Kd.R_apart' (HO194.out) (Kd.R_typed HO_32.out) (by decide)) (Kd.N_typed HO_5.out) (by decide)) BK179.out (by decide)) (fun k_ hk => ⟨⟨hk.1.1.1, ⟨hk.1.1.2, hk.2⟩⟩, fun e_ => (hk.1.2) (by rw [e_]; rfl)⟩)))) (fun _ hk => hk))); (try (have hx61_0 := hcc61 0 _ rfl)); (try (try simp only [show ((Kd.slice 3 (Kd.int .i64))).sz = 1 from rfl, Nat.mul_one, Nat.add_zero] at hx61_0)); (try (have hf61_0 := hfr61 0)); (try (try simp only [show ((Kd.slice 3 (Kd.int .i64))).sz = 1 from rfl, Nat.mul_one, Nat.add_zero] at hf61_0)); (try (clear hcl61 hcc61 hfr61; (try clear hM61))); (try (try simp only [show ((Kd.slice 3 (Kd.int .i64))).sz = 1 from rfl, Nat.mul_one, Nat.add_zero] at HP61)); (try (try simp only [show ((Kd.slice 3 (Kd.int .i64))).sz = 1 from rfl, Nat.mul_one, Nat.add_zero] at HP61)))); (try have o1_HO191 := (Kd.R_val HO191.out).2); (try have o1_HO194 := (Kd.R_val HO194.out).2); (try have o1_HO_32 := (Kd.R_val HO_32.out).2); (try have o1_HO_38 := (Kd.R_val HO_38.out).2); (try have o1_HO_5 := (Kd.R_val HO_5.out).2); refine store_event (t := 34) (p := 103) (v := ?vo_w62) (w1 := (w60.setCell ⟨go54, (x9_3 : Int).toNat, none⟩ ((.slice As193 y192.length cs193)))) ?hg ?ho ?hn ?hr ?_; (case ho => rfl); (case hg => rfl); (case hn => rfl); (case hr => first | (go_simp; done) | (go_simp; rfl) | (obtain ⟨A_, c_, e_⟩ := Kd.R_slice HO191.out; subst e_; first | (go_simp; done) | (go_simp; rfl)) | (obtain ⟨A_, c_, e_⟩ := Kd.R_slice HO194.out; subst e_; first | (go_simp; done) | (go_simp; rfl)) | (obtain ⟨A_, c_, e_⟩ := Kd.R_slice HO_32.out; subst e_; first | (go_simp; done) | (go_simp; rfl)) | (obtain ⟨A_, c_, e_⟩ := Kd.R_slice HO_38.out; subst e_; first | (go_simp; done) | (go_simp; rfl)) | (obtain ⟨A_, c_, e_⟩ := Kd.R_slice HO_5.out; subst e_; first | (go_simp; done) | (go_simp; rfl)) | (go_simp; repeat (rw [run_store _ _ _ _ _ (by assumption)]; go_simp))); intro w62 hw; have hg : w60.grownBy w62 (some go54) := (by rw [hw]; exact HP61.2); have hp_ : Kd.N (Kd.slice 3 (Kd.int .i64)) 34 w62 w.heap.size (fun k_ => (w.heap.size ≤ k_) ∧ some k_ ≠ (.slice (some ad178) t175.length co18 : Value).ownBlock ∧ k_ ≠ gb179) (.slice (some ⟨go54, 0, none⟩) x5_2.length co7) y195 := (by rw [hw, Ny195.out]; exact HP61.1); clear HP61; have n0_ := Aside0.mk (hp_); have n1_ := Aside0.mk (Kd.R_over' (v := (.slice (some ⟨go54, 0, none⟩) x5_2.length co7)) (lR HO_32.out) (Kd.N_typed HO_5.out) (by decide) hg); have n2_ := Aside0.mk (blk_grown (lK BK179.out) hg (Kd.N_ne HO_5.out BK179.out (by decide))); have n3_ := Aside0.mk (Kd.V_afterv (v := (.slice (some ⟨go54, 0, none⟩) x5_2.length co7)) (v1 := (.slice (some ⟨go54, 0, none⟩) x5_2.length co7)) (ok := (fun k_ => (w.heap.size ≤ k_) ∧ some k_ ≠ (.slice (some ad178) t175.length co18 : Value).ownBlock ∧ some k_ ≠ ((.slice As193 y192.length cs193) : Value).ownBlock ∧ k_ ≠ gb179)) (by (with_reducible repeat (first | apply Kd.V_alloc | apply Kd.V_drewN | apply Kd.V_drew)); exact Kd.V_mono HL184_0.out (fun _ hk => ⟨⟨hk.1.1, ⟨hk.1.2.2.1, ⟨hk.2, hk.1.2.2.2⟩⟩⟩, hk.1.2.1⟩)) hg (.inl rfl)); have n4_ := Aside0.mk (Kd.V_afterv (v := (.slice (some ⟨go54, 0, none⟩) x5_2.length co7)) (v1 := (.slice (some ⟨go54, 0, none⟩) x5_2.length co7)) (ok := (fun k_ => (w.heap.size ≤ k_) ∧ some k_ ≠ (.slice (some ad178) t175.length co18 : Value).ownBlock ∧ some k_ ≠ ((.slice As193 y192.length cs193) : Value).ownBlock ∧ k_ ≠ gb179)) (by (with_reducible repeat (first | apply Kd.V_alloc | apply Kd.V_drewN | apply Kd.V_drew)); exact Kd.V_mono HL188_0.out (fun _ hk => ⟨⟨hk.1.1, ⟨hk.1.2.2.1, ⟨hk.2, hk.1.2.2.2⟩⟩⟩, hk.1.2.1⟩)) hg (.inl rfl)); have n5_ := Aside0.mk ((by rw [hw]; exact below_set (HB.out) GB54.out : Below w.heap.size w w62)); clear HO_5; clear HO_32; clear BK179; clear HL184_0; clear HL188_0; clear HB; clear HO194; have HO_5 := n0_; have HO_32 := n1_; have BK179 := n2_; have HL184_0 := n3_; have HL188_0 := n4_; have HB := n5_; clear n0_ n1_ n2_ n3_ n4_ n5_; clear hg hw hp_; have p55 : 0 ≤ (x10_3 : Int) := lD; have q55 : (x10_3 : Int) < ((x5_2.length : Int) : Int) := lD; obtain ⟨ce55, hcl55, hM55, hcc55, hfr55⟩ := Kd.N_elem HO_5.out [] (x10_3 : Int) p55 q55; obtain ⟨ua55_0, uc55_0, rfl, ul55_0, ge55_0⟩ := Kd.FK_slice_open hM55; have hx55_0 := hcc55 0 _ rfl; have hf55_0 := hfr55 0; (try simp only [show ((Kd.slice 3 (Kd.int .i64))).sz = 1 from rfl, Nat.mul_one, Nat.add_zero] at hx55_0); (try simp only [show ((Kd.slice 3 (Kd.int .i64))).sz = 1 from rfl, Nat.mul_one, Nat.add_zero] at hf55_0); clear hcl55 hcc55 hfr55; (try clear hM55); replace p55 := eq_true p55; replace q55 := eq_true q55; have HX63 := Aside0.mk (show Kd.N (Kd.slice 3 (Kd.int .i64)) 34 w62 w.heap.size (fun k_ => (w.heap.size ≤ k_) ∧ some k_ ≠ (.slice (some ad178) t175.length co18 : Value).ownBlock ∧ k_ ≠ gb179) (.slice (some ⟨go54, 0, none⟩) x5_2.length co7) y195 from (by (with_reducible repeat (first | apply Kd.N_alloc | apply Kd.N_drewN | apply Kd.N_drew)); exact HO_5.out)); obtain ⟨ce63, hcl63, hM63, hcc63, hfr63⟩ := Kd.N_elem HX63.out [] (x10_3 : Int) (lD) (by have h_ : (x10_3 : Int) < ((x5_2.length : Int) : Int) := lD; first | exact h_ | (have e_ := (Kd.N_reads' HO_5.out).1; omega) | simpa using h_); obtain ⟨ua63_0, uc63_0, rfl, ul63_0, ge63_0⟩ := Kd.FK_slice_open hM63; have HP63 := Kd.N_seg HX63.out (x10_3 : Int) (lD) (by have h_ : (x10_3 : Int) < ((x5_2.length : Int) : Int) := lD; first | exact h_ | (have e_ := (Kd.N_reads' HO_5.out).1; omega) | simpa using h_) (seg := [.slice none 0 0]) (j := 0) hcl63 hcc63 (show 1 ≤ 1 from by decide) (x' := ([] : List Int)) (Kd.FK_slice_mk (Nat.le_refl _) (Kd.F_nil _ _ _)) (fun _ hk => hk); have hx63_0 := hcc63 0 _ rfl; (try simp only [show ((Kd.slice 3 (Kd.int .i64))).sz = 1 from rfl, Nat.mul_one, Nat.add_zero] at hx63_0); have hf63_0 := hfr63 0; (try simp only [show ((Kd.slice 3 (Kd.int .i64))).sz = 1 from rfl, Nat.mul_one, Nat.add_zero] at hf63_0); clear hcl63 hcc63 hfr63; (try clear hM63); (try simp only [show ((Kd.slice 3 (Kd.int .i64))).sz = 1 from rfl, Nat.mul_one, Nat.add_zero] at HP63); (try simp only [show ((Kd.slice 3 (Kd.int .i64))).sz = 1 from rfl, Nat.mul_one, Nat.add_zero] at HP63)) | ((with_reducible refine gate_store (t := 34) (p := 106) rfl ?_); (try (rw [drewN_self w62]; generalize hq_ : World.drewN w62 _ = w62; have n0_ := Aside0.mk (Kd.N_at hq_ HO_5.out); have n1_ := Aside0.mk (Kd.R_at hq_ HO_32.out); have n2_ := Aside0.mk (Kd.V_at hq_ HL184_0.out); have n3_ := Aside0.mk (Kd.V_at hq_ HL188_0.out); have n4_ := Aside0.mk (blk_at hq_ BK179.out); have n5_ := Aside0.mk (below_at hq_ HB.out); clear hq_ HO_5 HO_32 HL184_0 HL188_0 BK179 HB; have HO_5 := n0_; have HO_32 := n1_; have HL184_0 := n2_; have HL188_0 := n3_; have BK179 := n4_; have HB := n5_; clear n0_ n1_ n2_ n3_ n4_ n5_; (try (have HX63 := Aside0.mk (show Kd.N (Kd.slice 3 (Kd.int .i64)) 34 w62 w.heap.size (fun k_ => (w.heap.size ≤ k_) ∧ some k_ ≠ (.slice (some ad178) t175.length co18 : Value).ownBlock ∧ k_ ≠ gb179) (.slice (some ⟨go54, 0, none⟩) x5_2.length co7) y195 from (by (with_reducible repeat (first | apply Kd.N_alloc | apply Kd.N_drewN | apply Kd.N_drew)); exact HO_5.out)))); (try (obtain ⟨ce63, hcl63, hM63, hcc63, hfr63⟩ := Kd.N_elem HX63.out [] (x10_3 : Int) (lD) (by have h_ : (x10_3 : Int) < ((x5_2.length : Int) : Int) := lD; first | exact h_ | (have e_ := (Kd.N_reads' HO_5.out).1; omega) | simpa using h_))); (try (obtain ⟨ua63_0, uc63_0, rfl, ul63_0, ge63_0⟩ := Kd.FK_slice_open hM63)); (try (have HP63 := Kd.N_seg HX63.out (x10_3 : Int) (lD) (by have h_ : (x10_3 : Int) < ((x5_2.length : Int) : Int) := lD; first | exact h_ | (have e_ := (Kd.N_reads' HO_5.out).1; omega) | simpa using h_) (seg := [.slice none 0 0]) (j := 0) hcl63 hcc63 (show 1 ≤ 1 from by decide) (x' := ([] : List Int)) (Kd.FK_slice_mk (Nat.le_refl _) (Kd.F_nil _ _ _)) (fun _ hk => hk))); (try (have hx63_0 := hcc63 0 _ rfl)); (try (try simp only [show ((Kd.slice 3 (Kd.int .i64))).sz = 1 from rfl, Nat.mul_one, Nat.add_zero] at hx63_0)); (try (have hf63_0 := hfr63 0)); (try (try simp only [show ((Kd.slice 3 (Kd.int .i64))).sz = 1 from rfl, Nat.mul_one, Nat.add_zero] at hf63_0)); (try (clear hcl63 hcc63 hfr63; (try clear hM63))); (try (try simp only [show ((Kd.slice 3 (Kd.int .i64))).sz = 1 from rfl, Nat.mul_one, Nat.add_zero] at HP63)); (try (try simp only [show ((Kd.slice 3 (Kd.int .i64))).sz = 1 from rfl, Nat.mul_one, Nat.add_zero] at HP63)))); refine store_event (t := 34) (p := 106) (v := ?vo_w64) (w1 := (w62.setCell ⟨go54, (x10_3 : Int).toNat, none⟩ (.slice none 0 0))) ?hg ?ho ?hn ?hr ?_; (case ho => rfl); (case hg => rfl); (case hn => rfl); (case hr => first | (go_simp; done) | (go_simp; rfl)); intro w64 hw; have hg : w62.grownBy w64 (some go54) := (by rw [hw]; exact HP63.2); have hp_ : Kd.N (Kd.slice 3 (Kd.int .i64)) 34 w64 w.heap.size (fun k_ => (w.heap.size ≤ k_) ∧ some k_ ≠ (.slice (some ad178) t175.length co18 : Value).ownBlock ∧ k_ ≠ gb179) (.slice (some ⟨go54, 0, none⟩) x5_2.length co7) y196 := (by rw [hw, Ny196.out]; exact HP63.1); clear HP63; have n0_ := Aside0.mk (hp_); have n1_ := Aside0.mk (Kd.R_over' (v := (.slice (some ⟨go54, 0, none⟩) x5_2.length co7)) (lR HO_32.out) (Kd.N_typed HO_5.out) (by decide) hg); have n2_ := Aside0.mk (blk_grown (lK BK179.out) hg (Kd.N_ne HO_5.out BK179.out (by decide))); have n3_ := Aside0.mk (Kd.V_afterv (v := (.slice (some ⟨go54, 0, none⟩) x5_2.length co7)) (v1 := (.slice (some ⟨go54, 0, none⟩) x5_2.length co7)) (ok := (fun k_ => (w.heap.size ≤ k_) ∧ some k_ ≠ (.slice (some ad178) t175.length co18 : Value).ownBlock ∧ k_ ≠ gb179)) (by (with_reducible repeat (first | apply Kd.V_alloc | apply Kd.V_drewN | apply Kd.V_drew)); exact Kd.V_mono HL184_0.out (fun _ hk => ⟨⟨hk.1.1, ⟨hk.1.2.1, hk.1.2.2.2⟩⟩, hk.2⟩)) hg (.inl rfl)); have n4_ := Aside0.mk (Kd.V_afterv (v := (.slice (some ⟨go54, 0, none⟩) x5_2.length co7)) (v1 := (.slice (some ⟨go54, 0, none⟩) x5_2.length co7)) (ok := (fun k_ => (w.heap.size ≤ k_) ∧ some k_ ≠ (.slice (some ad178) t175.length co18 : Value).ownBlock ∧ k_ ≠ gb179)) (by (with_reducible repeat (first | apply Kd.V_alloc | apply Kd.V_drewN | apply Kd.V_drew)); exact Kd.V_mono HL188_0.out (fun _ hk => ⟨⟨hk.1.1, ⟨hk.1.2.1, hk.1.2.2.2⟩⟩, hk.2⟩)) hg (.inl rfl)); have n5_ := Aside0.mk ((by rw [hw]; exact below_set (HB.out) GB54.out : Below w.heap.size w w64)); clear HO_5; clear HO_32; clear BK179; clear HL184_0; clear HL188_0; clear HB; have HO_5 := n0_; have HO_32 := n1_; have BK179 := n2_; have HL184_0 := n3_; have HL188_0 := n4_; have HB := n5_; clear n0_ n1_ n2_ n3_ n4_ n5_; clear hg hw hp_)))
                        (try simp only [← hl5_2])
                        go_roundg k3
                        case measure => have := HK1.out; have := HK2.out; have := HK3.out; omega
                        case rel => exact ⟨(y196), (wrap64 (x34_2 + 1)), lF, H', ⟨by have := HK1.out; have := HK2.out; have := HK3.out; omega⟩, ⟨by (try simp only [hl5_1]); (try simp only [hl5_2]); (with_reducible repeat (first | apply Kd.N_alloc | apply Kd.N_drewN | apply Kd.N_drew)); exact Kd.N_mono HO_5.out (fun _ hk => ⟨hk.1, hk.2.1⟩)⟩, ⟨by (try simp only [hl5_1]); (try simp only [hl5_2]); (with_reducible repeat (first | apply Kd.R_alloc | apply Kd.R_drewN | apply Kd.R_drew)); exact Kd.R_mono HO_32.out (fun _ hk => hk.1)⟩, ⟨lB⟩⟩
                       ·rw [if_neg c53] at H
                        exact absurd H (by simp)
                      ·rw [if_neg c52] at H
                       exact absurd H (by simp)
                     ·rw [if_neg c51] at H
                      exact absurd H (by simp)
                    ·rw [if_neg c50] at H
                     exact absurd H (by simp)
                   ·rw [if_neg c49] at H
                    exact absurd H (by simp)
                  ·rw [if_neg c48] at H
                   exact absurd H (by simp)
          ·rw [if_neg c21] at H
           exact absurd H (by simp)
         ·rw [if_neg c20] at H
          exact absurd H (by simp)
        ·rw [if_neg c19] at H
         have c19b0 : decide (x34_2 < (t175.length : Int)) = false := decide_eq_false c19
         (try simp only [hl5_1, hl5_2] at c19b0)
         clear c19
         have H' := Aside0.mk H
         clear H
         go_wp2
         repeat (go_quiet (fail); try go_wp2)
         go_loopg [14, 15] k2 (fun kq v14 v15 w' => ∃ (x14_3 : List (List Int)) (x15_3 : Int), v15 = .int .i64 x15_3 ∧ Aside0 (spec_l11Chains.l3 kq a0 x5_2 x14_3 x15_3 = some r) ∧ Aside0 (kq ≤ k2) ∧ Aside0 (Kd.N (Kd.slice 3 (Kd.int .i64)) 34 w' w.heap.size (fun k_ => (w.heap.size ≤ k_) ∧ some k_ ≠ (v14 : Value).ownBlock) (.slice Ao7 x5_2.length co7) x5_2) ∧ Aside0 (Kd.N (Kd.slice 3 (Kd.int .i64)) 34 w' w.heap.size (fun k_ => (w.heap.size ≤ k_)) v14 x14_3) ∧ Aside0 (Below w.heap.size w w'))
         case atStart => exact ⟨(([] : List (List Int))), (0), lF, H', ⟨Nat.le_refl _⟩, ⟨by (try simp only [hl5_1]); (try simp only [hl5_2]); (with_reducible repeat (first | apply Kd.N_alloc | apply Kd.N_drewN | apply Kd.N_drew)); exact Kd.N_mono HO_5.out (fun _ hk => ⟨hk.1, (by simp [Value.ownBlock])⟩)⟩, ⟨by (try simp only [hl5_1]); (try simp only [hl5_2]); first | exact Kd.S_nil _ _ _ _ _ | exact Kd.N_nil _ _ _ _ _ | exact Kd.V_nil _ _ _ _ _ | exact Kd.Q_nil _ _ _ _ _ | exact Kd.R_nil _ _ _ _ _⟩, ⟨lB⟩⟩
         case round =>
          clear H'
          try clear c1
          try clear p1
          try clear q1
          try clear hx1
          try clear qi1
          try clear c2
          try clear p2
          try clear c3
          try clear c3b0
          try clear c3b1
          try clear c4
          try clear c4b0
          try clear c4b1
          try clear c5
          try clear p5
          try clear q5
          try clear hx5
          try clear hf5
          try clear c6
          try clear p6
          try clear hx6
          try clear hf6
          try clear c8
          try clear c8b0
          try clear c9
          try clear c9b0
          try clear c10
          try clear c10b0
          try clear c11
          try clear p11
          try clear q11
          try clear hx11
          try clear hf11
          try clear c14
          try clear hx14
          try clear hf14
          try clear p17
          try clear q17
          try clear hx17
          try clear c18
          try clear p18
          try clear q18
          try clear hx18
          try clear qi18
          try clear c19
          try clear c19b0
          try clear c20
          try clear c20b0
          try clear c21
          try clear c21b0
          try clear c24
          try clear c24b0
          try clear c25
          try clear c25b0
          try clear c26
          try clear c26b0
          try clear c27
          try clear c27b0
          try clear c27b1
          try clear c29
          try clear c29b0
          try clear c30
          try clear c30b0
          try clear c31
          try clear c31b0
          try clear c31b1
          try clear c32
          try clear c32b0
          try clear c32b1
          try clear c33
          try clear c33b0
          try clear c33b1
          try clear c36
          try clear c36b0
          try clear c36b1
          try clear c37
          try clear c37b0
          try clear c37b1
          try clear c40
          try clear c40b0
          try clear c40b1
          try clear c42
          try clear c42b0
          try clear c44
          try clear c44b0
          try clear c46
          try clear c46b0
          try clear c46b1
          try clear c48
          try clear c48b0
          try clear c49
          try clear c49b0
          try clear c50
          try clear c50b0
          try clear c51
          try clear c51b0
          try clear c52
          try clear c53
          try clear c54
          try clear p54
          try clear q54
          try clear hx54
          try clear hf54
          try clear c55
          try clear p55
          try clear q55
          try clear hx55
          try clear hf55
          try clear c61
          try clear hx61
          try clear hf61
          try clear c63
          try clear hx63
          try clear hf63
          try clear p64
          try clear hcz23_0 hcz23_1 hcz23_2
          try clear hcz34_0 hcz34_1 hcz34_2
          try clear hcz35_0 hcz35_1 hcz35_2
          try clear hcz38_0 hcz38_1 hcz38_2
          try clear hcz39_0 hcz39_1 hcz39_2
          try clear hcz41_0 hcz41_1 hcz41_2
          try clear hcz43_0 hcz43_1 hcz43_2
          try clear hcz45_0 hcz45_1 hcz45_2
          try clear hcz47_0 hcz47_1 hcz47_2
          try clear hcz56_0 hcz56_1 hcz56_2
          try clear hfz23_0 hfz23_1 hfz23_2
          try clear hfz34_0 hfz34_1 hfz34_2
          try clear hfz35_0 hfz35_1 hfz35_2
          try clear hfz38_0 hfz38_1 hfz38_2
          try clear hfz39_0 hfz39_1 hfz39_2
          try clear hfz41_0 hfz41_1 hfz41_2
          try clear hfz43_0 hfz43_1 hfz43_2
          try clear hfz45_0 hfz45_1 hfz45_2
          try clear hfz47_0 hfz47_1 hfz47_2
          try clear hfz56_0 hfz56_1 hfz56_2
          try clear hx11_0
          try clear hx14_0
          try clear hx178_0
          try clear hx178_1
          try clear hx178_2
          try clear hx180_0
          try clear hx181_0
          try clear hx182_0
          try clear hx183_0
          try clear hx184_0
          try clear hx188_0
          try clear hx54_0
          try clear hx55_0
          try clear hx61_0
          try clear hx63_0
          try clear p1
          try clear p11
          try clear p17
          try clear p178
          try clear p180
          try clear p181
          try clear p182
          try clear p183
          try clear p184
          try clear p188
          try clear p2
          try clear p54
          try clear p55
          try clear p6
          try clear q1
          try clear q11
          try clear q17
          try clear q178
          try clear q180
          try clear q181
          try clear q182
          try clear q183
          try clear q184
          try clear q188
          try clear q54
          try clear q55
          obtain ⟨x14_3, x15_3, rfl, HA, HK3, HO_5, HO_14, HB⟩ := hrel
          cases gk with
          | zero => exact absurd HA.out (by simp [spec_l11Chains.l3])
          | succ k3 =>
           have H := HA.out
           clear HA
           simp only [spec_l11Chains.l3] at H
           by_cases c65 : x15_3 < a0
           ·rw [if_pos c65] at H
            have c65b0 : decide (x15_3 < a0) = true := decide_eq_true c65
            clear c65
            have H' := Aside0.mk H
            clear H
            go_wp2
            repeat (go_quiet (fail); try go_wp2)
            go_loopg [14, 115] k3 (fun kq v14 v115 w' => ∃ (x14_4 : List (List Int)) (x115_4 : Int), v115 = .int .i64 x115_4 ∧ Aside0 (spec_l11Chains.l4 kq a0 x5_2 x14_4 x15_3 x5_2 (x5_2.length : Int) x115_4 = some r) ∧ Aside0 (kq ≤ k3) ∧ Aside0 (Kd.N (Kd.slice 3 (Kd.int .i64)) 34 w' w.heap.size (fun k_ => (w.heap.size ≤ k_) ∧ some k_ ≠ (v14 : Value).ownBlock) (.slice Ao7 x5_2.length co7) x5_2) ∧ Aside0 (Kd.N (Kd.slice 3 (Kd.int .i64)) 34 w' w.heap.size (fun k_ => (w.heap.size ≤ k_)) v14 x14_4) ∧ Aside0 (Kd.N (Kd.slice 3 (Kd.int .i64)) 34 w' w.heap.size (fun k_ => (w.heap.size ≤ k_) ∧ some k_ ≠ (v14 : Value).ownBlock) (.slice Ao7 x5_2.length co7) x5_2) ∧ Aside0 (Below w.heap.size w w'))
            case atStart => exact ⟨(x14_3), (0), lF, H', ⟨Nat.le_refl _⟩, ⟨by (try simp only [hl5_1]); (try simp only [hl5_2]); (with_reducible repeat (first | apply Kd.N_alloc | apply Kd.N_drewN | apply Kd.N_drew)); exact HO_5.out⟩, ⟨by (try simp only [hl5_1]); (try simp only [hl5_2]); (with_reducible repeat (first | apply Kd.N_alloc | apply Kd.N_drewN | apply Kd.N_drew)); exact HO_14.out⟩, ⟨by (try simp only [hl5_1]); (try simp only [hl5_2]); (with_reducible repeat (first | apply Kd.N_alloc | apply Kd.N_drewN | apply Kd.N_drew)); exact HO_5.out⟩, ⟨lB⟩⟩
            case round =>
             clear H'
             try clear c1
             try clear p1
             try clear q1
             try clear hx1
             try clear qi1
             try clear c2
             try clear p2
             try clear c3
             try clear c3b0
             try clear c3b1
             try clear c4
             try clear c4b0
             try clear c4b1
             try clear c5
             try clear p5
             try clear q5
             try clear hx5
             try clear hf5
             try clear c6
             try clear p6
             try clear hx6
             try clear hf6
             try clear c8
             try clear c8b0
             try clear c9
             try clear c9b0
             try clear c10
             try clear c10b0
             try clear c11
             try clear p11
             try clear q11
             try clear hx11
             try clear hf11
             try clear c14
             try clear hx14
             try clear hf14
             try clear p17
             try clear q17
             try clear hx17
             try clear c18
             try clear p18
             try clear q18
             try clear hx18
             try clear qi18
             try clear c19
             try clear c19b0
             try clear c20
             try clear c20b0
             try clear c21
             try clear c21b0
             try clear c24
             try clear c24b0
             try clear c25
             try clear c25b0
             try clear c26
             try clear c26b0
             try clear c27
             try clear c27b0
             try clear c27b1
             try clear c29
             try clear c29b0
             try clear c30
             try clear c30b0
             try clear c31
             try clear c31b0
             try clear c31b1
             try clear c32
             try clear c32b0
             try clear c32b1
             try clear c33
             try clear c33b0
             try clear c33b1
             try clear c36
             try clear c36b0
             try clear c36b1
             try clear c37
             try clear c37b0
             try clear c37b1
             try clear c40
             try clear c40b0
             try clear c40b1
             try clear c42
             try clear c42b0
             try clear c44
             try clear c44b0
             try clear c46
             try clear c46b0
             try clear c46b1
             try clear c48
             try clear c48b0
             try clear c49
             try clear c49b0
             try clear c50
             try clear c50b0
             try clear c51
             try clear c51b0
             try clear c52
             try clear c53
             try clear c54
             try clear p54
             try clear q54
             try clear hx54
             try clear hf54
             try clear c55
             try clear p55
             try clear q55
             try clear hx55
             try clear hf55
             try clear c61
             try clear hx61
             try clear hf61
             try clear c63
             try clear hx63
             try clear hf63
             try clear p64
             try clear c65
             try clear c65b0
             try clear hcz23_0 hcz23_1 hcz23_2
             try clear hcz34_0 hcz34_1 hcz34_2
             try clear hcz35_0 hcz35_1 hcz35_2
             try clear hcz38_0 hcz38_1 hcz38_2
             try clear hcz39_0 hcz39_1 hcz39_2
             try clear hcz41_0 hcz41_1 hcz41_2
             try clear hcz43_0 hcz43_1 hcz43_2
             try clear hcz45_0 hcz45_1 hcz45_2
             try clear hcz47_0 hcz47_1 hcz47_2
             try clear hcz56_0 hcz56_1 hcz56_2
             try clear hfz23_0 hfz23_1 hfz23_2
             try clear hfz34_0 hfz34_1 hfz34_2
             try clear hfz35_0 hfz35_1 hfz35_2
             try clear hfz38_0 hfz38_1 hfz38_2
             try clear hfz39_0 hfz39_1 hfz39_2
             try clear hfz41_0 hfz41_1 hfz41_2
             try clear hfz43_0 hfz43_1 hfz43_2
             try clear hfz45_0 hfz45_1 hfz45_2
             try clear hfz47_0 hfz47_1 hfz47_2
             try clear hfz56_0 hfz56_1 hfz56_2
             try clear hx11_0
             try clear hx14_0
             try clear hx178_0
             try clear hx178_1
             try clear hx178_2
             try clear hx180_0
             try clear hx181_0
             try clear hx182_0
             try clear hx183_0
             try clear hx184_0
             try clear hx188_0
             try clear hx54_0
             try clear hx55_0
             try clear hx61_0
             try clear hx63_0
             try clear p1
             try clear p11
             try clear p17
             try clear p178
             try clear p18
             try clear p180
             try clear p181
             try clear p182
             try clear p183
             try clear p184
             try clear p188
             try clear p2
             try clear p5
             try clear p54
             try clear p55
             try clear p6
             try clear p64
             try clear q1
             try clear q11
             try clear q17
             try clear q178
             try clear q18
             try clear q180
             try clear q181
             try clear q182
             try clear q183
             try clear q184
             try clear q188
             try clear q5
             try clear q54
             try clear q55
             obtain ⟨x14_4, x115_4, rfl, HA, HK4, HO_5, HO_14, HO_113, HB⟩ := hrel
             cases gk with
             | zero => exact absurd HA.out (by simp [spec_l11Chains.l4])
             | succ k4 =>
              have H := HA.out
              clear HA
              simp only [spec_l11Chains.l4] at H
              by_cases c66 : x115_4 < (x5_2.length : Int)
              ·rw [if_pos c66] at H
               have c66b0 : decide (x115_4 < (x5_2.length : Int)) = true := decide_eq_true c66
               (try simp only [hl5_1, hl5_2] at c66b0)
               clear c66
               by_cases c67 : 0 ≤ x115_4
               ·rw [if_pos c67] at H
                have c67b0 : decide (0 ≤ x115_4) = true := decide_eq_true c67
                clear c67
                by_cases c68 : x115_4 < (x5_2.length : Int)
                ·rw [if_pos c68] at H
                 have c68b0 : decide (x115_4 < (x5_2.length : Int)) = true := decide_eq_true c68
                 (try simp only [hl5_1, hl5_2] at c68b0)
                 clear c68
                 by_cases c69 : ((rd_L5 x5_2 x115_4).length : Int) > 0
                 ·rw [if_pos c69] at H
                  have c69b0 : decide (0 < ((rd_L5 x5_2 x115_4).length : Int)) = true := decide_eq_true c69
                  (try simp only [hl5_1, hl5_2] at c69b0)
                  have c69b1 : decide (0 < (rd_L5 x5_2 x115_4).length) = true := decide_eq_true (by omega)
                  (try simp only [hl5_1, hl5_2] at c69b1)
                  clear c69
                  by_cases c70 : 0 < ((rd_L5 x5_2 x115_4).length : Int)
                  ·rw [if_pos c70] at H
                   have c70b0 : decide (0 < ((rd_L5 x5_2 x115_4).length : Int)) = true := decide_eq_true c70
                   (try simp only [hl5_1, hl5_2] at c70b0)
                   have c70b1 : decide (0 < (rd_L5 x5_2 x115_4).length) = true := decide_eq_true (by omega)
                   (try simp only [hl5_1, hl5_2] at c70b1)
                   clear c70
                   by_cases c71 : (rd (rd_L5 x5_2 x115_4) 0) = x15_3
                   ·rw [if_pos c71] at H
                    have c71b0 : ((rd (rd_L5 x5_2 x115_4) 0) == x15_3) = true := beq_iff_eq.mpr c71
                    have c71b1 : ((rd (rd_L5 x5_2 x115_4) 0) != x15_3) = false := bne_eq_false_iff_eq.mpr c71
                    clear c71
                    by_cases c72 : x14_4.length < 5864062014805
                    ·rw [if_pos c72] at H
                     have LMc72 := Aside0.mk c72
                     clear c72
                     obtain ⟨y199, hy199⟩ : ∃ y_ : List (List Int), y_ = (x14_4 ++ [rd_L5 x5_2 x115_4]) := ⟨_, rfl⟩
                     replace H : (spec_l11Chains.l4 k4 a0 x5_2 y199 x15_3 x5_2 (x5_2.length : Int) (wrap64 (x115_4 + 1))) = some r := by first | (rw [hy199]; with_reducible exact H) | (have H2_ := (Option.bind_some _ _).symm.trans H; rw [hy199]; with_reducible exact H2_) | (have H2_ := (Option.bind_some _ _).symm.trans H; with_reducible exact H2_) | with_reducible exact H | (rw [hy199]; exact H) | exact H
                     have Ny199 := Aside0.mk hy199
                     clear hy199
                     have H' := Aside0.mk H
                     clear H
                     have p197 : 0 ≤ (x115_4 : Int) := lD
                     have q197 : x115_4 < (x5_2.length : Int) := lD
                     obtain ⟨ad197, A197_0, c197_0, e197, hx197_0, hl197_0, hi197_0⟩ := at_L5 (Kd.N_reads' HO_113.out).2.2 x115_4 p197 q197
                     cases e197
                     obtain ⟨ce197, hce197, hMe197, hcc197⟩ := Kd.N_get HO_113.out [] x115_4 p197 (by first | exact q197 | exact lD | (have e_ := (Kd.N_reads' HO_113.out).1; omega))
                     obtain ⟨ua197_0, uc197_0, rfl, ul197_0, ge197_0⟩ := Kd.FK_slice_open hMe197
                     have hv197_0 := hcc197 0 _ rfl
                     rw [Nat.add_zero, show ((Kd.slice 3 (Kd.int .i64))).sz = 1 from rfl, Nat.mul_one] at hv197_0
                     replace hv197_0 := Option.some.inj (hv197_0.symm.trans hx197_0)
                     injection hv197_0 with hva_ hvn_ hvc_
                     rw [hva_] at ge197_0
                     rw [hvc_] at ul197_0
                     have HL197_0 := Aside0.mk (show Kd.V (Kd.int .i64) 3 _ w.heap.size _ _ (rd_L5 x5_2 x115_4) from Kd.V_mk ul197_0 ge197_0)
                     clear hva_ hvn_ hvc_ ge197_0 ul197_0
                     clear hcc197 hce197
                     have HR197_0 := Aside0.mk hi197_0
                     have HC197_0 := Aside0.mk hl197_0
                     clear hi197_0 hl197_0
                     replace p197 := eq_true p197
                     replace q197 := eq_true q197
                     have p198 : 0 ≤ (0 : Int) := (by omega)
                     have q198 : 0 < ((rd_L5 x5_2 x115_4).length : Int) := lD
                     obtain ⟨ad198, e198, hx198_0⟩ := Kd.at_int (by repeat (first | (with_reducible exact HR197_0.out) | (with_reducible refine Kd.C_alloc ?_ _) | (with_reducible refine Kd.C_drewN ?_ _) | (with_reducible refine Kd.C_drew ?_) | exact HR197_0.out | exact (Kd.V_reads' HL197_0.out).2.2)) 0 p198 q198
                     cases e198
                     have qi198 : (0 < (rd_L5 x5_2 x115_4).length) = True := eq_true (by omega)
                     (try rw [show ((0 : Int)).toNat = 0 from rfl] at hx198_0)
                     (try rw [Addr.add_zero'] at hx198_0)
                     replace p198 := eq_true p198
                     replace q198 := eq_true q198
                     go_wp2_with (first | ((with_reducible refine gate_builtin (b := .append) (xs := #[.tmp 129, .tmp 131]) rfl ?_); (try (refine gate_guard (by rfl) ?_; dsimp only)); at_builtin; refine Kd.N_append (Kd.slice 3 (Kd.int .i64)) (w0 := w) w.heap.size rfl (.tmp 129) (.tmp 131) 24 34 (.slice none 0 0) 24 rfl Try.underlying24 info34 rfl (by decide) (by omega) u14 x14_4 (rd_L5 x5_2 x115_4) [.slice (some ad198) (rd_L5 x5_2 x115_4).length c197_0] (fun k_ => (w.heap.size ≤ k_)) (fun k_ => ((fun k_ => (w.heap.size ≤ k_))) k_ ∧ some k_ ≠ (u14 : Value).ownBlock) rfl rfl ?aP (fun _ hk => hk) ?aF ?aO ?aB ?aS ?aL ?_; (case aP => exact (Kd.FK_slice_mk (Kd.V_reads' (Kd.V_mono (ok' := (fun k_ => ((fun k_ => (w.heap.size ≤ k_))) k_ ∧ some k_ ≠ (u14 : Value).ownBlock)) (HL197_0.out) (fun k_ hk => ⟨hk.1.1, hk.1.2⟩))).2.1 (Kd.V_F (Kd.V_mono (ok' := (fun k_ => ((fun k_ => (w.heap.size ≤ k_))) k_ ∧ some k_ ≠ (u14 : Value).ownBlock)) (HL197_0.out) (fun k_ hk => ⟨hk.1.1, hk.1.2⟩))))); (case aB => exact lB); (case aF => exact (fun k_ hk => (Nat.le_trans (below_size lB) hk))); (case aO => exact (by (with_reducible repeat (first | apply Kd.N_alloc | apply Kd.N_drewN | apply Kd.N_drew)); exact HO_14.out)); (case aS => exact (below_size lB)); (case aL => have := LMc72.out; omega); intro v200 w73 ho hb hg hat; rw [← Ny199.out] at ho; have n0_ := Aside0.mk (Kd.N_afterv (ok := (fun k_ => (w.heap.size ≤ k_))) (by (with_reducible repeat (first | apply Kd.N_alloc | apply Kd.N_drewN | apply Kd.N_drew)); exact HO_5.out) hg hat); have n1_ := Aside0.mk (Kd.N_afterv (ok := (fun k_ => (w.heap.size ≤ k_))) (by (with_reducible repeat (first | apply Kd.N_alloc | apply Kd.N_drewN | apply Kd.N_drew)); exact HO_113.out) hg hat); have n2_ := Aside0.mk (Kd.V_afterv (ok := (fun k_ => (w.heap.size ≤ k_) ∧ some k_ ≠ (.slice (some ad197) x5_2.length co7 : Value).ownBlock)) (by (with_reducible repeat (first | apply Kd.V_alloc | apply Kd.V_drewN | apply Kd.V_drew)); exact Kd.V_mono HL197_0.out (fun _ hk => ⟨⟨hk.1.1, hk.2⟩, hk.1.2⟩)) hg hat); have n3_ := Aside0.mk (hb); have n4_ := Aside0.mk (ho); clear HO_5; clear HO_113; clear HL197_0; clear HB; clear HO_14; have HO_5 := n0_; have HO_113 := n1_; have HL197_0 := n2_; have HB := n3_; have HO201 := n4_; clear n0_ n1_ n2_ n3_ n4_; clear ho hb hg hat))
                     repeat (go_quiet (fail); try go_wp2_with (first | ((with_reducible refine gate_builtin (b := .append) (xs := #[.tmp 129, .tmp 131]) rfl ?_); (try (refine gate_guard (by rfl) ?_; dsimp only)); at_builtin; refine Kd.N_append (Kd.slice 3 (Kd.int .i64)) (w0 := w) w.heap.size rfl (.tmp 129) (.tmp 131) 24 34 (.slice none 0 0) 24 rfl Try.underlying24 info34 rfl (by decide) (by omega) u14 x14_4 (rd_L5 x5_2 x115_4) [.slice (some ad198) (rd_L5 x5_2 x115_4).length c197_0] (fun k_ => (w.heap.size ≤ k_)) (fun k_ => ((fun k_ => (w.heap.size ≤ k_))) k_ ∧ some k_ ≠ (u14 : Value).ownBlock) rfl rfl ?aP (fun _ hk => hk) ?aF ?aO ?aB ?aS ?aL ?_; (case aP => exact (Kd.FK_slice_mk (Kd.V_reads' (Kd.V_mono (ok' := (fun k_ => ((fun k_ => (w.heap.size ≤ k_))) k_ ∧ some k_ ≠ (u14 : Value).ownBlock)) (HL197_0.out) (fun k_ hk => ⟨hk.1.1, hk.1.2⟩))).2.1 (Kd.V_F (Kd.V_mono (ok' := (fun k_ => ((fun k_ => (w.heap.size ≤ k_))) k_ ∧ some k_ ≠ (u14 : Value).ownBlock)) (HL197_0.out) (fun k_ hk => ⟨hk.1.1, hk.1.2⟩))))); (case aB => exact lB); (case aF => exact (fun k_ hk => (Nat.le_trans (below_size lB) hk))); (case aO => exact (by (with_reducible repeat (first | apply Kd.N_alloc | apply Kd.N_drewN | apply Kd.N_drew)); exact HO_14.out)); (case aS => exact (below_size lB)); (case aL => have := LMc72.out; omega); intro v200 w73 ho hb hg hat; rw [← Ny199.out] at ho; have n0_ := Aside0.mk (Kd.N_afterv (ok := (fun k_ => (w.heap.size ≤ k_))) (by (with_reducible repeat (first | apply Kd.N_alloc | apply Kd.N_drewN | apply Kd.N_drew)); exact HO_5.out) hg hat); have n1_ := Aside0.mk (Kd.N_afterv (ok := (fun k_ => (w.heap.size ≤ k_))) (by (with_reducible repeat (first | apply Kd.N_alloc | apply Kd.N_drewN | apply Kd.N_drew)); exact HO_113.out) hg hat); have n2_ := Aside0.mk (Kd.V_afterv (ok := (fun k_ => (w.heap.size ≤ k_) ∧ some k_ ≠ (.slice (some ad197) x5_2.length co7 : Value).ownBlock)) (by (with_reducible repeat (first | apply Kd.V_alloc | apply Kd.V_drewN | apply Kd.V_drew)); exact Kd.V_mono HL197_0.out (fun _ hk => ⟨⟨hk.1.1, hk.2⟩, hk.1.2⟩)) hg hat); have n3_ := Aside0.mk (hb); have n4_ := Aside0.mk (ho); clear HO_5; clear HO_113; clear HL197_0; clear HB; clear HO_14; have HO_5 := n0_; have HO_113 := n1_; have HL197_0 := n2_; have HB := n3_; have HO201 := n4_; clear n0_ n1_ n2_ n3_ n4_; clear ho hb hg hat)))
                     go_roundg k4
                     case measure => have := HK1.out; have := HK2.out; have := HK3.out; have := HK4.out; omega
                     case rel => exact ⟨(y199), (wrap64 (x115_4 + 1)), lF, H', ⟨by have := HK1.out; have := HK2.out; have := HK3.out; have := HK4.out; omega⟩, ⟨by (try simp only [hl5_1]); (try simp only [hl5_2]); (with_reducible repeat (first | apply Kd.N_alloc | apply Kd.N_drewN | apply Kd.N_drew)); exact HO_5.out⟩, ⟨by (try simp only [hl5_1]); (try simp only [hl5_2]); (with_reducible repeat (first | apply Kd.N_alloc | apply Kd.N_drewN | apply Kd.N_drew)); exact HO201.out⟩, ⟨by (try simp only [hl5_1]); (try simp only [hl5_2]); (with_reducible repeat (first | apply Kd.N_alloc | apply Kd.N_drewN | apply Kd.N_drew)); exact HO_113.out⟩, ⟨lB⟩⟩
                    ·rw [if_neg c72] at H
                     exact absurd H (by simp)
                   ·rw [if_neg c71] at H
                    have c71b0 : ((rd (rd_L5 x5_2 x115_4) 0) == x15_3) = false := beq_eq_false_iff_ne.mpr c71
                    have c71b1 : ((rd (rd_L5 x5_2 x115_4) 0) != x15_3) = true := bne_iff_ne.mpr c71
                    have H' := Aside0.mk H
                    clear H
                    have p197 : 0 ≤ (x115_4 : Int) := lD
                    have q197 : x115_4 < (x5_2.length : Int) := lD
                    obtain ⟨ad197, A197_0, c197_0, e197, hx197_0, hl197_0, hi197_0⟩ := at_L5 (Kd.N_reads' HO_113.out).2.2 x115_4 p197 q197
                    cases e197
                    obtain ⟨ce197, hce197, hMe197, hcc197⟩ := Kd.N_get HO_113.out [] x115_4 p197 (by first | exact q197 | exact lD | (have e_ := (Kd.N_reads' HO_113.out).1; omega))
                    obtain ⟨ua197_0, uc197_0, rfl, ul197_0, ge197_0⟩ := Kd.FK_slice_open hMe197
                    have hv197_0 := hcc197 0 _ rfl
                    rw [Nat.add_zero, show ((Kd.slice 3 (Kd.int .i64))).sz = 1 from rfl, Nat.mul_one] at hv197_0
                    replace hv197_0 := Option.some.inj (hv197_0.symm.trans hx197_0)
                    injection hv197_0 with hva_ hvn_ hvc_
                    rw [hva_] at ge197_0
                    rw [hvc_] at ul197_0
                    have HL197_0 := Aside0.mk (show Kd.V (Kd.int .i64) 3 _ w.heap.size _ _ (rd_L5 x5_2 x115_4) from Kd.V_mk ul197_0 ge197_0)
                    clear hva_ hvn_ hvc_ ge197_0 ul197_0
                    clear hcc197 hce197
                    have HR197_0 := Aside0.mk hi197_0
                    have HC197_0 := Aside0.mk hl197_0
                    clear hi197_0 hl197_0
                    replace p197 := eq_true p197
                    replace q197 := eq_true q197
                    have p198 : 0 ≤ (0 : Int) := (by omega)
                    have q198 : 0 < ((rd_L5 x5_2 x115_4).length : Int) := lD
                    obtain ⟨ad198, e198, hx198_0⟩ := Kd.at_int (by repeat (first | (with_reducible exact HR197_0.out) | (with_reducible refine Kd.C_alloc ?_ _) | (with_reducible refine Kd.C_drewN ?_ _) | (with_reducible refine Kd.C_drew ?_) | exact HR197_0.out | exact (Kd.V_reads' HL197_0.out).2.2)) 0 p198 q198
                    cases e198
                    have qi198 : (0 < (rd_L5 x5_2 x115_4).length) = True := eq_true (by omega)
                    (try rw [show ((0 : Int)).toNat = 0 from rfl] at hx198_0)
                    (try rw [Addr.add_zero'] at hx198_0)
                    replace p198 := eq_true p198
                    replace q198 := eq_true q198
                    go_wp2
                    repeat (go_quiet (fail); try go_wp2)
                    go_roundg k4
                    case measure => have := HK1.out; have := HK2.out; have := HK3.out; have := HK4.out; omega
                    case rel => exact ⟨(x14_4), (wrap64 (x115_4 + 1)), lF, H', ⟨by have := HK1.out; have := HK2.out; have := HK3.out; have := HK4.out; omega⟩, ⟨by (try simp only [hl5_1]); (try simp only [hl5_2]); (with_reducible repeat (first | apply Kd.N_alloc | apply Kd.N_drewN | apply Kd.N_drew)); exact HO_5.out⟩, ⟨by (try simp only [hl5_1]); (try simp only [hl5_2]); (with_reducible repeat (first | apply Kd.N_alloc | apply Kd.N_drewN | apply Kd.N_drew)); exact HO_14.out⟩, ⟨by (try simp only [hl5_1]); (try simp only [hl5_2]); (with_reducible repeat (first | apply Kd.N_alloc | apply Kd.N_drewN | apply Kd.N_drew)); exact HO_113.out⟩, ⟨lB⟩⟩
                  ·rw [if_neg c70] at H
                   exact absurd H (by simp)
                 ·rw [if_neg c69] at H
                  have c69b0 : decide (0 < ((rd_L5 x5_2 x115_4).length : Int)) = false := decide_eq_false c69
                  (try simp only [hl5_1, hl5_2] at c69b0)
                  have c69b1 : decide (0 < (rd_L5 x5_2 x115_4).length) = false := decide_eq_false (by omega)
                  (try simp only [hl5_1, hl5_2] at c69b1)
                  clear c69
                  have H' := Aside0.mk H
                  clear H
                  have p197 : 0 ≤ (x115_4 : Int) := lD
                  have q197 : x115_4 < (x5_2.length : Int) := lD
                  obtain ⟨ad197, A197_0, c197_0, e197, hx197_0, hl197_0, hi197_0⟩ := at_L5 (Kd.N_reads' HO_113.out).2.2 x115_4 p197 q197
                  cases e197
                  obtain ⟨ce197, hce197, hMe197, hcc197⟩ := Kd.N_get HO_113.out [] x115_4 p197 (by first | exact q197 | exact lD | (have e_ := (Kd.N_reads' HO_113.out).1; omega))
                  obtain ⟨ua197_0, uc197_0, rfl, ul197_0, ge197_0⟩ := Kd.FK_slice_open hMe197
                  have hv197_0 := hcc197 0 _ rfl
                  rw [Nat.add_zero, show ((Kd.slice 3 (Kd.int .i64))).sz = 1 from rfl, Nat.mul_one] at hv197_0
                  replace hv197_0 := Option.some.inj (hv197_0.symm.trans hx197_0)
                  injection hv197_0 with hva_ hvn_ hvc_
                  rw [hva_] at ge197_0
                  rw [hvc_] at ul197_0
                  have HL197_0 := Aside0.mk (show Kd.V (Kd.int .i64) 3 _ w.heap.size _ _ (rd_L5 x5_2 x115_4) from Kd.V_mk ul197_0 ge197_0)
                  clear hva_ hvn_ hvc_ ge197_0 ul197_0
                  clear hcc197 hce197
                  have HR197_0 := Aside0.mk hi197_0
                  have HC197_0 := Aside0.mk hl197_0
                  clear hi197_0 hl197_0
                  replace p197 := eq_true p197
                  replace q197 := eq_true q197
                  go_wp2
                  repeat (go_quiet (fail); try go_wp2)
                  go_roundg k4
                  case measure => have := HK1.out; have := HK2.out; have := HK3.out; have := HK4.out; omega
                  case rel => exact ⟨(x14_4), (wrap64 (x115_4 + 1)), lF, H', ⟨by have := HK1.out; have := HK2.out; have := HK3.out; have := HK4.out; omega⟩, ⟨by (try simp only [hl5_1]); (try simp only [hl5_2]); (with_reducible repeat (first | apply Kd.N_alloc | apply Kd.N_drewN | apply Kd.N_drew)); exact HO_5.out⟩, ⟨by (try simp only [hl5_1]); (try simp only [hl5_2]); (with_reducible repeat (first | apply Kd.N_alloc | apply Kd.N_drewN | apply Kd.N_drew)); exact HO_14.out⟩, ⟨by (try simp only [hl5_1]); (try simp only [hl5_2]); (with_reducible repeat (first | apply Kd.N_alloc | apply Kd.N_drewN | apply Kd.N_drew)); exact HO_113.out⟩, ⟨lB⟩⟩
                ·rw [if_neg c68] at H
                 exact absurd H (by simp)
               ·rw [if_neg c67] at H
                exact absurd H (by simp)
              ·rw [if_neg c66] at H
               have c66b0 : decide (x115_4 < (x5_2.length : Int)) = false := decide_eq_false c66
               (try simp only [hl5_1, hl5_2] at c66b0)
               clear c66
               have H' := Aside0.mk H
               clear H
               go_wp2
               repeat (go_quiet (fail); try go_wp2)
               go_roundg k4
               case measure => have := HK1.out; have := HK2.out; have := HK3.out; have := HK4.out; omega
               case rel => exact ⟨(x14_4), (wrap64 (x15_3 + 1)), lF, H', ⟨by have := HK1.out; have := HK2.out; have := HK3.out; have := HK4.out; omega⟩, ⟨by (try simp only [hl5_1]); (try simp only [hl5_2]); (with_reducible repeat (first | apply Kd.N_alloc | apply Kd.N_drewN | apply Kd.N_drew)); exact HO_5.out⟩, ⟨by (try simp only [hl5_1]); (try simp only [hl5_2]); (with_reducible repeat (first | apply Kd.N_alloc | apply Kd.N_drewN | apply Kd.N_drew)); exact HO_14.out⟩, ⟨lB⟩⟩
           ·rw [if_neg c65] at H
            have c65b0 : decide (x15_3 < a0) = false := decide_eq_false c65
            clear c65
            obtain rfl := Option.some.inj H
            go_wp2
            repeat (go_quiet (fail); try go_wp2)
            go_ret
            exact ⟨_, lE, by (with_reducible repeat (first | apply Kd.N_alloc | apply Kd.N_drewN | apply Kd.N_drew)); exact HO_14.out, lB⟩
  ·rw [if_neg c4] at H
   exact absurd H (by simp)
 ·rw [if_neg c3] at H
  exact absurd H (by simp)

end Go.Proofs.Ytpnhlccdhflogaa.Q
