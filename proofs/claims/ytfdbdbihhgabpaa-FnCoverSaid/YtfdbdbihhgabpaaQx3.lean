-- Written by the program wip/tools/pr.py of this claim's session, over the kit's print.py.
import Derived.Test.YtfdbdbihhgabpaaQx0
import Derived.Test.YtfdbdbihhgabpaaQx2
namespace Go.Proofs.Ytfdbdbihhgabpaa.Q
open Go.RowKit Go.Proofs.YtfdbdbihhgabpaaW.PrintWords Go.Proofs.YtfdbdbihhgabpaaW.PrintLast Go.Proofs.YtfdbdbihhgabpaaW.PrintMore
attribute [local go_sem] max2_int min2_int max_two min_two max_three min_three max_four min_four   -- for this text's walks alone
set_option linter.unusedVariables false
set_option linter.unusedSimpArgs false

/-! ### spec_l9Best: function 32 -/
mutual
def spec_l9Best.l0 : Nat → List Int → List (S57) → List Int → List Int → Int → Option (List Int × List Int)
 | 0, _, _, _, _, _ => none
 | k + 1, x0, x1, x6, x7, x8 => if x8 ≥ 0 then (if 0 ≤ x8 then (if x8 < (x7.length : Int) then (spec_l9Best.l1 k x0 x1 x6 (x7.set (x8 : Int).toNat (-1)) x8 x1 (x1.length : Int) 0) else (none)) else (none)) else (some (x6, x7))
def spec_l9Best.l1 : Nat → List Int → List (S57) → List Int → List Int → Int → List (S57) → Int → Int → Option (List Int × List Int)
 | 0, _, _, _, _, _, _, _, _ => none
 | k + 1, x0, x1, x6, x7, x8, x32, x33, x34 => if x34 < x33 then (if 0 ≤ x34 then (if x34 < (x32.length : Int) then ((spec_l9Fits.f k x0 x8 ((rd_T57 x32 x34).f0) ((rd_T57 x32 x34).f1)).bind fun bt134 => (spec_l9Best.l2 k x0 x1 x6 x7 x8 x34 bt134.2 ((rd_T57 x32 x34).f1) x32 x33 x34 bt134.1 (bt134.1.length : Int) 0)) else (none)) else (none)) else (spec_l9Best.l0 k x0 x1 x6 x7 (wrap64 (x8 - 1)))
def spec_l9Best.l2 : Nat → List Int → List (S57) → List Int → List Int → Int → Int → Bool → Int → List (S57) → Int → Int → List Int → Int → Int → Option (List Int × List Int)
 | 0, _, _, _, _, _, _, _, _, _, _, _, _, _, _ => none
 | k + 1, x0, x1, x6, x7, x8, x9, x12, x13, x32, x33, x34, x48, x49, x50 => if x50 < x49 then (if 0 ≤ x50 then (if x50 < (x48.length : Int) then (if x12 = true then (if 0 ≤ (rd x48 x50) then (if (rd x48 x50) < (x7.length : Int) then (if (rd x48 x50) < (x6.length : Int) then (spec_l9Best.l2 k x0 x1 x6 x7 x8 x9 (decide ((rd x7 (rd x48 x50)) ≥ 0)) (wrap64 (x13 + (rd x6 (rd x48 x50)))) x32 x33 x34 x48 x49 (wrap64 (x50 + 1))) else (none)) else (none)) else (none)) else (if 0 ≤ (rd x48 x50) then (if (rd x48 x50) < (x6.length : Int) then (spec_l9Best.l2 k x0 x1 x6 x7 x8 x9 false (wrap64 (x13 + (rd x6 (rd x48 x50)))) x32 x33 x34 x48 x49 (wrap64 (x50 + 1))) else (none)) else (none))) else (none)) else (none)) else (if x12 = true then (if 0 ≤ x8 then (if x8 < (x7.length : Int) then (if (rd x7 x8) < 0 then (if x8 < (x6.length : Int) then (spec_l9Best.l1 k x0 x1 (x6.set (x8 : Int).toNat x13) (x7.set (x8 : Int).toNat x9) x8 x32 x33 (wrap64 (x34 + 1))) else (none)) else (if x8 < (x6.length : Int) then (if x13 < (rd x6 x8) then (spec_l9Best.l1 k x0 x1 (x6.set (x8 : Int).toNat x13) (x7.set (x8 : Int).toNat x9) x8 x32 x33 (wrap64 (x34 + 1))) else (spec_l9Best.l1 k x0 x1 x6 x7 x8 x32 x33 (wrap64 (x34 + 1)))) else (none))) else (none)) else (none)) else (spec_l9Best.l1 k x0 x1 x6 x7 x8 x32 x33 (wrap64 (x34 + 1))))
end
def spec_l9Best.f (k : Nat) (l0 : List Int) (l1 : List (S57)) : Option (List Int × List Int) := if 0 ≤ (l0.length : Int) then (if ((l0.length : Int) : Int).toNat ≤ 35184372088832 then (spec_l9Best.l0 k l0 l1 (List.replicate ((l0.length : Int) : Int).toNat 0) (List.replicate ((l0.length : Int) : Int).toNat 0) (wrap64 ((l0.length : Int) - 1))) else (none)) else (none)
theorem spec_l9Best.mono_l : ∀ k, (∀ y0 y1 y2 y3 y4, LeO (spec_l9Best.l0 k y0 y1 y2 y3 y4) (spec_l9Best.l0 (k + 1) y0 y1 y2 y3 y4)) ∧ (∀ y0 y1 y2 y3 y4 y5 y6 y7, LeO (spec_l9Best.l1 k y0 y1 y2 y3 y4 y5 y6 y7) (spec_l9Best.l1 (k + 1) y0 y1 y2 y3 y4 y5 y6 y7)) ∧ (∀ y0 y1 y2 y3 y4 y5 y6 y7 y8 y9 y10 y11 y12 y13, LeO (spec_l9Best.l2 k y0 y1 y2 y3 y4 y5 y6 y7 y8 y9 y10 y11 y12 y13) (spec_l9Best.l2 (k + 1) y0 y1 y2 y3 y4 y5 y6 y7 y8 y9 y10 y11 y12 y13))
 | 0 => ⟨fun _ _ _ _ _ r h => by simp [spec_l9Best.l0] at h, fun _ _ _ _ _ _ _ _ r h => by simp [spec_l9Best.l1] at h, fun _ _ _ _ _ _ _ _ _ _ _ _ _ _ r h => by simp [spec_l9Best.l2] at h⟩
 | k + 1 => by
  obtain ⟨ih0, ih1, ih2⟩ := spec_l9Best.mono_l k
  refine ⟨?_, ?_, ?_⟩
  ·intro y0 y1 y2 y3 y4
   unfold spec_l9Best.l0
   repeat' first
   | with_reducible apply ih0
   | with_reducible apply ih1
   | with_reducible apply ih2
   | with_reducible apply spec_l9Fits.mono
   | (with_reducible exact LeO.refl _)
   | (with_reducible exact LeO.none _)
   | (with_reducible refine LeO.ite ?_ ?_)
   | (with_reducible refine LeO.bind ?_ (fun _ => ?_))
   | apply ih0
   | apply ih1
   | apply ih2
   | apply spec_l9Fits.mono
   | exact LeO.none _
   | refine LeO.ite ?_ ?_
   | refine LeO.bind ?_ (fun _ => ?_)
  ·intro y0 y1 y2 y3 y4 y5 y6 y7
   unfold spec_l9Best.l1
   repeat' first
   | with_reducible apply ih0
   | with_reducible apply ih1
   | with_reducible apply ih2
   | with_reducible apply spec_l9Fits.mono
   | (with_reducible exact LeO.refl _)
   | (with_reducible exact LeO.none _)
   | (with_reducible refine LeO.ite ?_ ?_)
   | (with_reducible refine LeO.bind ?_ (fun _ => ?_))
   | apply ih0
   | apply ih1
   | apply ih2
   | apply spec_l9Fits.mono
   | exact LeO.none _
   | refine LeO.ite ?_ ?_
   | refine LeO.bind ?_ (fun _ => ?_)
  ·intro y0 y1 y2 y3 y4 y5 y6 y7 y8 y9 y10 y11 y12 y13
   unfold spec_l9Best.l2
   repeat' first
   | with_reducible apply ih0
   | with_reducible apply ih1
   | with_reducible apply ih2
   | with_reducible apply spec_l9Fits.mono
   | (with_reducible exact LeO.refl _)
   | (with_reducible exact LeO.none _)
   | (with_reducible refine LeO.ite ?_ ?_)
   | (with_reducible refine LeO.bind ?_ (fun _ => ?_))
   | apply ih0
   | apply ih1
   | apply ih2
   | apply spec_l9Fits.mono
   | exact LeO.none _
   | refine LeO.ite ?_ ?_
   | refine LeO.bind ?_ (fun _ => ?_)
theorem spec_l9Best.mono : ∀ a0 a1 k, LeO (spec_l9Best.f k a0 a1) (spec_l9Best.f (k + 1) a0 a1) := by
 intro a0 a1 k
 obtain ⟨ih0, ih1, ih2⟩ := spec_l9Best.mono_l k
 unfold spec_l9Best.f
 repeat' first
   | with_reducible apply ih0
   | with_reducible apply ih1
   | with_reducible apply ih2
   | with_reducible apply spec_l9Fits.mono
   | (with_reducible exact LeO.refl _)
   | (with_reducible exact LeO.none _)
   | (with_reducible refine LeO.ite ?_ ?_)
   | (with_reducible refine LeO.bind ?_ (fun _ => ?_))
   | apply ih0
   | apply ih1
   | apply ih2
   | apply spec_l9Fits.mono
   | exact LeO.none _
   | refine LeO.ite ?_ ?_
   | refine LeO.bind ?_ (fun _ => ?_)
set_option maxHeartbeats 8000000 in
set_option maxRecDepth 100000 in
theorem spec_l9Best.calls (k : Nat) (A0 : Option Addr) (c0 : Nat) (l0 : List Int) (A1 : Option Addr) (c1 : Nat) (l1 : List (S57)) (r1 : List Int) (r2 : List Int) (w : World) (hr0 : Kd.C (Kd.int .i64) w A0 l0.length l0) (hc0 : l0.length ≤ c0) (hr1 : Kd.C k57 w A1 l1.length l1) (hc1 : l1.length ≤ c1) (h : spec_l9Best.f k l0 l1 = some (r1, r2)) :
  Calls Try.prog 32 #[.slice A0 l0.length c0, .slice A1 l1.length c1] w fun e w' => ∃ v0_ v1_ : Value, e = .returned (.tuple #[v0_, v1_]) ∧ Kd.R (Kd.int .i64) 3 w' w.heap.size (fun k_ => some k_ ≠ (v1_ : Value).ownBlock) v0_ r1 ∧ Kd.R (Kd.int .i64) 3 w' w.heap.size (fun k_ => some k_ ≠ (v0_ : Value).ownBlock) v1_ r2 ∧ Below w.heap.size w w' := by
 have hu57 := Try.underlying57
 have HR0 := Aside0.mk hr0
 have HC0 := Aside0.mk hc0
 clear hr0 hc0
 have HR1 := Aside0.mk hr1
 have HC1 := Aside0.mk hc1
 clear hr1 hc1
 have HB := Aside0.mk (Below.refl w.heap.size w)
 have H : (if 0 ≤ (l0.length : Int) then (if ((l0.length : Int) : Int).toNat ≤ 35184372088832 then (spec_l9Best.l0 k l0 l1 (List.replicate ((l0.length : Int) : Int).toNat 0) (List.replicate ((l0.length : Int) : Int).toNat 0) (wrap64 ((l0.length : Int) - 1))) else (none)) else (none)) = some (r1, r2) := h
 clear h
 by_cases c3 : 0 ≤ (l0.length : Int)
 ·rw [if_pos c3] at H
  have c3b0 := eq_true c3
  have c3b1 : decide (0 ≤ (l0.length : Int)) = true := decide_eq_true c3
  clear c3
  by_cases c4 : ((l0.length : Int) : Int).toNat ≤ 35184372088832
  ·rw [if_pos c4] at H
   have c4b0 := eq_true c4
   have c4b1 : decide (((l0.length : Int) : Int).toNat ≤ 35184372088832) = true := decide_eq_true c4
   clear c4
   obtain ⟨y125, hy125⟩ : ∃ y_ : List Int, y_ = (List.replicate ((l0.length : Int) : Int).toNat 0) := ⟨_, rfl⟩
   replace H : (spec_l9Best.l0 k l0 l1 y125 (List.replicate ((l0.length : Int) : Int).toNat 0) (wrap64 ((l0.length : Int) - 1))) = some (r1, r2) := by first | (rw [hy125]; with_reducible exact H) | (have H2_ := (Option.bind_some _ _).symm.trans H; rw [hy125]; with_reducible exact H2_) | (have H2_ := (Option.bind_some _ _).symm.trans H; with_reducible exact H2_) | with_reducible exact H | (rw [hy125]; exact H) | exact H
   have Ny125 := Aside0.mk hy125
   clear hy125
   obtain ⟨y128, hy128⟩ : ∃ y_ : List Int, y_ = (List.replicate ((l0.length : Int) : Int).toNat 0) := ⟨_, rfl⟩
   replace H : (spec_l9Best.l0 k l0 l1 y125 y128 (wrap64 ((l0.length : Int) - 1))) = some (r1, r2) := by first | (rw [hy128]; with_reducible exact H) | (have H2_ := (Option.bind_some _ _).symm.trans H; rw [hy128]; with_reducible exact H2_) | (have H2_ := (Option.bind_some _ _).symm.trans H; with_reducible exact H2_) | with_reducible exact H | (rw [hy128]; exact H) | exact H
   have Ny128 := Aside0.mk hy128
   clear hy128
   have H' := Aside0.mk H
   clear H
   go_enter Try.func32, Try.ntmps32
   go_wp2_with (first | ((with_reducible refine gate_dst (N := 18) rfl ?_); refine Kd.R_make (Kd.int .i64) _ 3 rfl (N := 18) rfl 22 _ _ rfl (l0.length : Int) rfl rfl Try.underlying22 (.int .i64 0) 8 info3 rfl (by decide) (by omega) 0 (ok := fun _ => True) (okp := fun _ => True) rfl (fun _ hk => hk) trivial (lD) (Nat.le_trans (Nat.mul_le_mul_right _ (lD : (l0.length : Int).toNat ≤ 35184372088832)) (by omega)) (Below.refl _ _) (Nat.le_refl _) ?_; intro v126 w5 ho6 hb hg_ hnew_; clear hg_ hnew_; (first | rw [← Ny125.out] at ho6 | (simp only [Int.reduceToNat] at ho6; rw [← Ny125.out] at ho6)); have n0_ := Aside0.mk (Kd.R_lower ho6 (below_size lB)); have n1_ := Aside0.mk (below_step lB hb); clear HB; have HO127 := n0_; have HB := n1_; clear n0_ n1_; clear hb ho6) | ((with_reducible refine gate_dst (N := 21) rfl ?_); refine Kd.R_make (Kd.int .i64) _ 3 rfl (N := 21) rfl 22 _ _ rfl (l0.length : Int) rfl rfl Try.underlying22 (.int .i64 0) 8 info3 rfl (by decide) (by omega) 0 (ok := fun _ => True) (okp := fun _ => True) rfl (fun _ hk => hk) trivial (lD) (Nat.le_trans (Nat.mul_le_mul_right _ (lD : (l0.length : Int).toNat ≤ 35184372088832)) (by omega)) (Below.refl _ _) (Nat.le_refl _) ?_; intro v129 w7 ho8 hb hg_ hnew_; clear hg_ hnew_; (first | rw [← Ny128.out] at ho8 | (simp only [Int.reduceToNat] at ho8; rw [← Ny128.out] at ho8)); have n0_ := Aside0.mk (Kd.R_elder' (lR HO127.out) (Kd.R_base ho8) hb); have n1_ := Aside0.mk (Kd.R_lower (Kd.R_new' ho8 (Kd.R_lt (lR HO127.out))) (below_size lB)); have n2_ := Aside0.mk (below_step lB hb); clear HO127; clear HB; have HO127 := n0_; have HO130 := n1_; have HB := n2_; clear n0_ n1_ n2_; clear hb ho8))
   go_loopg [8] k (fun kq v8 w' => ∃ (x6_1 : List Int) (x7_1 : List Int) (x8_1 : Int), v8 = .int .i64 x8_1 ∧ Aside0 (spec_l9Best.l0 kq l0 l1 x6_1 x7_1 x8_1 = some (r1, r2)) ∧ Aside0 (kq ≤ k) ∧ Aside0 (Kd.R (Kd.int .i64) 3 w' w.heap.size (fun k_ => some k_ ≠ (v129 : Value).ownBlock) v126 x6_1) ∧ Aside0 (Kd.R (Kd.int .i64) 3 w' w.heap.size (fun k_ => some k_ ≠ (v126 : Value).ownBlock) v129 x7_1) ∧ Aside0 (Below w.heap.size w w'))
   case atStart => exact ⟨(y125), (y128), (wrap64 ((l0.length : Int) - 1)), lF, H', ⟨Nat.le_refl _⟩, ⟨by (with_reducible repeat (first | apply Kd.R_alloc | apply Kd.R_drewN | apply Kd.R_drew)); exact Kd.R_mono HO127.out (fun _ hk => hk.2)⟩, ⟨by (with_reducible repeat (first | apply Kd.R_alloc | apply Kd.R_drewN | apply Kd.R_drew)); exact Kd.R_mono HO130.out (fun _ hk => hk.2)⟩, ⟨lB⟩⟩
   case round =>
    clear H'
    try clear c1
    try clear p2
    try clear c3
    try clear c3b0
    try clear c3b1
    try clear c4
    try clear c4b0
    try clear c4b1
    try clear p6
    obtain ⟨x6_1, x7_1, x8_1, rfl, HA, HK1, HO_6, HO_7, HB⟩ := hrel
    cases gk with
    | zero => exact absurd HA.out (by simp [spec_l9Best.l0])
    | succ k1 =>
     have H := HA.out
     clear HA
     simp only [spec_l9Best.l0] at H
     by_cases c9 : x8_1 ≥ 0
     ·rw [if_pos c9] at H
      have c9b0 : decide (0 ≤ x8_1) = true := decide_eq_true c9
      clear c9
      by_cases c10 : 0 ≤ x8_1
      ·rw [if_pos c10] at H
       have c10b0 : decide (0 ≤ x8_1) = true := decide_eq_true c10
       clear c10
       by_cases c11 : x8_1 < (x7_1.length : Int)
       ·rw [if_pos c11] at H
        have c11b0 : decide (x8_1 < (x7_1.length : Int)) = true := decide_eq_true c11
        clear c11
        obtain ⟨y131, hy131⟩ : ∃ y_ : List Int, y_ = (x7_1.set (x8_1 : Int).toNat (-1)) := ⟨_, rfl⟩
        replace H : (spec_l9Best.l1 k1 l0 l1 x6_1 y131 x8_1 l1 (l1.length : Int) 0) = some (r1, r2) := by first | (rw [hy131]; with_reducible exact H) | (have H2_ := (Option.bind_some _ _).symm.trans H; rw [hy131]; with_reducible exact H2_) | (have H2_ := (Option.bind_some _ _).symm.trans H; with_reducible exact H2_) | with_reducible exact H | (rw [hy131]; exact H) | exact H
        have Ny131 := Aside0.mk hy131
        clear hy131
        have H' := Aside0.mk H
        clear H
        have p12 : 0 ≤ (x8_1 : Int) := lD
        have q12 : (x8_1 : Int) < ((x7_1.length : Int) : Int) := lD
        obtain ⟨go12, co12, eo12, gb12, gl12, cl12, HG12⟩ := Kd.R_form HO_7.out (by omega)
        (first | cases eo12 | (injection eo12 with ea_ en_ ec_; (first | subst ea_ | (injection ea_ with ea_; subst ea_)); subst ec_; clear en_))
        have GB12 := Aside0.mk gb12
        have GG12 := Aside0.mk HG12
        clear gb12 gl12 HG12
        obtain ⟨hx12_0, hf12_0⟩ := Kd.R_celln 0 HO_7.out (x8_1 : Int) p12 q12
        replace p12 := eq_true p12
        replace q12 := eq_true q12
        have HP13 := Kd.R_putg HO_7.out (x8_1 : Int) (-1)
        go_wp2_with (first | ((with_reducible refine gate_store (t := 3) (p := 31) rfl ?_); refine store_event (t := 3) (p := 31) (v := ?vo_w14) (w1 := (wr.setCell ⟨go12, (x8_1 : Int).toNat, none⟩ (.int .i64 (-1)))) ?hg ?ho ?hn ?hr ?_; (case ho => rfl); (case hg => rfl); (case hn => rfl); (case hr => first | (go_simp; done) | (go_simp; rfl)); intro w14 hw; have hg : wr.grownBy w14 (some go12) := (by rw [hw]; exact HP13.2); have hp_ : Kd.R (Kd.int .i64) 3 w14 w.heap.size (fun k_ => some k_ ≠ (v126 : Value).ownBlock) (.slice (some ⟨go12, 0, none⟩) x7_1.length co12) y131 := (by rw [hw, Ny131.out]; exact HP13.1); clear HP13; have n0_ := Aside0.mk (Kd.R_after (v := (.slice (some ⟨go12, 0, none⟩) x7_1.length co12)) (v1 := (.slice (some ⟨go12, 0, none⟩) x7_1.length co12)) (ok := (fun _ => True)) (by (with_reducible repeat (first | apply Kd.R_alloc | apply Kd.R_drewN | apply Kd.R_drew)); exact Kd.R_mono HO_6.out (fun _ hk => ⟨trivial, hk⟩)) hg (.inl rfl)); have n1_ := Aside0.mk (hp_); have n2_ := Aside0.mk ((by rw [hw]; exact below_set (HB.out) GB12.out : Below w.heap.size w w14)); clear HO_6; clear HO_7; clear HB; have HO_6 := n0_; have HO_7 := n1_; have HB := n2_; clear n0_ n1_ n2_; clear hg hw hp_))
        go_loopg [34] k1 (fun kq v34 w' => ∃ (x6_2 : List Int) (x7_2 : List Int) (x34_2 : Int), v34 = .int .i64 x34_2 ∧ Aside0 (spec_l9Best.l1 kq l0 l1 x6_2 x7_2 x8_1 l1 (l1.length : Int) x34_2 = some (r1, r2)) ∧ Aside0 (kq ≤ k1) ∧ Aside0 (Kd.R (Kd.int .i64) 3 w' w.heap.size (fun k_ => some k_ ≠ ((.slice (some ⟨go12, 0, none⟩) x7_1.length co12) : Value).ownBlock) v126 x6_2) ∧ Aside0 (Kd.R (Kd.int .i64) 3 w' w.heap.size (fun k_ => some k_ ≠ (v126 : Value).ownBlock) (.slice (some ⟨go12, 0, none⟩) x7_1.length co12) x7_2) ∧ Aside0 (Below w.heap.size w w'))
        case atStart => exact ⟨(x6_1), (y131), (0), lF, H', ⟨Nat.le_refl _⟩, ⟨by (with_reducible repeat (first | apply Kd.R_alloc | apply Kd.R_drewN | apply Kd.R_drew)); exact Kd.R_mono HO_6.out (fun _ hk => hk.2)⟩, ⟨lR HO_7.out⟩, ⟨lB⟩⟩
        case round =>
         clear H'
         try clear c1
         try clear p1
         try clear q1
         try clear hx1
         try clear p2
         try clear c3
         try clear c3b0
         try clear c3b1
         try clear c4
         try clear c4b0
         try clear c4b1
         try clear p6
         try clear c9
         try clear c9b0
         try clear c10
         try clear c10b0
         try clear c11
         try clear c11b0
         try clear p12
         try clear q12
         try clear hx12
         try clear hf12
         try clear hx12_0
         try clear p12
         try clear p2
         try clear p6
         try clear q12
         obtain ⟨x6_2, x7_2, x34_2, rfl, HA, HK2, HO_6, HO_7, HB⟩ := hrel
         have hl7_2 := (Kd.R_reads' HO_7.out).1
         rw [hl7_2] at HO_7
         (try simp only [hl7_2])
         (try simp only [hl7_2] at HO_6)
         cases gk with
         | zero => exact absurd HA.out (by simp [spec_l9Best.l1])
         | succ k2 =>
          have H := HA.out
          clear HA
          simp only [spec_l9Best.l1] at H
          by_cases c15 : x34_2 < (l1.length : Int)
          ·rw [if_pos c15] at H
           have c15b0 : decide (x34_2 < (l1.length : Int)) = true := decide_eq_true c15
           clear c15
           by_cases c16 : 0 ≤ x34_2
           ·rw [if_pos c16] at H
            have c16b0 : decide (0 ≤ x34_2) = true := decide_eq_true c16
            clear c16
            by_cases c17 : x34_2 < (l1.length : Int)
            ·rw [if_pos c17] at H
             have c17b0 : decide (x34_2 < (l1.length : Int)) = true := decide_eq_true c17
             clear c17
             replace H := Option.bind_eq_some_iff.mp H
             obtain ⟨⟨t134, t137⟩, A180, H⟩ := H
             replace H : (spec_l9Best.l2 k2 l0 l1 x6_2 x7_2 x8_1 x34_2 t137 ((rd_T57 l1 x34_2).f1) l1 (l1.length : Int) x34_2 t134 (t134.length : Int) 0) = some (r1, r2) := H
             have A18 := Aside0.mk A180
             clear A180
             have H' := Aside0.mk H
             clear H
             have p132 : 0 ≤ (x34_2 : Int) := lD
             have q132 : x34_2 < (l1.length : Int) := lD
             obtain ⟨ad132, A132_0, c132_0, e132, hx132_0, hx132_1, hl132_0, hi132_0⟩ := at_T57 HR1.out x34_2 p132 q132
             cases e132
             replace hx132_0 := pw_cell_below HB.out hx132_0
             replace hx132_1 := pw_cell_below HB.out hx132_1
             have HR132_0 := Aside0.mk hi132_0
             have HC132_0 := Aside0.mk hl132_0
             clear hi132_0 hl132_0
             replace p132 := eq_true p132
             replace q132 := eq_true q132
             go_wp2_with (first | ((with_reducible refine gate_dst (N := 10) rfl ?_); refine bxe 10 #[.slice none 0 0, .int .i64 0] 57 ?_; intro gb133 hg w19 hbox hb; have n0_ := Aside0.mk (Kd.R_below (lR HO_6.out) hb); have n1_ := Aside0.mk (Kd.R_below (lR HO_7.out) hb); have n2_ := Aside0.mk (below_step lB hb); have n3_ := Aside0.mk (hbox); have n4_ := lG w hg; have n5_ := lG w hg; clear HO_6; clear HO_7; clear HB; have HO_6 := n0_; have HO_7 := n1_; have HB := n2_; have BK133 := n3_; have GW133 := n4_; have GE133 := n5_; clear n0_ n1_ n2_ n3_ n4_ n5_; clear hb hbox hg; obtain ⟨hcz20_0, hfz20_0, hcz20_1, hfz20_1⟩ := bk2 BK133.out) | ((with_reducible refine gate_callee (f := 42) rfl ?_); refine gl_ (some 43) (Try.func42) #[.slice A0 l0.length c0, .int .i64 x8_1, .agg #[.slice A132_0 ((rd_T57 l1 x34_2).f0).length c132_0, .int .i64 ((rd_T57 l1 x34_2).f1)]] ?_; (with_reducible refine (spec_l9Fits.calls k2 _ _ l0 x8_1 _ _ ((rd_T57 l1 x34_2).f0) ((rd_T57 l1 x34_2).f1) t134 t137 _ ?side1 ?side2 ?side3 ?side4 A18.out).mono ?_); (case side1 => exact Kd.C_below HR0.out lB); (case side2 => exact HC0.out); (case side3 => exact Kd.C_below HR132_0.out lB); (case side4 => exact HC132_0.out); rintro e w21 ⟨v135, rfl, ho0, hb⟩; refine ⟨_, rfl, ?_⟩; have n0_ := Aside0.mk (Kd.R_elder' (by (with_reducible repeat (first | apply Kd.R_alloc | apply Kd.R_drewN | apply Kd.R_drew)); exact (Kd.R_mono (Kd.R_far (p := ⟨gb133, 1, none⟩) (Kd.R_far (p := ⟨gb133, 0, none⟩) (Kd.R_types HO_6.out BK133.out (by decide)) (fun _ hk => hk.2) (.slice A132_0 ((rd_T57 l1 x34_2).f0).length c132_0)) (fun _ hk => hk.2) (.int .i64 ((rd_T57 l1 x34_2).f1))) (fun _ h_ => h_.1))) (Kd.R_base ho0) hb); have n1_ := Aside0.mk (Kd.R_elder' (by (with_reducible repeat (first | apply Kd.R_alloc | apply Kd.R_drewN | apply Kd.R_drew)); exact (Kd.R_mono (Kd.R_far (p := ⟨gb133, 1, none⟩) (Kd.R_far (p := ⟨gb133, 0, none⟩) (Kd.R_types HO_7.out BK133.out (by decide)) (fun _ hk => hk.2) (.slice A132_0 ((rd_T57 l1 x34_2).f0).length c132_0)) (fun _ hk => hk.2) (.int .i64 ((rd_T57 l1 x34_2).f1))) (fun _ h_ => h_.1))) (Kd.R_base ho0) hb); have n2_ := Aside0.mk (Kd.R_lower (Kd.R_new' (Kd.R_new' ho0 (Kd.R_lt (by (with_reducible repeat (first | apply Kd.R_alloc | apply Kd.R_drewN | apply Kd.R_drew)); exact (Kd.R_mono (Kd.R_far (p := ⟨gb133, 1, none⟩) (Kd.R_far (p := ⟨gb133, 0, none⟩) (Kd.R_types HO_6.out BK133.out (by decide)) (fun _ hk => hk.2) (.slice A132_0 ((rd_T57 l1 x34_2).f0).length c132_0)) (fun _ hk => hk.2) (.int .i64 ((rd_T57 l1 x34_2).f1))) (fun _ h_ => h_.1))))) (Kd.R_lt (by (with_reducible repeat (first | apply Kd.R_alloc | apply Kd.R_drewN | apply Kd.R_drew)); exact (Kd.R_mono (Kd.R_far (p := ⟨gb133, 1, none⟩) (Kd.R_far (p := ⟨gb133, 0, none⟩) (Kd.R_types HO_7.out BK133.out (by decide)) (fun _ hk => hk.2) (.slice A132_0 ((rd_T57 l1 x34_2).f0).length c132_0)) (fun _ hk => hk.2) (.int .i64 ((rd_T57 l1 x34_2).f1))) (fun _ h_ => h_.1))))) (below_size lB)); have n3_ := Aside0.mk (blk_below (g := gb133) (o := .cells #[.slice A132_0 ((rd_T57 l1 x34_2).f0).length c132_0, .int .i64 ((rd_T57 l1 x34_2).f1)] 57 (0, 0)) (by (with_reducible repeat first | apply bN | apply bD | apply bA); refine blk_put (cs := #[.slice A132_0 ((rd_T57 l1 x34_2).f0).length c132_0, .int .i64 0]) ?_ 1 _ rfl; (with_reducible repeat first | apply bN | apply bD | apply bA); refine blk_put (cs := #[.slice none 0 0, .int .i64 0]) ?_ 0 _ rfl; (with_reducible repeat first | apply bN | apply bD | apply bA); exact BK133.out) hb); have n4_ := Aside0.mk (below_step lB hb); clear HO_6; clear HO_7; clear BK133; clear HB; have HO_6 := n0_; have HO_7 := n1_; have HO136 := n2_; have BK133 := n3_; have HB := n4_; clear n0_ n1_ n2_ n3_ n4_; (try clear hb); (try clear hb2); (try clear hk); (try clear hi); (try clear ho0); obtain ⟨hcz22_0, hfz22_0, hcz22_1, hfz22_1⟩ := bk2 BK133.out; obtain ⟨Ao23, co23, eo23⟩ := Kd.R_slice HO136.out; subst eo23))
             go_loopg [12, 13, 50] k2 (fun kq v12 v13 v50 w' => ∃ (x12_3 : Bool) (x13_3 : Int) (x50_3 : Int), v12 = .bool x12_3 ∧ v13 = .int .i64 x13_3 ∧ v50 = .int .i64 x50_3 ∧ Aside0 (spec_l9Best.l2 kq l0 l1 x6_2 x7_2 x8_1 x34_2 x12_3 x13_3 l1 (l1.length : Int) x34_2 t134 (t134.length : Int) x50_3 = some (r1, r2)) ∧ Aside0 (kq ≤ k2) ∧ Aside0 (Kd.R (Kd.int .i64) 3 w' w.heap.size (fun k_ => some k_ ≠ ((.slice (some ⟨go12, 0, none⟩) x7_2.length co12) : Value).ownBlock ∧ some k_ ≠ ((.slice Ao23 t134.length co23) : Value).ownBlock) v126 x6_2) ∧ Aside0 (Kd.R (Kd.int .i64) 3 w' w.heap.size (fun k_ => some k_ ≠ (v126 : Value).ownBlock ∧ some k_ ≠ ((.slice Ao23 t134.length co23) : Value).ownBlock) (.slice (some ⟨go12, 0, none⟩) x7_2.length co12) x7_2) ∧ Aside0 (Kd.R (Kd.int .i64) 3 w' w.heap.size (fun k_ => some k_ ≠ (v126 : Value).ownBlock ∧ some k_ ≠ ((.slice (some ⟨go12, 0, none⟩) x7_2.length co12) : Value).ownBlock) (.slice Ao23 t134.length co23) t134) ∧ Aside0 (w'.heap[gb133]? = some (.cells #[(.slice A132_0 ((rd_T57 l1 x34_2).f0).length c132_0), .int .i64 ((rd_T57 l1 x34_2).f1)] 57 (0, 0))) ∧ Aside0 (Below w.heap.size w w'))
             case atStart => exact ⟨(t137), ((rd_T57 l1 x34_2).f1), (0), lF, lF, lF, H', ⟨Nat.le_refl _⟩, ⟨by (try simp only [hl7_2]); (with_reducible repeat (first | apply Kd.R_alloc | apply Kd.R_drewN | apply Kd.R_drew)); exact HO_6.out⟩, ⟨by (try simp only [hl7_2]); (with_reducible repeat (first | apply Kd.R_alloc | apply Kd.R_drewN | apply Kd.R_drew)); exact HO_7.out⟩, ⟨by (try simp only [hl7_2]); (with_reducible repeat (first | apply Kd.R_alloc | apply Kd.R_drewN | apply Kd.R_drew)); exact Kd.R_mono HO136.out (fun _ hk => ⟨hk.1.2, hk.2⟩)⟩, ⟨by (try simp only [hl7_2]); (with_reducible repeat first | apply bN | apply bD | apply bA); exact BK133.out⟩, ⟨lB⟩⟩
             case round =>
              clear H'
              try clear c1
              try clear p1
              try clear q1
              try clear hx1
              try clear p2
              try clear c3
              try clear c3b0
              try clear c3b1
              try clear c4
              try clear c4b0
              try clear c4b1
              try clear p6
              try clear c9
              try clear c9b0
              try clear c10
              try clear c10b0
              try clear c11
              try clear c11b0
              try clear p12
              try clear q12
              try clear hx12
              try clear hf12
              try clear c13
              try clear p13
              try clear q13
              try clear hx13
              try clear c15
              try clear c15b0
              try clear c16
              try clear c16b0
              try clear c17
              try clear c17b0
              try clear hcz20_0 hcz20_1
              try clear hcz22_0 hcz22_1
              try clear hfz20_0 hfz20_1
              try clear hfz22_0 hfz22_1
              try clear hx12_0
              try clear hx132_0
              try clear hx132_1
              try clear p1
              try clear p12
              try clear p132
              try clear p2
              try clear p6
              try clear q1
              try clear q12
              try clear q132
              obtain ⟨x12_3, x13_3, x50_3, rfl, rfl, rfl, HA, HK3, HO_6, HO_7, HO_48, BK133, HB⟩ := hrel
              cases gk with
              | zero => exact absurd HA.out (by simp [spec_l9Best.l2])
              | succ k3 =>
               have H := HA.out
               clear HA
               simp only [spec_l9Best.l2] at H
               by_cases c24 : x50_3 < (t134.length : Int)
               ·rw [if_pos c24] at H
                have c24b0 : decide (x50_3 < (t134.length : Int)) = true := decide_eq_true c24
                clear c24
                by_cases c25 : 0 ≤ x50_3
                ·rw [if_pos c25] at H
                 have c25b0 : decide (0 ≤ x50_3) = true := decide_eq_true c25
                 clear c25
                 by_cases c26 : x50_3 < (t134.length : Int)
                 ·rw [if_pos c26] at H
                  have c26b0 : decide (x50_3 < (t134.length : Int)) = true := decide_eq_true c26
                  clear c26
                  by_cases c27 : x12_3 = true
                  ·subst c27
                   rw [if_pos rfl] at H
                   by_cases c28 : 0 ≤ (rd t134 x50_3)
                   ·rw [if_pos c28] at H
                    have c28b0 : decide (0 ≤ (rd t134 x50_3)) = true := decide_eq_true c28
                    clear c28
                    by_cases c29 : (rd t134 x50_3) < (x7_2.length : Int)
                    ·rw [if_pos c29] at H
                     have c29b0 : decide ((rd t134 x50_3) < (x7_2.length : Int)) = true := decide_eq_true c29
                     clear c29
                     by_cases c30 : (rd t134 x50_3) < (x6_2.length : Int)
                     ·rw [if_pos c30] at H
                      have c30b0 : decide ((rd t134 x50_3) < (x6_2.length : Int)) = true := decide_eq_true c30
                      clear c30
                      have H' := Aside0.mk H
                      clear H
                      have p138 : 0 ≤ (x50_3 : Int) := lD
                      have q138 : x50_3 < (t134.length : Int) := lD
                      obtain ⟨ad138, e138, hx138_0⟩ := Kd.at_int (Kd.R_reads' HO_48.out).2.2 x50_3 p138 q138
                      cases e138
                      replace p138 := eq_true p138
                      replace q138 := eq_true q138
                      have p139 : 0 ≤ ((rd t134 x50_3) : Int) := lD
                      have q139 : (rd t134 x50_3) < (x7_2.length : Int) := lD
                      obtain ⟨ad139, e139, hx139_0⟩ := Kd.at_int (Kd.R_reads' HO_7.out).2.2 (rd t134 x50_3) p139 q139
                      obtain rfl : (⟨go12, 0, none⟩ : Addr) = ad139 := (by injection e139)
                      (first | simp only [add_plain] at hx139_0 | simp only [add_at] at hx139_0 | simp only [Addr.add, Nat.zero_add] at hx139_0 | skip)
                      replace p139 := eq_true p139
                      replace q139 := eq_true q139
                      obtain ⟨Ao31, co31, eo31⟩ := Kd.R_slice HO_6.out
                      subst eo31
                      have p140 : 0 ≤ ((rd t134 x50_3) : Int) := lD
                      have q140 : (rd t134 x50_3) < (x6_2.length : Int) := lD
                      obtain ⟨ad140, e140, hx140_0⟩ := Kd.at_int (Kd.R_reads' HO_6.out).2.2 (rd t134 x50_3) p140 q140
                      cases e140
                      replace p140 := eq_true p140
                      replace q140 := eq_true q140
                      go_wp2
                      go_roundg k3
                      case measure => have := HK1.out; have := HK2.out; have := HK3.out; omega
                      case rel => exact ⟨(decide ((rd x7_2 (rd t134 x50_3)) ≥ 0)), (wrap64 (x13_3 + (rd x6_2 (rd t134 x50_3)))), (wrap64 (x50_3 + 1)), lF, lF, lF, H', ⟨by have := HK1.out; have := HK2.out; have := HK3.out; omega⟩, ⟨by (try simp only [hl7_2]); (with_reducible repeat (first | apply Kd.R_alloc | apply Kd.R_drewN | apply Kd.R_drew)); exact HO_6.out⟩, ⟨by (try simp only [hl7_2]); (with_reducible repeat (first | apply Kd.R_alloc | apply Kd.R_drewN | apply Kd.R_drew)); exact HO_7.out⟩, ⟨by (try simp only [hl7_2]); (with_reducible repeat (first | apply Kd.R_alloc | apply Kd.R_drewN | apply Kd.R_drew)); exact HO_48.out⟩, ⟨by (try simp only [hl7_2]); (with_reducible repeat first | apply bN | apply bD | apply bA); exact BK133.out⟩, ⟨lB⟩⟩
                     ·rw [if_neg c30] at H
                      exact absurd H (by simp)
                    ·rw [if_neg c29] at H
                     exact absurd H (by simp)
                   ·rw [if_neg c28] at H
                    exact absurd H (by simp)
                  ·replace c27 := Bool.eq_false_iff.mpr c27
                   subst c27
                   rw [if_neg (show ¬ (false = true) by decide)] at H
                   by_cases c32 : 0 ≤ (rd t134 x50_3)
                   ·rw [if_pos c32] at H
                    have c32b0 : decide (0 ≤ (rd t134 x50_3)) = true := decide_eq_true c32
                    clear c32
                    by_cases c33 : (rd t134 x50_3) < (x6_2.length : Int)
                    ·rw [if_pos c33] at H
                     have c33b0 : decide ((rd t134 x50_3) < (x6_2.length : Int)) = true := decide_eq_true c33
                     clear c33
                     have H' := Aside0.mk H
                     clear H
                     have p138 : 0 ≤ (x50_3 : Int) := lD
                     have q138 : x50_3 < (t134.length : Int) := lD
                     obtain ⟨ad138, e138, hx138_0⟩ := Kd.at_int (Kd.R_reads' HO_48.out).2.2 x50_3 p138 q138
                     cases e138
                     replace p138 := eq_true p138
                     replace q138 := eq_true q138
                     obtain ⟨Ao34, co34, eo34⟩ := Kd.R_slice HO_6.out
                     subst eo34
                     have p141 : 0 ≤ ((rd t134 x50_3) : Int) := lD
                     have q141 : (rd t134 x50_3) < (x6_2.length : Int) := lD
                     obtain ⟨ad141, e141, hx141_0⟩ := Kd.at_int (Kd.R_reads' HO_6.out).2.2 (rd t134 x50_3) p141 q141
                     cases e141
                     replace p141 := eq_true p141
                     replace q141 := eq_true q141
                     go_wp2
                     go_roundg k3
                     case measure => have := HK1.out; have := HK2.out; have := HK3.out; omega
                     case rel => exact ⟨(false), (wrap64 (x13_3 + (rd x6_2 (rd t134 x50_3)))), (wrap64 (x50_3 + 1)), lF, lF, lF, H', ⟨by have := HK1.out; have := HK2.out; have := HK3.out; omega⟩, ⟨by (try simp only [hl7_2]); (with_reducible repeat (first | apply Kd.R_alloc | apply Kd.R_drewN | apply Kd.R_drew)); exact HO_6.out⟩, ⟨by (try simp only [hl7_2]); (with_reducible repeat (first | apply Kd.R_alloc | apply Kd.R_drewN | apply Kd.R_drew)); exact HO_7.out⟩, ⟨by (try simp only [hl7_2]); (with_reducible repeat (first | apply Kd.R_alloc | apply Kd.R_drewN | apply Kd.R_drew)); exact HO_48.out⟩, ⟨by (try simp only [hl7_2]); (with_reducible repeat first | apply bN | apply bD | apply bA); exact BK133.out⟩, ⟨lB⟩⟩
                    ·rw [if_neg c33] at H
                     exact absurd H (by simp)
                   ·rw [if_neg c32] at H
                    exact absurd H (by simp)
                 ·rw [if_neg c26] at H
                  exact absurd H (by simp)
                ·rw [if_neg c25] at H
                 exact absurd H (by simp)
               ·rw [if_neg c24] at H
                have c24b0 : decide (x50_3 < (t134.length : Int)) = false := decide_eq_false c24
                clear c24
                by_cases c35 : x12_3 = true
                ·subst c35
                 rw [if_pos rfl] at H
                 by_cases c36 : 0 ≤ x8_1
                 ·rw [if_pos c36] at H
                  have c36b0 : decide (0 ≤ x8_1) = true := decide_eq_true c36
                  clear c36
                  by_cases c37 : x8_1 < (x7_2.length : Int)
                  ·rw [if_pos c37] at H
                   have c37b0 : decide (x8_1 < (x7_2.length : Int)) = true := decide_eq_true c37
                   clear c37
                   by_cases c38 : (rd x7_2 x8_1) < 0
                   ·rw [if_pos c38] at H
                    have c38b0 : decide ((rd x7_2 x8_1) < 0) = true := decide_eq_true c38
                    clear c38
                    obtain ⟨y143, hy143⟩ : ∃ y_ : List Int, y_ = (x7_2.set (x8_1 : Int).toNat x34_2) := ⟨_, rfl⟩
                    replace H : (if x8_1 < (x6_2.length : Int) then (spec_l9Best.l1 k3 l0 l1 (x6_2.set (x8_1 : Int).toNat x13_3) y143 x8_1 l1 (l1.length : Int) (wrap64 (x34_2 + 1))) else (none)) = some (r1, r2) := by first | (rw [hy143]; with_reducible exact H) | (have H2_ := (Option.bind_some _ _).symm.trans H; rw [hy143]; with_reducible exact H2_) | (have H2_ := (Option.bind_some _ _).symm.trans H; with_reducible exact H2_) | with_reducible exact H | (rw [hy143]; exact H) | exact H
                    have Ny143 := Aside0.mk hy143
                    clear hy143
                    by_cases c40 : x8_1 < (x6_2.length : Int)
                    ·rw [if_pos c40] at H
                     have c40b0 : decide (x8_1 < (x6_2.length : Int)) = true := decide_eq_true c40
                     clear c40
                     obtain ⟨y144, hy144⟩ : ∃ y_ : List Int, y_ = (x6_2.set (x8_1 : Int).toNat x13_3) := ⟨_, rfl⟩
                     replace H : (spec_l9Best.l1 k3 l0 l1 y144 y143 x8_1 l1 (l1.length : Int) (wrap64 (x34_2 + 1))) = some (r1, r2) := by first | (rw [hy144]; with_reducible exact H) | (have H2_ := (Option.bind_some _ _).symm.trans H; rw [hy144]; with_reducible exact H2_) | (have H2_ := (Option.bind_some _ _).symm.trans H; with_reducible exact H2_) | with_reducible exact H | (rw [hy144]; exact H) | exact H
                     have Ny144 := Aside0.mk hy144
                     clear hy144
                     have H' := Aside0.mk H
                     clear H
                     have p142 : 0 ≤ (x8_1 : Int) := lD
                     have q142 : x8_1 < (x7_2.length : Int) := lD
                     obtain ⟨ad142, e142, hx142_0⟩ := Kd.at_int (Kd.R_reads' HO_7.out).2.2 x8_1 p142 q142
                     obtain rfl : (⟨go12, 0, none⟩ : Addr) = ad142 := (by injection e142)
                     (first | simp only [add_plain] at hx142_0 | simp only [add_at] at hx142_0 | simp only [Addr.add, Nat.zero_add] at hx142_0 | skip)
                     replace p142 := eq_true p142
                     replace q142 := eq_true q142
                     have p39 : 0 ≤ (x8_1 : Int) := lD
                     have q39 : (x8_1 : Int) < ((x7_2.length : Int) : Int) := lD
                     obtain ⟨hx39_0, hf39_0⟩ := Kd.R_celln 0 HO_7.out (x8_1 : Int) p39 q39
                     replace p39 := eq_true p39
                     replace q39 := eq_true q39
                     have HP42 := Kd.R_putg HO_7.out (x8_1 : Int) x34_2
                     go_wp2_with (first | ((with_reducible refine gate_store (t := 3) (p := 88) rfl ?_); refine store_event (t := 3) (p := 88) (v := ?vo_w43) (w1 := (wr.setCell ⟨go12, (x8_1 : Int).toNat, none⟩ (.int .i64 x34_2))) ?hg ?ho ?hn ?hr ?_; (case ho => rfl); (case hg => rfl); (case hn => rfl); (case hr => first | (go_simp; done) | (go_simp; rfl)); intro w43 hw; have hg : wr.grownBy w43 (some go12) := (by rw [hw]; exact HP42.2); have hp_ : Kd.R (Kd.int .i64) 3 w43 w.heap.size (fun k_ => some k_ ≠ (v126 : Value).ownBlock ∧ some k_ ≠ (.slice Ao23 t134.length co23 : Value).ownBlock) (.slice (some ⟨go12, 0, none⟩) x7_2.length co12) y143 := (by rw [hw, Ny143.out]; exact HP42.1); clear HP42; have n0_ := Aside0.mk (Kd.R_after (v := (.slice (some ⟨go12, 0, none⟩) x7_2.length co12)) (v1 := (.slice (some ⟨go12, 0, none⟩) x7_2.length co12)) (ok := (fun k_ => some k_ ≠ (.slice Ao23 t134.length co23 : Value).ownBlock)) (by (with_reducible repeat (first | apply Kd.R_alloc | apply Kd.R_drewN | apply Kd.R_drew)); exact Kd.R_mono HO_6.out (fun _ hk => ⟨hk.2, hk.1⟩)) hg (.inl rfl)); have n1_ := Aside0.mk (hp_); have n2_ := Aside0.mk (Kd.R_after (v := (.slice (some ⟨go12, 0, none⟩) x7_2.length co12)) (v1 := (.slice (some ⟨go12, 0, none⟩) x7_2.length co12)) (ok := (fun k_ => some k_ ≠ (v126 : Value).ownBlock)) (lR HO_48.out) hg (.inl rfl)); have n3_ := Aside0.mk (blk_grown (lK BK133.out) hg (Kd.R_ne HO_7.out BK133.out (by decide))); have n4_ := Aside0.mk ((by rw [hw]; exact below_set (HB.out) GB12.out : Below w.heap.size w w43)); clear HO_6; clear HO_7; clear HO_48; clear BK133; clear HB; have HO_6 := n0_; have HO_7 := n1_; have HO_48 := n2_; have BK133 := n3_; have HB := n4_; clear n0_ n1_ n2_ n3_ n4_; clear hg hw hp_; have p41 : 0 ≤ (x8_1 : Int) := lD; have q41 : (x8_1 : Int) < ((x6_2.length : Int) : Int) := lD; obtain ⟨go41, co41, eo41, gb41, gl41, cl41, HG41⟩ := Kd.R_form HO_6.out (by omega); (first | cases eo41 | (injection eo41 with ea_ en_ ec_; (first | subst ea_ | (injection ea_ with ea_; subst ea_)); subst ec_; clear en_)); have GB41 := Aside0.mk gb41; have GG41 := Aside0.mk HG41; clear gb41 gl41 HG41; obtain ⟨hx41_0, hf41_0⟩ := Kd.R_celln 0 HO_6.out (x8_1 : Int) p41 q41; replace p41 := eq_true p41; replace q41 := eq_true q41; obtain ⟨hy44_, hz44_⟩ := Kd.R_celln 0 HO_6.out (x8_1 : Int) (lD) (lD); have HP44 := Kd.R_putg HO_6.out (x8_1 : Int) x13_3) | ((with_reducible refine gate_store (t := 3) (p := 92) rfl ?_); refine store_event (t := 3) (p := 92) (v := ?vo_w45) (w1 := (w43.setCell ⟨go41, (x8_1 : Int).toNat, none⟩ (.int .i64 x13_3))) ?hg ?ho ?hn ?hr ?_; (case ho => rfl); (case hg => rfl); (case hn => rfl); (case hr => first | (go_simp; done) | (go_simp; rfl)); intro w45 hw; have hg : w43.grownBy w45 (some go41) := (by rw [hw]; exact HP44.2); have hp_ : Kd.R (Kd.int .i64) 3 w45 w.heap.size (fun k_ => some k_ ≠ (.slice Ao23 t134.length co23 : Value).ownBlock ∧ some k_ ≠ (.slice (some ⟨go12, 0, none⟩) x7_2.length co12 : Value).ownBlock) (.slice (some ⟨go41, 0, none⟩) x6_2.length co41) y144 := (by rw [hw, Ny144.out]; exact HP44.1); clear HP44; have n0_ := Aside0.mk (hp_); have n1_ := Aside0.mk (Kd.R_after (v := (.slice (some ⟨go41, 0, none⟩) x6_2.length co41)) (v1 := (.slice (some ⟨go41, 0, none⟩) x6_2.length co41)) (ok := (fun k_ => some k_ ≠ (.slice Ao23 t134.length co23 : Value).ownBlock)) (by (with_reducible repeat (first | apply Kd.R_alloc | apply Kd.R_drewN | apply Kd.R_drew)); exact Kd.R_mono HO_7.out (fun _ hk => ⟨hk.2, hk.1⟩)) hg (.inl rfl)); have n2_ := Aside0.mk (Kd.R_after (v := (.slice (some ⟨go41, 0, none⟩) x6_2.length co41)) (v1 := (.slice (some ⟨go41, 0, none⟩) x6_2.length co41)) (ok := (fun k_ => some k_ ≠ (.slice (some ⟨go12, 0, none⟩) x7_2.length co12 : Value).ownBlock)) (by (with_reducible repeat (first | apply Kd.R_alloc | apply Kd.R_drewN | apply Kd.R_drew)); exact Kd.R_mono HO_48.out (fun _ hk => ⟨hk.2, hk.1⟩)) hg (.inl rfl)); have n3_ := Aside0.mk (blk_grown (lK BK133.out) hg (Kd.R_ne HO_6.out BK133.out (by decide))); have n4_ := Aside0.mk ((by rw [hw]; exact below_set (HB.out) GB41.out : Below w.heap.size w w45)); clear HO_6; clear HO_7; clear HO_48; clear BK133; clear HB; have HO_6 := n0_; have HO_7 := n1_; have HO_48 := n2_; have BK133 := n3_; have HB := n4_; clear n0_ n1_ n2_ n3_ n4_; clear hg hw hp_))
                     (try simp only [← hl7_2])
                     go_roundg k3
                     case measure => have := HK1.out; have := HK2.out; have := HK3.out; omega
                     case rel => exact ⟨(y144), (y143), (wrap64 (x34_2 + 1)), lF, H', ⟨by have := HK1.out; have := HK2.out; have := HK3.out; omega⟩, ⟨by (try simp only [hl7_2]); (with_reducible repeat (first | apply Kd.R_alloc | apply Kd.R_drewN | apply Kd.R_drew)); exact Kd.R_mono HO_6.out (fun _ hk => hk.2)⟩, ⟨by (try simp only [hl7_2]); (with_reducible repeat (first | apply Kd.R_alloc | apply Kd.R_drewN | apply Kd.R_drew)); exact Kd.R_mono HO_7.out (fun _ hk => hk.2)⟩, ⟨lB⟩⟩
                    ·rw [if_neg c40] at H
                     exact absurd H (by simp)
                   ·rw [if_neg c38] at H
                    have c38b0 : decide ((rd x7_2 x8_1) < 0) = false := decide_eq_false c38
                    clear c38
                    by_cases c46 : x8_1 < (x6_2.length : Int)
                    ·rw [if_pos c46] at H
                     have c46b0 : decide (x8_1 < (x6_2.length : Int)) = true := decide_eq_true c46
                     clear c46
                     by_cases c47 : x13_3 < (rd x6_2 x8_1)
                     ·rw [if_pos c47] at H
                      have c47b0 : decide (x13_3 < (rd x6_2 x8_1)) = true := decide_eq_true c47
                      clear c47
                      obtain ⟨y146, hy146⟩ : ∃ y_ : List Int, y_ = (x7_2.set (x8_1 : Int).toNat x34_2) := ⟨_, rfl⟩
                      replace H : (spec_l9Best.l1 k3 l0 l1 (x6_2.set (x8_1 : Int).toNat x13_3) y146 x8_1 l1 (l1.length : Int) (wrap64 (x34_2 + 1))) = some (r1, r2) := by first | (rw [hy146]; with_reducible exact H) | (have H2_ := (Option.bind_some _ _).symm.trans H; rw [hy146]; with_reducible exact H2_) | (have H2_ := (Option.bind_some _ _).symm.trans H; with_reducible exact H2_) | with_reducible exact H | (rw [hy146]; exact H) | exact H
                      have Ny146 := Aside0.mk hy146
                      clear hy146
                      obtain ⟨y147, hy147⟩ : ∃ y_ : List Int, y_ = (x6_2.set (x8_1 : Int).toNat x13_3) := ⟨_, rfl⟩
                      replace H : (spec_l9Best.l1 k3 l0 l1 y147 y146 x8_1 l1 (l1.length : Int) (wrap64 (x34_2 + 1))) = some (r1, r2) := by first | (rw [hy147]; with_reducible exact H) | (have H2_ := (Option.bind_some _ _).symm.trans H; rw [hy147]; with_reducible exact H2_) | (have H2_ := (Option.bind_some _ _).symm.trans H; with_reducible exact H2_) | with_reducible exact H | (rw [hy147]; exact H) | exact H
                      have Ny147 := Aside0.mk hy147
                      clear hy147
                      have H' := Aside0.mk H
                      clear H
                      have p142 : 0 ≤ (x8_1 : Int) := lD
                      have q142 : x8_1 < (x7_2.length : Int) := lD
                      obtain ⟨ad142, e142, hx142_0⟩ := Kd.at_int (Kd.R_reads' HO_7.out).2.2 x8_1 p142 q142
                      obtain rfl : (⟨go12, 0, none⟩ : Addr) = ad142 := (by injection e142)
                      (first | simp only [add_plain] at hx142_0 | simp only [add_at] at hx142_0 | simp only [Addr.add, Nat.zero_add] at hx142_0 | skip)
                      replace p142 := eq_true p142
                      replace q142 := eq_true q142
                      obtain ⟨Ao50, co50, eo50⟩ := Kd.R_slice HO_6.out
                      subst eo50
                      have p145 : 0 ≤ (x8_1 : Int) := lD
                      have q145 : x8_1 < (x6_2.length : Int) := lD
                      obtain ⟨ad145, e145, hx145_0⟩ := Kd.at_int (Kd.R_reads' HO_6.out).2.2 x8_1 p145 q145
                      cases e145
                      replace p145 := eq_true p145
                      replace q145 := eq_true q145
                      have p48 : 0 ≤ (x8_1 : Int) := lD
                      have q48 : (x8_1 : Int) < ((x7_2.length : Int) : Int) := lD
                      obtain ⟨hx48_0, hf48_0⟩ := Kd.R_celln 0 HO_7.out (x8_1 : Int) p48 q48
                      replace p48 := eq_true p48
                      replace q48 := eq_true q48
                      have HP51 := Kd.R_putg HO_7.out (x8_1 : Int) x34_2
                      go_wp2_with (first | ((with_reducible refine gate_store (t := 3) (p := 88) rfl ?_); refine store_event (t := 3) (p := 88) (v := ?vo_w52) (w1 := (wr.setCell ⟨go12, (x8_1 : Int).toNat, none⟩ (.int .i64 x34_2))) ?hg ?ho ?hn ?hr ?_; (case ho => rfl); (case hg => rfl); (case hn => rfl); (case hr => first | (go_simp; done) | (go_simp; rfl)); intro w52 hw; have hg : wr.grownBy w52 (some go12) := (by rw [hw]; exact HP51.2); have hp_ : Kd.R (Kd.int .i64) 3 w52 w.heap.size (fun k_ => some k_ ≠ (.slice (some ad145) x6_2.length co50 : Value).ownBlock ∧ some k_ ≠ (.slice Ao23 t134.length co23 : Value).ownBlock) (.slice (some ⟨go12, 0, none⟩) x7_2.length co12) y146 := (by rw [hw, Ny146.out]; exact HP51.1); clear HP51; have n0_ := Aside0.mk (Kd.R_after (v := (.slice (some ⟨go12, 0, none⟩) x7_2.length co12)) (v1 := (.slice (some ⟨go12, 0, none⟩) x7_2.length co12)) (ok := (fun k_ => some k_ ≠ (.slice Ao23 t134.length co23 : Value).ownBlock)) (by (with_reducible repeat (first | apply Kd.R_alloc | apply Kd.R_drewN | apply Kd.R_drew)); exact Kd.R_mono HO_6.out (fun _ hk => ⟨hk.2, hk.1⟩)) hg (.inl rfl)); have n1_ := Aside0.mk (hp_); have n2_ := Aside0.mk (Kd.R_after (v := (.slice (some ⟨go12, 0, none⟩) x7_2.length co12)) (v1 := (.slice (some ⟨go12, 0, none⟩) x7_2.length co12)) (ok := (fun k_ => some k_ ≠ (.slice (some ad145) x6_2.length co50 : Value).ownBlock)) (lR HO_48.out) hg (.inl rfl)); have n3_ := Aside0.mk (blk_grown (lK BK133.out) hg (Kd.R_ne HO_7.out BK133.out (by decide))); have n4_ := Aside0.mk ((by rw [hw]; exact below_set (HB.out) GB12.out : Below w.heap.size w w52)); clear HO_6; clear HO_7; clear HO_48; clear BK133; clear HB; have HO_6 := n0_; have HO_7 := n1_; have HO_48 := n2_; have BK133 := n3_; have HB := n4_; clear n0_ n1_ n2_ n3_ n4_; clear hg hw hp_; have p49 : 0 ≤ (x8_1 : Int) := lD; have q49 : (x8_1 : Int) < ((x6_2.length : Int) : Int) := lD; obtain ⟨go49, co49, eo49, gb49, gl49, cl49, HG49⟩ := Kd.R_form HO_6.out (by omega); (first | cases eo49 | (injection eo49 with ea_ en_ ec_; (first | subst ea_ | (injection ea_ with ea_; subst ea_)); subst ec_; clear en_)); have GB49 := Aside0.mk gb49; have GG49 := Aside0.mk HG49; clear gb49 gl49 HG49; (first | simp only [add_plain] at hx145_0 | skip); obtain ⟨hx49_0, hf49_0⟩ := Kd.R_celln 0 HO_6.out (x8_1 : Int) p49 q49; replace p49 := eq_true p49; replace q49 := eq_true q49; obtain ⟨hy53_, hz53_⟩ := Kd.R_celln 0 HO_6.out (x8_1 : Int) (lD) (lD); have HP53 := Kd.R_putg HO_6.out (x8_1 : Int) x13_3) | ((with_reducible refine gate_store (t := 3) (p := 92) rfl ?_); refine store_event (t := 3) (p := 92) (v := ?vo_w54) (w1 := (w52.setCell ⟨go49, (x8_1 : Int).toNat, none⟩ (.int .i64 x13_3))) ?hg ?ho ?hn ?hr ?_; (case ho => rfl); (case hg => rfl); (case hn => rfl); (case hr => first | (go_simp; done) | (go_simp; rfl)); intro w54 hw; have hg : w52.grownBy w54 (some go49) := (by rw [hw]; exact HP53.2); have hp_ : Kd.R (Kd.int .i64) 3 w54 w.heap.size (fun k_ => some k_ ≠ (.slice Ao23 t134.length co23 : Value).ownBlock ∧ some k_ ≠ (.slice (some ⟨go12, 0, none⟩) x7_2.length co12 : Value).ownBlock) (.slice (some ⟨go49, 0, none⟩) x6_2.length co50) y147 := (by rw [hw, Ny147.out]; exact HP53.1); clear HP53; have n0_ := Aside0.mk (hp_); have n1_ := Aside0.mk (Kd.R_after (v := (.slice (some ⟨go49, 0, none⟩) x6_2.length co50)) (v1 := (.slice (some ⟨go49, 0, none⟩) x6_2.length co50)) (ok := (fun k_ => some k_ ≠ (.slice Ao23 t134.length co23 : Value).ownBlock)) (by (with_reducible repeat (first | apply Kd.R_alloc | apply Kd.R_drewN | apply Kd.R_drew)); exact Kd.R_mono HO_7.out (fun _ hk => ⟨hk.2, hk.1⟩)) hg (.inl rfl)); have n2_ := Aside0.mk (Kd.R_after (v := (.slice (some ⟨go49, 0, none⟩) x6_2.length co50)) (v1 := (.slice (some ⟨go49, 0, none⟩) x6_2.length co50)) (ok := (fun k_ => some k_ ≠ (.slice (some ⟨go12, 0, none⟩) x7_2.length co12 : Value).ownBlock)) (by (with_reducible repeat (first | apply Kd.R_alloc | apply Kd.R_drewN | apply Kd.R_drew)); exact Kd.R_mono HO_48.out (fun _ hk => ⟨hk.2, hk.1⟩)) hg (.inl rfl)); have n3_ := Aside0.mk (blk_grown (lK BK133.out) hg (Kd.R_ne HO_6.out BK133.out (by decide))); have n4_ := Aside0.mk ((by rw [hw]; exact below_set (HB.out) GB49.out : Below w.heap.size w w54)); clear HO_6; clear HO_7; clear HO_48; clear BK133; clear HB; have HO_6 := n0_; have HO_7 := n1_; have HO_48 := n2_; have BK133 := n3_; have HB := n4_; clear n0_ n1_ n2_ n3_ n4_; clear hg hw hp_))
                      (try simp only [← hl7_2])
                      go_roundg k3
                      case measure => have := HK1.out; have := HK2.out; have := HK3.out; omega
                      case rel => exact ⟨(y147), (y146), (wrap64 (x34_2 + 1)), lF, H', ⟨by have := HK1.out; have := HK2.out; have := HK3.out; omega⟩, ⟨by (try simp only [hl7_2]); (with_reducible repeat (first | apply Kd.R_alloc | apply Kd.R_drewN | apply Kd.R_drew)); exact Kd.R_mono HO_6.out (fun _ hk => hk.2)⟩, ⟨by (try simp only [hl7_2]); (with_reducible repeat (first | apply Kd.R_alloc | apply Kd.R_drewN | apply Kd.R_drew)); exact Kd.R_mono HO_7.out (fun _ hk => hk.2)⟩, ⟨lB⟩⟩
                     ·rw [if_neg c47] at H
                      have c47b0 : decide (x13_3 < (rd x6_2 x8_1)) = false := decide_eq_false c47
                      clear c47
                      have H' := Aside0.mk H
                      clear H
                      have p142 : 0 ≤ (x8_1 : Int) := lD
                      have q142 : x8_1 < (x7_2.length : Int) := lD
                      obtain ⟨ad142, e142, hx142_0⟩ := Kd.at_int (Kd.R_reads' HO_7.out).2.2 x8_1 p142 q142
                      obtain rfl : (⟨go12, 0, none⟩ : Addr) = ad142 := (by injection e142)
                      (first | simp only [add_plain] at hx142_0 | simp only [add_at] at hx142_0 | simp only [Addr.add, Nat.zero_add] at hx142_0 | skip)
                      replace p142 := eq_true p142
                      replace q142 := eq_true q142
                      obtain ⟨Ao55, co55, eo55⟩ := Kd.R_slice HO_6.out
                      subst eo55
                      have p145 : 0 ≤ (x8_1 : Int) := lD
                      have q145 : x8_1 < (x6_2.length : Int) := lD
                      obtain ⟨ad145, e145, hx145_0⟩ := Kd.at_int (Kd.R_reads' HO_6.out).2.2 x8_1 p145 q145
                      cases e145
                      replace p145 := eq_true p145
                      replace q145 := eq_true q145
                      go_wp2
                      (try simp only [← hl7_2])
                      go_roundg k3
                      case measure => have := HK1.out; have := HK2.out; have := HK3.out; omega
                      case rel => exact ⟨(x6_2), (x7_2), (wrap64 (x34_2 + 1)), lF, H', ⟨by have := HK1.out; have := HK2.out; have := HK3.out; omega⟩, ⟨by (try simp only [hl7_2]); (with_reducible repeat (first | apply Kd.R_alloc | apply Kd.R_drewN | apply Kd.R_drew)); exact Kd.R_mono HO_6.out (fun _ hk => hk.1)⟩, ⟨by (try simp only [hl7_2]); (with_reducible repeat (first | apply Kd.R_alloc | apply Kd.R_drewN | apply Kd.R_drew)); exact Kd.R_mono HO_7.out (fun _ hk => hk.1)⟩, ⟨lB⟩⟩
                    ·rw [if_neg c46] at H
                     exact absurd H (by simp)
                  ·rw [if_neg c37] at H
                   exact absurd H (by simp)
                 ·rw [if_neg c36] at H
                  exact absurd H (by simp)
                ·replace c35 := Bool.eq_false_iff.mpr c35
                 subst c35
                 rw [if_neg (show ¬ (false = true) by decide)] at H
                 have H' := Aside0.mk H
                 clear H
                 go_wp2
                 (try simp only [← hl7_2])
                 go_roundg k3
                 case measure => have := HK1.out; have := HK2.out; have := HK3.out; omega
                 case rel => exact ⟨(x6_2), (x7_2), (wrap64 (x34_2 + 1)), lF, H', ⟨by have := HK1.out; have := HK2.out; have := HK3.out; omega⟩, ⟨by (try simp only [hl7_2]); (with_reducible repeat (first | apply Kd.R_alloc | apply Kd.R_drewN | apply Kd.R_drew)); exact Kd.R_mono HO_6.out (fun _ hk => hk.1)⟩, ⟨by (try simp only [hl7_2]); (with_reducible repeat (first | apply Kd.R_alloc | apply Kd.R_drewN | apply Kd.R_drew)); exact Kd.R_mono HO_7.out (fun _ hk => hk.1)⟩, ⟨lB⟩⟩
            ·rw [if_neg c17] at H
             exact absurd H (by simp)
           ·rw [if_neg c16] at H
            exact absurd H (by simp)
          ·rw [if_neg c15] at H
           have c15b0 : decide (x34_2 < (l1.length : Int)) = false := decide_eq_false c15
           clear c15
           have H' := Aside0.mk H
           clear H
           go_wp2
           (try simp only [← hl7_2])
           go_roundg k2
           case measure => have := HK1.out; have := HK2.out; omega
           case rel => exact ⟨(x6_2), (x7_2), (wrap64 (x8_1 - 1)), lF, H', ⟨by have := HK1.out; have := HK2.out; omega⟩, ⟨by (try simp only [hl7_2]); (with_reducible repeat (first | apply Kd.R_alloc | apply Kd.R_drewN | apply Kd.R_drew)); exact HO_6.out⟩, ⟨by (try simp only [hl7_2]); (with_reducible repeat (first | apply Kd.R_alloc | apply Kd.R_drewN | apply Kd.R_drew)); exact HO_7.out⟩, ⟨lB⟩⟩
       ·rw [if_neg c11] at H
        exact absurd H (by simp)
      ·rw [if_neg c10] at H
       exact absurd H (by simp)
     ·rw [if_neg c9] at H
      have c9b0 : decide (0 ≤ x8_1) = false := decide_eq_false c9
      clear c9
      simp only [Option.some.injEq, Prod.mk.injEq] at H
      obtain ⟨rfl, rfl⟩ := H
      go_wp2
      go_ret2
      exact ⟨_, _, lE, lR HO_6.out, lR HO_7.out, lB⟩
  ·rw [if_neg c4] at H
   exact absurd H (by simp)
 ·rw [if_neg c3] at H
  exact absurd H (by simp)

/-! ### spec_l9Pieces: function 33 -/
mutual
def spec_l9Pieces.l0 : Nat → List Int → List (S57) → List Int → List (S63) → List Int → Int → Int → Option ((List (S63)) × Bool)
 | 0, _, _, _, _, _, _, _ => none
 | k + 1, x0, x1, x3, x4, x45, x46, x47 => if x47 < x46 then (if 0 ≤ x47 then (if x47 < (x45.length : Int) then ((spec_l9Pieces.f k x0 x1 (rd x45 x47) x3 x4).bind fun bt160 => (if bt160.2 = true then (spec_l9Pieces.l0 k x0 x1 x3 bt160.1 x45 x46 (wrap64 (x47 + 1))) else (some (([] : List (S63)), false)))) else (none)) else (none)) else (some (x4, true))
def spec_l9Pieces.f : Nat → List Int → List (S57) → Int → List Int → List (S63) → Option ((List (S63)) × Bool)
 | 0, _, _, _, _, _ => none
 | k + 1, l0, l1, a2, l3, l4 => if 0 ≤ a2 then (if a2 < (l3.length : Int) then (if (rd l3 a2) < 0 then (some (([] : List (S63)), false)) else (if l4.length < 8796093022208 then (if 0 ≤ (rd l3 a2) then (if (rd l3 a2) < (l1.length : Int) then ((spec_l9Fits.f k l0 a2 ((rd_T57 l1 (rd l3 a2)).f0) ((rd_T57 l1 (rd l3 a2)).f1)).bind fun bt155 => (spec_l9Pieces.l0 k l0 l1 l3 (l4 ++ [(⟨a2, rd l3 a2⟩ : S63)]) bt155.1 (bt155.1.length : Int) 0)) else (none)) else (none)) else (none))) else (none)) else (none)
end
theorem spec_l9Pieces.mono_l : ∀ k, (∀ y0 y1 y2 y3 y4, LeO (spec_l9Pieces.f k y0 y1 y2 y3 y4) (spec_l9Pieces.f (k + 1) y0 y1 y2 y3 y4)) ∧ (∀ y0 y1 y2 y3 y4 y5 y6, LeO (spec_l9Pieces.l0 k y0 y1 y2 y3 y4 y5 y6) (spec_l9Pieces.l0 (k + 1) y0 y1 y2 y3 y4 y5 y6))
 | 0 => ⟨fun _ _ _ _ _ r h => by simp [spec_l9Pieces.f] at h, fun _ _ _ _ _ _ _ r h => by simp [spec_l9Pieces.l0] at h⟩
 | k + 1 => by
  obtain ⟨ih0, ih1⟩ := spec_l9Pieces.mono_l k
  refine ⟨?_, ?_⟩
  ·intro y0 y1 y2 y3 y4
   unfold spec_l9Pieces.f
   repeat' first
   | with_reducible apply ih0
   | with_reducible apply ih1
   | with_reducible apply spec_l9Fits.mono
   | (with_reducible exact LeO.refl _)
   | (with_reducible exact LeO.none _)
   | (with_reducible refine LeO.ite ?_ ?_)
   | (with_reducible refine LeO.bind ?_ (fun _ => ?_))
   | apply ih0
   | apply ih1
   | apply spec_l9Fits.mono
   | exact LeO.none _
   | refine LeO.ite ?_ ?_
   | refine LeO.bind ?_ (fun _ => ?_)
  ·intro y0 y1 y2 y3 y4 y5 y6
   unfold spec_l9Pieces.l0
   repeat' first
   | with_reducible apply ih0
   | with_reducible apply ih1
   | with_reducible apply spec_l9Fits.mono
   | (with_reducible exact LeO.refl _)
   | (with_reducible exact LeO.none _)
   | (with_reducible refine LeO.ite ?_ ?_)
   | (with_reducible refine LeO.bind ?_ (fun _ => ?_))
   | apply ih0
   | apply ih1
   | apply spec_l9Fits.mono
   | exact LeO.none _
   | refine LeO.ite ?_ ?_
   | refine LeO.bind ?_ (fun _ => ?_)
theorem spec_l9Pieces.mono : ∀ a0 a1 a2 a3 a4 k, LeO (spec_l9Pieces.f k a0 a1 a2 a3 a4) (spec_l9Pieces.f (k + 1) a0 a1 a2 a3 a4) := by
 intro a0 a1 a2 a3 a4 k
 obtain ⟨ih0, ih1⟩ := spec_l9Pieces.mono_l k
 exact ih0 a0 a1 a2 a3 a4
set_option maxHeartbeats 8000000 in
set_option maxRecDepth 100000 in
theorem spec_l9Pieces.calls (k : Nat) : ∀ (A0 : Option Addr) (c0 : Nat) (l0 : List Int) (A1 : Option Addr) (c1 : Nat) (l1 : List (S57)) (a2 : Int) (A3 : Option Addr) (c3 : Nat) (l3 : List Int) (P4_ : Nat → Prop) (u9000_ : Value) (l4 : List (S63)) (r1 : List (S63)) (r2 : Bool) (w0 w : World) (hB : Below w0.heap.size w0 w) (hr0 : ∀ W_, Kept w W_ (fun k_ => P4_ k_) → Kd.C (Kd.int .i64) W_ A0 l0.length l0) (hc0 : l0.length ≤ c0) (hr1 : ∀ W_, Kept w W_ (fun k_ => P4_ k_) → Kd.C k57 W_ A1 l1.length l1) (hc1 : l1.length ≤ c1) (hr3 : ∀ W_, Kept w W_ (fun k_ => P4_ k_) → Kd.C (Kd.int .i64) W_ A3 l3.length l3) (hc3 : l3.length ≤ c3) (ho4 : Kd.R k63 63 w w0.heap.size P4_ u9000_ l4) (h : spec_l9Pieces.f k l0 l1 a2 l3 l4 = some (r1, r2)),
  Calls Try.prog 33 #[.slice A0 l0.length c0, .slice A1 l1.length c1, .int .i64 a2, .slice A3 l3.length c3, u9000_] w fun e w' => ∃ v0_ : Value, e = .returned (.tuple #[v0_, .bool r2]) ∧ Kd.R k63 63 w' w0.heap.size (fun k_ => (P4_ k_ ∨ w.heap.size ≤ k_)) v0_ r1 ∧ Below w0.heap.size w0 w' ∧ Kept w w' (fun k_ => P4_ k_) := by
 induction k using Nat.strongRecOn with
 | _ k ih =>
 intro A0 c0 l0 A1 c1 l1 a2 A3 c3 l3 P4_ u9000_ l4 r1 r2 w0 w hB hr0 hc0 hr1 hc1 hr3 hc3 ho4 h
 cases k with
 | zero => exact absurd h (by simp [spec_l9Pieces.f])
 | succ k =>
 simp only [spec_l9Pieces.f] at h
 have hu63 := Try.underlying63
 have hu57 := Try.underlying57
 have HR0 := Aside0.mk hr0
 have HC0 := Aside0.mk hc0
 clear hr0 hc0
 have HR1 := Aside0.mk hr1
 have HC1 := Aside0.mk hc1
 clear hr1 hc1
 have HR3 := Aside0.mk hr3
 have HC3 := Aside0.mk hc3
 clear hr3 hc3
 have HO4 := Aside0.mk (show Kd.R k63 63 w w0.heap.size (fun k_ => (P4_ k_ ∨ w.heap.size ≤ k_)) u9000_ l4 from Kd.R_mono ho4 (fun k_ hk => (.inl hk)))
 have HK := Aside0.mk (Kept.refl w (fun k_ => P4_ k_))
 have HW0 := Aside0.mk hB.size
 have HB := Aside0.mk hB
 clear hB
 have H : (if 0 ≤ a2 then (if a2 < (l3.length : Int) then (if (rd l3 a2) < 0 then (some (([] : List (S63)), false)) else (if l4.length < 8796093022208 then (if 0 ≤ (rd l3 a2) then (if (rd l3 a2) < (l1.length : Int) then ((spec_l9Fits.f k l0 a2 ((rd_T57 l1 (rd l3 a2)).f0) ((rd_T57 l1 (rd l3 a2)).f1)).bind fun bt155 => (spec_l9Pieces.l0 k l0 l1 l3 (l4 ++ [(⟨a2, rd l3 a2⟩ : S63)]) bt155.1 (bt155.1.length : Int) 0)) else (none)) else (none)) else (none))) else (none)) else (none)) = some (r1, r2) := h
 clear h
 by_cases c6 : 0 ≤ a2
 ·rw [if_pos c6] at H
  have c6b0 : decide (0 ≤ a2) = true := decide_eq_true c6
  clear c6
  by_cases c7 : a2 < (l3.length : Int)
  ·rw [if_pos c7] at H
   have c7b0 : decide (a2 < (l3.length : Int)) = true := decide_eq_true c7
   clear c7
   by_cases c8 : (rd l3 a2) < 0
   ·rw [if_pos c8] at H
    have c8b0 : decide ((rd l3 a2) < 0) = true := decide_eq_true c8
    clear c8
    simp only [Option.some.injEq, Prod.mk.injEq] at H
    obtain ⟨rfl, rfl⟩ := H
    have p148 : 0 ≤ (a2 : Int) := lD
    have q148 : a2 < (l3.length : Int) := lD
    obtain ⟨ad148, e148, hx148_0⟩ := Kd.at_int (Kd.C_kept_now HR3.out HK.out) a2 p148 q148
    cases e148
    replace p148 := eq_true p148
    replace q148 := eq_true q148
    go_enter Try.func33, Try.ntmps33
    go_wp2
    go_ret2
    exact ⟨_, lE, by first | exact Kd.R_nil _ _ _ _ _ | exact Kd.N_nil _ _ _ _ _ | exact Kd.V_nil _ _ _ _ _ | exact Kd.Q_nil _ _ _ _ _ | exact Kd.S_nil _ _ _ _ _, lB, by repeat (first | (with_reducible first | exact HK.out | apply Kept.alloc | apply Kept.drewN | apply Kept.drew) | exact HK.out)⟩
   ·rw [if_neg c8] at H
    have c8b0 : decide ((rd l3 a2) < 0) = false := decide_eq_false c8
    clear c8
    by_cases c9 : l4.length < 8796093022208
    ·rw [if_pos c9] at H
     have LMc9 := Aside0.mk c9
     clear c9
     obtain ⟨y150, hy150⟩ : ∃ y_ : List (S63), y_ = (l4 ++ [(⟨a2, rd l3 a2⟩ : S63)]) := ⟨_, rfl⟩
     replace H : (if 0 ≤ (rd l3 a2) then (if (rd l3 a2) < (l1.length : Int) then ((spec_l9Fits.f k l0 a2 ((rd_T57 l1 (rd l3 a2)).f0) ((rd_T57 l1 (rd l3 a2)).f1)).bind fun bt155 => (spec_l9Pieces.l0 k l0 l1 l3 y150 bt155.1 (bt155.1.length : Int) 0)) else (none)) else (none)) = some (r1, r2) := by first | (rw [hy150]; with_reducible exact H) | (have H2_ := (Option.bind_some _ _).symm.trans H; rw [hy150]; with_reducible exact H2_) | (have H2_ := (Option.bind_some _ _).symm.trans H; with_reducible exact H2_) | with_reducible exact H | (rw [hy150]; exact H) | exact H
     have Ny150 := Aside0.mk hy150
     clear hy150
     by_cases c10 : 0 ≤ (rd l3 a2)
     ·rw [if_pos c10] at H
      have c10b0 : decide (0 ≤ (rd l3 a2)) = true := decide_eq_true c10
      clear c10
      by_cases c11 : (rd l3 a2) < (l1.length : Int)
      ·rw [if_pos c11] at H
       have c11b0 : decide ((rd l3 a2) < (l1.length : Int)) = true := decide_eq_true c11
       clear c11
       replace H := Option.bind_eq_some_iff.mp H
       obtain ⟨⟨t155, t158⟩, A120, H⟩ := H
       replace H : (spec_l9Pieces.l0 k l0 l1 l3 y150 t155 (t155.length : Int) 0) = some (r1, r2) := H
       have A12 := Aside0.mk A120
       clear A120
       have H' := Aside0.mk H
       clear H
       have p148 : 0 ≤ (a2 : Int) := lD
       have q148 : a2 < (l3.length : Int) := lD
       obtain ⟨ad148, e148, hx148_0⟩ := Kd.at_int (Kd.C_kept_now HR3.out HK.out) a2 p148 q148
       cases e148
       replace p148 := eq_true p148
       replace q148 := eq_true q148
       have p149 : 0 ≤ (a2 : Int) := lD
       have q149 : a2 < (l3.length : Int) := lD
       obtain ⟨ad149, e149, hx149_0⟩ := Kd.at_int (Kd.C_kept_now HR3.out HK.out) a2 p149 q149
       obtain rfl : ad148 = ad149 := (by injection e149)
       replace p149 := eq_true p149
       replace q149 := eq_true q149
       go_enter Try.func33, Try.ntmps33
       go_wp2_with (first | ((with_reducible refine gate_builtin (b := .append) (xs := #[.tmp 23, .tmp 30]) rfl ?_); at_builtin; refine Kd.R_append k63 (w0 := w0) w0.heap.size rfl (.tmp 23) (.tmp 30) 25 63 (.agg #[(.int .i64 0), (.int .i64 0)]) 16 rfl Try.underlying25 info63 rfl (by decide) (by omega) u9000_ l4 (⟨a2, rd l3 a2⟩ : S63) [.int .i64 a2, .int .i64 (rd l3 a2)] (fun k_ => (P4_ k_ ∨ w.heap.size ≤ k_)) (fun _ => False) rfl rfl ?aP (fun _ hk => hk.elim) ?aF ?aO ?aB ?aS ?aL ?_; (case aP => exact k63_mkM _ _ _ (⟨a2, rd l3 a2⟩ : S63)); (case aB => exact lB); (case aF => exact (fun k_ hk => (.inr (Nat.le_trans (by first | exact HK.out.1 | exact (show Kept w _ (fun k_ => P4_ k_) from by repeat (first | (with_reducible first | exact HK.out | apply Kept.alloc | apply Kept.drewN | apply Kept.drew) | exact HK.out)).1) hk)))); (case aO => exact (lR HO4.out)); (case aS => exact (below_size lB)); (case aL => have := LMc9.out; omega); intro v151 w13 ho hb hg hat; rw [← Ny150.out] at ho; have n0_ := Aside0.mk (hb); have n1_ := Aside0.mk (Kept.of_grown (S := (fun k_ => P4_ k_)) hg (by repeat (first | (with_reducible first | exact HK.out | apply Kept.alloc | apply Kept.drewN | apply Kept.drew) | exact HK.out)) (fun k_ e_ => (HO4.out.1 k_ e_))); have n2_ := Aside0.mk (ho); clear HB; clear HK; clear HO4; have HB := n0_; have HK := n1_; have HO152 := n2_; clear n0_ n1_ n2_; clear ho hb hg hat; have p153 : 0 ≤ (a2 : Int) := lD; have q153 : a2 < (l3.length : Int) := lD; obtain ⟨ad153, e153, hx153_0⟩ := Kd.at_int (Kd.C_kept_now HR3.out HK.out) a2 p153 q153; obtain rfl : ad148 = ad153 := (by injection e153); replace p153 := eq_true p153; replace q153 := eq_true q153; have p154 : 0 ≤ ((rd l3 a2) : Int) := lD; have q154 : (rd l3 a2) < (l1.length : Int) := lD; obtain ⟨ad154, A154_0, c154_0, e154, hx154_0, hx154_1, hl154_0, hi154_0⟩ := at_T57 (Kd.C_kept_now HR1.out HK.out) (rd l3 a2) p154 q154; cases e154; have HR154_0 := Aside0.mk hi154_0; have HC154_0 := Aside0.mk hl154_0; clear hi154_0 hl154_0; replace p154 := eq_true p154; replace q154 := eq_true q154) | ((with_reducible refine gate_callee (f := 42) rfl ?_); refine gl_ (some 42) (Try.func42) #[.slice A0 l0.length c0, .int .i64 a2, .agg #[.slice A154_0 ((rd_T57 l1 (rd l3 a2)).f0).length c154_0, .int .i64 ((rd_T57 l1 (rd l3 a2)).f1)]] ?_; (with_reducible refine (spec_l9Fits.calls k _ _ l0 a2 _ _ ((rd_T57 l1 (rd l3 a2)).f0) ((rd_T57 l1 (rd l3 a2)).f1) t155 t158 _ ?side1 ?side2 ?side3 ?side4 A12.out).mono ?_); (case side1 => exact Kd.C_kept_now HR0.out (by repeat (first | (with_reducible first | exact HK.out | apply Kept.alloc | apply Kept.drewN | apply Kept.drew) | exact HK.out))); (case side2 => exact HC0.out); (case side3 => repeat (first | exact (by repeat (first | (with_reducible exact HR154_0.out) | (with_reducible refine Kd.C_alloc ?_ _) | (with_reducible refine Kd.C_drewN ?_ _) | (with_reducible refine Kd.C_drew ?_) | exact HR154_0.out)) | (with_reducible refine Kd.C_alloc ?_ _) | (with_reducible refine Kd.C_drewN ?_ _) | (with_reducible refine Kd.C_drew ?_))); (case side4 => exact HC154_0.out); rintro e w14 ⟨v156, rfl, ho0, hb⟩; refine ⟨_, rfl, ?_⟩; have n0_ := Aside0.mk (Kd.R_below (lR HO152.out) hb); have n1_ := Aside0.mk (Kd.R_lower (Kd.R_newM (M := fun k_ => (P4_ k_ ∨ w.heap.size ≤ k_)) ho0 (by first | exact HK.out.1 | exact (show Kept w _ (fun k_ => P4_ k_) from by repeat (first | (with_reducible first | exact HK.out | apply Kept.alloc | apply Kept.drewN | apply Kept.drew) | exact HK.out)).1) (fun k_ h_ => .inr h_)) (below_size lB)); have n2_ := Aside0.mk (Kd.C_below (by repeat (first | (with_reducible exact HR154_0.out) | (with_reducible refine Kd.C_alloc ?_ _) | (with_reducible refine Kd.C_drewN ?_ _) | (with_reducible refine Kd.C_drew ?_) | exact HR154_0.out)) hb); have n3_ := Aside0.mk (Kept.below (S := (fun k_ => P4_ k_)) (by repeat (first | (with_reducible first | exact HK.out | apply Kept.alloc | apply Kept.drewN | apply Kept.drew) | exact HK.out)) hb); have n4_ := Aside0.mk (below_step lB hb); clear HO152; clear HR154_0; clear HK; clear HB; have HO152 := n0_; have HO157 := n1_; have HR154_0 := n2_; have HK := n3_; have HB := n4_; clear n0_ n1_ n2_ n3_ n4_; (try clear hb); (try clear hb2); (try clear hk); (try clear hi); (try clear ho0); obtain ⟨Ao15, co15, eo15⟩ := Kd.R_slice HO157.out; subst eo15))
       go_loopg [4, 47] k (fun kq v4 v47 w' => ∃ (x4_1 : List (S63)) (x47_1 : Int), v47 = .int .i64 x47_1 ∧ Aside0 (spec_l9Pieces.l0 kq l0 l1 l3 x4_1 t155 (t155.length : Int) x47_1 = some (r1, r2)) ∧ Aside0 (kq ≤ k) ∧ Aside0 (Kd.R k63 63 w' w0.heap.size (fun k_ => (P4_ k_ ∨ w.heap.size ≤ k_)) v4 x4_1) ∧ Aside0 (Kd.R (Kd.int .i64) 3 w' w0.heap.size (fun k_ => (P4_ k_ ∨ w.heap.size ≤ k_)) (.slice Ao15 t155.length co15) t155) ∧ Aside0 (Kept w w' (fun k_ => P4_ k_)) ∧ Aside0 (Below w0.heap.size w0 w'))
       case atStart => exact ⟨(y150), (0), lF, H', ⟨Nat.le_refl _⟩, ⟨lR HO152.out⟩, ⟨by (with_reducible repeat (first | apply Kd.R_alloc | apply Kd.R_drewN | apply Kd.R_drew)); exact Kd.R_mono HO157.out (fun _ hk => hk.1)⟩, ⟨by repeat (first | (with_reducible first | exact HK.out | apply Kept.alloc | apply Kept.drewN | apply Kept.drew) | exact HK.out)⟩, ⟨lB⟩⟩
       case round =>
        clear H'
        try clear c1
        try clear p1
        try clear q1
        try clear hx1
        try clear p2
        try clear c3
        try clear c4
        try clear c6
        try clear c6b0
        try clear c7
        try clear c7b0
        try clear c8
        try clear c8b0
        try clear c9
        try clear c10
        try clear c10b0
        try clear c11
        try clear c11b0
        try clear p14
        try clear q14
        try clear hx14
        try clear c15
        try clear p15
        try clear q15
        try clear hx15
        try clear hx148_0
        try clear hx149_0
        try clear hx153_0
        try clear hx154_0
        try clear hx154_1
        try clear p148
        try clear p149
        try clear p153
        try clear p154
        try clear q148
        try clear q149
        try clear q153
        try clear q154
        obtain ⟨x4_1, x47_1, rfl, HA, HK1, HO_4, HO_45, HK, HB⟩ := hrel
        cases gk with
        | zero => exact absurd HA.out (by simp [spec_l9Pieces.l0])
        | succ k1 =>
         have H := HA.out
         clear HA
         simp only [spec_l9Pieces.l0] at H
         by_cases c16 : x47_1 < (t155.length : Int)
         ·rw [if_pos c16] at H
          have c16b0 : decide (x47_1 < (t155.length : Int)) = true := decide_eq_true c16
          clear c16
          by_cases c17 : 0 ≤ x47_1
          ·rw [if_pos c17] at H
           have c17b0 : decide (0 ≤ x47_1) = true := decide_eq_true c17
           clear c17
           by_cases c18 : x47_1 < (t155.length : Int)
           ·rw [if_pos c18] at H
            have c18b0 : decide (x47_1 < (t155.length : Int)) = true := decide_eq_true c18
            clear c18
            replace H := Option.bind_eq_some_iff.mp H
            obtain ⟨⟨t160, t163⟩, A190, H⟩ := H
            replace H : (if t163 = true then (spec_l9Pieces.l0 k1 l0 l1 l3 t160 t155 (t155.length : Int) (wrap64 (x47_1 + 1))) else (some (([] : List (S63)), false))) = some (r1, r2) := H
            have A19 := Aside0.mk A190
            clear A190
            by_cases c20 : t163 = true
            ·subst c20
             rw [if_pos rfl] at H
             have H' := Aside0.mk H
             clear H
             have p159 : 0 ≤ (x47_1 : Int) := lD
             have q159 : x47_1 < (t155.length : Int) := lD
             obtain ⟨ad159, e159, hx159_0⟩ := Kd.at_int (Kd.R_reads' HO_45.out).2.2 x47_1 p159 q159
             cases e159
             replace p159 := eq_true p159
             replace q159 := eq_true q159
             obtain ⟨Ao21, co21, eo21⟩ := Kd.R_slice HO_4.out
             subst eo21
             go_wp2_with (first | ((with_reducible refine gate_callee (f := 33) rfl ?_); refine gl_ (some 57) (Try.func33) #[.slice A0 l0.length c0, .slice (some ad154) l1.length c1, .int .i64 (rd t155 x47_1), .slice (some ad148) l3.length c3, .slice Ao21 x4_1.length co21] ?_; (with_reducible refine (ih k1 (by have := HK1.out; omega) _ _ l0 _ _ l1 (rd t155 x47_1) _ _ l3 (fun k_ => some k_ = (.slice Ao21 x4_1.length co21 : Value).ownBlock) (.slice Ao21 x4_1.length co21) x4_1 t160 true w0 _ ?side1 ?side2 ?side3 ?side4 ?side5 ?side6 ?side7 ?side8 A19.out).mono ?_); (case side1 => repeat (first | (with_reducible first | exact HB.out | apply below_alloc | apply pw_below_drewN | apply below_drew1) | exact HB.out)); (case side2 => exact Kd.C_kept_call HR0.out (by repeat (first | (with_reducible first | exact HK.out | apply Kept.alloc | apply Kept.drewN | apply Kept.drew) | exact HK.out)) (fun k_ hs_ => (fun e_ => (HO_4.out.1 k_ e_.symm)) hs_)); (case side3 => exact HC0.out); (case side4 => exact Kd.C_kept_call HR1.out (by repeat (first | (with_reducible first | exact HK.out | apply Kept.alloc | apply Kept.drewN | apply Kept.drew) | exact HK.out)) (fun k_ hs_ => (fun e_ => (HO_4.out.1 k_ e_.symm)) hs_)); (case side5 => exact HC1.out); (case side6 => exact Kd.C_kept_call HR3.out (by repeat (first | (with_reducible first | exact HK.out | apply Kept.alloc | apply Kept.drewN | apply Kept.drew) | exact HK.out)) (fun k_ hs_ => (fun e_ => (HO_4.out.1 k_ e_.symm)) hs_)); (case side7 => exact HC3.out); (case side8 => exact Kd.R_tight rfl HO_4.out); rintro e w22 ⟨v161, rfl, ho0, hb, hkp⟩; refine ⟨_, rfl, ?_⟩; have n0_ := Aside0.mk (Kd.R_mono (ok' := fun k_ => (P4_ k_ ∨ w.heap.size ≤ k_)) (Kd.R_keptB ((Kd.R_apart' HO_45.out (Kd.R_typed HO_4.out) (by decide))) hkp (fun k_ hk_ hs_ => (hk_.2) hs_)) (fun k_ hk_ => hk_.1.1)); have n1_ := Aside0.mk (Kd.R_mono (ok' := fun k_ => (P4_ k_ ∨ w.heap.size ≤ k_)) ho0 (fun k_ hk_ => Or.elim hk_ (fun hs_ => (HO_4.out.1 k_ (hs_).symm)) (fun hn_ => (.inr (Nat.le_trans (by first | exact HK.out.1 | exact (show Kept w _ (fun k_ => P4_ k_) from by repeat (first | (with_reducible first | exact HK.out | apply Kept.alloc | apply Kept.drewN | apply Kept.drew) | exact HK.out)).1) hn_))))); have n2_ := Aside0.mk (Kept.then_ (S := (fun k_ => P4_ k_)) (by repeat (first | (with_reducible first | exact HK.out | apply Kept.alloc | apply Kept.drewN | apply Kept.drew) | exact HK.out)) hkp (fun k_ hs_ => (fun e_ => (HO_4.out.1 k_ e_.symm)) hs_)); have n3_ := Aside0.mk (hb); clear HO_45; clear HK; clear HB; clear HO_4; have HO_45 := n0_; have HO162 := n1_; have HK := n2_; have HB := n3_; clear n0_ n1_ n2_ n3_; (try clear hb); (try clear hkp); (try clear ho0)))
             go_roundg k1
             case measure => have := HK1.out; omega
             case rel => exact ⟨(t160), (wrap64 (x47_1 + 1)), lF, H', ⟨by have := HK1.out; omega⟩, ⟨lR HO162.out⟩, ⟨lR HO_45.out⟩, ⟨by repeat (first | (with_reducible first | exact HK.out | apply Kept.alloc | apply Kept.drewN | apply Kept.drew) | exact HK.out)⟩, ⟨lB⟩⟩
            ·replace c20 := Bool.eq_false_iff.mpr c20
             subst c20
             rw [if_neg (show ¬ (false = true) by decide)] at H
             simp only [Option.some.injEq, Prod.mk.injEq] at H
             obtain ⟨rfl, rfl⟩ := H
             have p159 : 0 ≤ (x47_1 : Int) := lD
             have q159 : x47_1 < (t155.length : Int) := lD
             obtain ⟨ad159, e159, hx159_0⟩ := Kd.at_int (Kd.R_reads' HO_45.out).2.2 x47_1 p159 q159
             cases e159
             replace p159 := eq_true p159
             replace q159 := eq_true q159
             obtain ⟨Ao23, co23, eo23⟩ := Kd.R_slice HO_4.out
             subst eo23
             go_wp2_with (first | ((with_reducible refine gate_callee (f := 33) rfl ?_); refine gl_ (some 57) (Try.func33) #[.slice A0 l0.length c0, .slice (some ad154) l1.length c1, .int .i64 (rd t155 x47_1), .slice (some ad148) l3.length c3, .slice Ao23 x4_1.length co23] ?_; (with_reducible refine (ih k1 (by have := HK1.out; omega) _ _ l0 _ _ l1 (rd t155 x47_1) _ _ l3 (fun k_ => some k_ = (.slice Ao23 x4_1.length co23 : Value).ownBlock) (.slice Ao23 x4_1.length co23) x4_1 t160 false w0 _ ?side1 ?side2 ?side3 ?side4 ?side5 ?side6 ?side7 ?side8 A19.out).mono ?_); (case side1 => repeat (first | (with_reducible first | exact HB.out | apply below_alloc | apply pw_below_drewN | apply below_drew1) | exact HB.out)); (case side2 => exact Kd.C_kept_call HR0.out (by repeat (first | (with_reducible first | exact HK.out | apply Kept.alloc | apply Kept.drewN | apply Kept.drew) | exact HK.out)) (fun k_ hs_ => (fun e_ => (HO_4.out.1 k_ e_.symm)) hs_)); (case side3 => exact HC0.out); (case side4 => exact Kd.C_kept_call HR1.out (by repeat (first | (with_reducible first | exact HK.out | apply Kept.alloc | apply Kept.drewN | apply Kept.drew) | exact HK.out)) (fun k_ hs_ => (fun e_ => (HO_4.out.1 k_ e_.symm)) hs_)); (case side5 => exact HC1.out); (case side6 => exact Kd.C_kept_call HR3.out (by repeat (first | (with_reducible first | exact HK.out | apply Kept.alloc | apply Kept.drewN | apply Kept.drew) | exact HK.out)) (fun k_ hs_ => (fun e_ => (HO_4.out.1 k_ e_.symm)) hs_)); (case side7 => exact HC3.out); (case side8 => exact Kd.R_tight rfl HO_4.out); rintro e w24 ⟨v161, rfl, ho0, hb, hkp⟩; refine ⟨_, rfl, ?_⟩; have n0_ := Aside0.mk (Kd.R_mono (ok' := fun k_ => (P4_ k_ ∨ w.heap.size ≤ k_)) (Kd.R_keptB ((Kd.R_apart' HO_45.out (Kd.R_typed HO_4.out) (by decide))) hkp (fun k_ hk_ hs_ => (hk_.2) hs_)) (fun k_ hk_ => hk_.1.1)); have n1_ := Aside0.mk (Kd.R_mono (ok' := fun k_ => (P4_ k_ ∨ w.heap.size ≤ k_)) ho0 (fun k_ hk_ => Or.elim hk_ (fun hs_ => (HO_4.out.1 k_ (hs_).symm)) (fun hn_ => (.inr (Nat.le_trans (by first | exact HK.out.1 | exact (show Kept w _ (fun k_ => P4_ k_) from by repeat (first | (with_reducible first | exact HK.out | apply Kept.alloc | apply Kept.drewN | apply Kept.drew) | exact HK.out)).1) hn_))))); have n2_ := Aside0.mk (Kept.then_ (S := (fun k_ => P4_ k_)) (by repeat (first | (with_reducible first | exact HK.out | apply Kept.alloc | apply Kept.drewN | apply Kept.drew) | exact HK.out)) hkp (fun k_ hs_ => (fun e_ => (HO_4.out.1 k_ e_.symm)) hs_)); have n3_ := Aside0.mk (hb); clear HO_45; clear HK; clear HB; clear HO_4; have HO_45 := n0_; have HO162 := n1_; have HK := n2_; have HB := n3_; clear n0_ n1_ n2_ n3_; (try clear hb); (try clear hkp); (try clear ho0)))
             go_ret2
             exact ⟨_, lE, by first | exact Kd.R_nil _ _ _ _ _ | exact Kd.N_nil _ _ _ _ _ | exact Kd.V_nil _ _ _ _ _ | exact Kd.Q_nil _ _ _ _ _ | exact Kd.S_nil _ _ _ _ _, lB, by repeat (first | (with_reducible first | exact HK.out | apply Kept.alloc | apply Kept.drewN | apply Kept.drew) | exact HK.out)⟩
           ·rw [if_neg c18] at H
            exact absurd H (by simp)
          ·rw [if_neg c17] at H
           exact absurd H (by simp)
         ·rw [if_neg c16] at H
          have c16b0 : decide (x47_1 < (t155.length : Int)) = false := decide_eq_false c16
          clear c16
          simp only [Option.some.injEq, Prod.mk.injEq] at H
          obtain ⟨rfl, rfl⟩ := H
          go_wp2
          go_ret2
          exact ⟨_, lE, lR HO_4.out, lB, by repeat (first | (with_reducible first | exact HK.out | apply Kept.alloc | apply Kept.drewN | apply Kept.drew) | exact HK.out)⟩
      ·rw [if_neg c11] at H
       exact absurd H (by simp)
     ·rw [if_neg c10] at H
      exact absurd H (by simp)
    ·rw [if_neg c9] at H
     exact absurd H (by simp)
  ·rw [if_neg c7] at H
   exact absurd H (by simp)
 ·rw [if_neg c6] at H
  exact absurd H (by simp)

end Go.Proofs.Ytfdbdbihhgabpaa.Q
