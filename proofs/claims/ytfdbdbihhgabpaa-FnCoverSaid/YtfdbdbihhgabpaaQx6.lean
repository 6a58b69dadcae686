-- Written by the program wip/tools/pr.py of this claim's session, over the kit's print.py.
import Derived.Test.YtfdbdbihhgabpaaQx0
import Derived.Test.YtfdbdbihhgabpaaQx5
namespace Go.Proofs.Ytfdbdbihhgabpaa.Q
open Go.RowKit Go.Proofs.YtfdbdbihhgabpaaW.PrintWords Go.Proofs.YtfdbdbihhgabpaaW.PrintLast Go.Proofs.YtfdbdbihhgabpaaW.PrintMore
attribute [local go_sem] max2_int min2_int max_two min_two max_three min_three max_four min_four   -- for this text's walks alone
set_option linter.unusedVariables false
set_option linter.unusedSimpArgs false

/-! ### impl_covers: function 37 -/
mutual
def impl_covers.l0 : Nat → List Int → List (S57) → List Int → List Int → Int → Option (List Int × List Int)
 | 0, _, _, _, _, _ => none
 | k + 1, x0, x1, x6, x7, x8 => if x8 ≥ 0 then (if 0 ≤ x8 then (if x8 < (x7.length : Int) then (impl_covers.l1 k x0 x1 x6 (x7.set (x8 : Int).toNat (-1)) x8 x1 (x1.length : Int) 0) else (none)) else (none)) else (some (x6, x7))
def impl_covers.l1 : Nat → List Int → List (S57) → List Int → List Int → Int → List (S57) → Int → Int → Option (List Int × List Int)
 | 0, _, _, _, _, _, _, _, _ => none
 | k + 1, x0, x1, x6, x7, x8, x32, x33, x34 => if x34 < x33 then (if 0 ≤ x34 then (if x34 < (x32.length : Int) then ((impl_fits.f k x0 x8 ((rd_T57 x32 x34).f0) ((rd_T57 x32 x34).f1)).bind fun bt213 => (impl_covers.l2 k x0 x1 x6 x7 x8 x34 bt213.2 ((rd_T57 x32 x34).f1) x32 x33 x34 bt213.1 (bt213.1.length : Int) 0)) else (none)) else (none)) else (impl_covers.l0 k x0 x1 x6 x7 (wrap64 (x8 - 1)))
def impl_covers.l2 : Nat → List Int → List (S57) → List Int → List Int → Int → Int → Bool → Int → List (S57) → Int → Int → List Int → Int → Int → Option (List Int × List Int)
 | 0, _, _, _, _, _, _, _, _, _, _, _, _, _, _ => none
 | k + 1, x0, x1, x6, x7, x8, x9, x12, x13, x32, x33, x34, x48, x49, x50 => if x50 < x49 then (if 0 ≤ x50 then (if x50 < (x48.length : Int) then (if x12 = true then (if 0 ≤ (rd x48 x50) then (if (rd x48 x50) < (x7.length : Int) then (if (rd x48 x50) < (x6.length : Int) then (impl_covers.l2 k x0 x1 x6 x7 x8 x9 (decide ((rd x7 (rd x48 x50)) ≥ 0)) (wrap64 (x13 + (rd x6 (rd x48 x50)))) x32 x33 x34 x48 x49 (wrap64 (x50 + 1))) else (none)) else (none)) else (none)) else (if 0 ≤ (rd x48 x50) then (if (rd x48 x50) < (x6.length : Int) then (impl_covers.l2 k x0 x1 x6 x7 x8 x9 false (wrap64 (x13 + (rd x6 (rd x48 x50)))) x32 x33 x34 x48 x49 (wrap64 (x50 + 1))) else (none)) else (none))) else (none)) else (none)) else (if x12 = true then (if 0 ≤ x8 then (if x8 < (x7.length : Int) then (if (rd x7 x8) < 0 then (if x8 < (x6.length : Int) then (impl_covers.l1 k x0 x1 (x6.set (x8 : Int).toNat x13) (x7.set (x8 : Int).toNat x9) x8 x32 x33 (wrap64 (x34 + 1))) else (none)) else (if x8 < (x6.length : Int) then (if x13 < (rd x6 x8) then (impl_covers.l1 k x0 x1 (x6.set (x8 : Int).toNat x13) (x7.set (x8 : Int).toNat x9) x8 x32 x33 (wrap64 (x34 + 1))) else (impl_covers.l1 k x0 x1 x6 x7 x8 x32 x33 (wrap64 (x34 + 1)))) else (none))) else (none)) else (none)) else (impl_covers.l1 k x0 x1 x6 x7 x8 x32 x33 (wrap64 (x34 + 1))))
end
def impl_covers.f (k : Nat) (l0 : List Int) (l1 : List (S57)) : Option (List Int × List Int) := if 0 ≤ (l0.length : Int) then (if ((l0.length : Int) : Int).toNat ≤ 35184372088832 then (impl_covers.l0 k l0 l1 (List.replicate ((l0.length : Int) : Int).toNat 0) (List.replicate ((l0.length : Int) : Int).toNat 0) (wrap64 ((l0.length : Int) - 1))) else (none)) else (none)
theorem impl_covers.mono_l : ∀ k, (∀ y0 y1 y2 y3 y4, LeO (impl_covers.l0 k y0 y1 y2 y3 y4) (impl_covers.l0 (k + 1) y0 y1 y2 y3 y4)) ∧ (∀ y0 y1 y2 y3 y4 y5 y6 y7, LeO (impl_covers.l1 k y0 y1 y2 y3 y4 y5 y6 y7) (impl_covers.l1 (k + 1) y0 y1 y2 y3 y4 y5 y6 y7)) ∧ (∀ y0 y1 y2 y3 y4 y5 y6 y7 y8 y9 y10 y11 y12 y13, LeO (impl_covers.l2 k y0 y1 y2 y3 y4 y5 y6 y7 y8 y9 y10 y11 y12 y13) (impl_covers.l2 (k + 1) y0 y1 y2 y3 y4 y5 y6 y7 y8 y9 y10 y11 y12 y13))
 | 0 => ⟨fun _ _ _ _ _ r h => by simp [impl_covers.l0] at h, fun _ _ _ _ _ _ _ _ r h => by simp [impl_covers.l1] at h, fun _ _ _ _ _ _ _ _ _ _ _ _ _ _ r h => by simp [impl_covers.l2] at h⟩
 | k + 1 => by
  obtain ⟨ih0, ih1, ih2⟩ := impl_covers.mono_l k
  refine ⟨?_, ?_, ?_⟩
  ·intro y0 y1 y2 y3 y4
   unfold impl_covers.l0
   repeat' first
   | with_reducible apply ih0
   | with_reducible apply ih1
   | with_reducible apply ih2
   | with_reducible apply impl_fits.mono
   | (with_reducible exact LeO.refl _)
   | (with_reducible exact LeO.none _)
   | (with_reducible refine LeO.ite ?_ ?_)
   | (with_reducible refine LeO.bind ?_ (fun _ => ?_))
   | apply ih0
   | apply ih1
   | apply ih2
   | apply impl_fits.mono
   | exact LeO.none _
   | refine LeO.ite ?_ ?_
   | refine LeO.bind ?_ (fun _ => ?_)
  ·intro y0 y1 y2 y3 y4 y5 y6 y7
   unfold impl_covers.l1
   repeat' first
   | with_reducible apply ih0
   | with_reducible apply ih1
   | with_reducible apply ih2
   | with_reducible apply impl_fits.mono
   | (with_reducible exact LeO.refl _)
   | (with_reducible exact LeO.none _)
   | (with_reducible refine LeO.ite ?_ ?_)
   | (with_reducible refine LeO.bind ?_ (fun _ => ?_))
   | apply ih0
   | apply ih1
   | apply ih2
   | apply impl_fits.mono
   | exact LeO.none _
   | refine LeO.ite ?_ ?_
   | refine LeO.bind ?_ (fun _ => ?_)
  ·intro y0 y1 y2 y3 y4 y5 y6 y7 y8 y9 y10 y11 y12 y13
   unfold impl_covers.l2
   repeat' first
   | with_reducible apply ih0
   | with_reducible apply ih1
   | with_reducible apply ih2
   | with_reducible apply impl_fits.mono
   | (with_reducible exact LeO.refl _)
   | (with_reducible exact LeO.none _)
   | (with_reducible refine LeO.ite ?_ ?_)
   | (with_reducible refine LeO.bind ?_ (fun _ => ?_))
   | apply ih0
   | apply ih1
   | apply ih2
   | apply impl_fits.mono
   | exact LeO.none _
   | refine LeO.ite ?_ ?_
   | refine LeO.bind ?_ (fun _ => ?_)
theorem impl_covers.mono : ∀ a0 a1 k, LeO (impl_covers.f k a0 a1) (impl_covers.f (k + 1) a0 a1) := by
 intro a0 a1 k
 obtain ⟨ih0, ih1, ih2⟩ := impl_covers.mono_l k
 unfold impl_covers.f
 repeat' first
   | with_reducible apply ih0
   | with_reducible apply ih1
   | with_reducible apply ih2
   | with_reducible apply impl_fits.mono
   | (with_reducible exact LeO.refl _)
   | (with_reducible exact LeO.none _)
   | (with_reducible refine LeO.ite ?_ ?_)
   | (with_reducible refine LeO.bind ?_ (fun _ => ?_))
   | apply ih0
   | apply ih1
   | apply ih2
   | apply impl_fits.mono
   | exact LeO.none _
   | refine LeO.ite ?_ ?_
   | refine LeO.bind ?_ (fun _ => ?_)
def impl_covers.T1 : Bool × List (List Nat × List Nat) := (true, [([], []), ([0], [0]), ([1, 1], [1]), ([], []), ([3], [3]), ([4, 4], [4]), ([2, 0, 1, 2], [2]), ([5, 6, 0, 1, 2, 3, 4, 5, 6], [5])])
def impl_covers.B1 : List Nat := [0, 1, 3, 0, 8, 24, 7, 127]
theorem impl_covers.tab1 : rtab .any (opsOf Try.f37 1) = impl_covers.T1 := by kernel_rfl
theorem impl_covers.bits1 : waitsOk impl_covers.T1.2 impl_covers.B1 = true := by kernel_rfl
set_option maxHeartbeats 8000000 in
set_option maxRecDepth 100000 in
theorem impl_covers.calls (k : Nat) (A0 : Option Addr) (c0 : Nat) (l0 : List Int) (A1 : Option Addr) (c1 : Nat) (l1 : List (S57)) (r1 : List Int) (r2 : List Int) (w : World) (hr0 : Kd.C (Kd.int .i64) w A0 l0.length l0) (hc0 : l0.length ≤ c0) (hr1 : Kd.C k57 w A1 l1.length l1) (hc1 : l1.length ≤ c1) (h : impl_covers.f k l0 l1 = some (r1, r2)) :
  Calls Try.prog 37 #[.slice A0 l0.length c0, .slice A1 l1.length c1] w fun e w' => ∃ v0_ v1_ : Value, e = .returned (.tuple #[v0_, v1_]) ∧ Kd.R (Kd.int .i64) 3 w' w.heap.size (fun k_ => some k_ ≠ (v1_ : Value).ownBlock) v0_ r1 ∧ Kd.R (Kd.int .i64) 3 w' w.heap.size (fun k_ => some k_ ≠ (v0_ : Value).ownBlock) v1_ r2 ∧ Below w.heap.size w w' := by
 have hu57 := Try.underlying57
 have HR0 := Aside0.mk hr0
 have HC0 := Aside0.mk hc0
 clear hr0 hc0
 have HR1 := Aside0.mk hr1
 have HC1 := Aside0.mk hc1
 clear hr1 hc1
 have HB := Aside0.mk (Below.refl w.heap.size w)
 have H : (if 0 ≤ (l0.length : Int) then (if ((l0.length : Int) : Int).toNat ≤ 35184372088832 then (impl_covers.l0 k l0 l1 (List.replicate ((l0.length : Int) : Int).toNat 0) (List.replicate ((l0.length : Int) : Int).toNat 0) (wrap64 ((l0.length : Int) - 1))) else (none)) else (none)) = some (r1, r2) := h
 clear h
 by_cases c3 : 0 ≤ (l0.length : Int)
 ·rw [if_pos c3] at H
  have c3b0 := eq_true c3
  have c3b1 : decide (0 ≤ (l0.length : Int)) = true := decide_eq_true c3
  clear c3
  by_cases c4 : ((l0.length : Int) : Int).toNat ≤ 35184372088832
  ·rw [if_pos c4] at H
   have c4b0 := eq_true c4
   have c4b1 : decide (((l0.length : Int) : Int).toNat ≤ 35184372088832) = true := decide_eq_true c4
   clear c4
   obtain ⟨y204, hy204⟩ : ∃ y_ : List Int, y_ = (List.replicate ((l0.length : Int) : Int).toNat 0) := ⟨_, rfl⟩
   replace H : (impl_covers.l0 k l0 l1 y204 (List.replicate ((l0.length : Int) : Int).toNat 0) (wrap64 ((l0.length : Int) - 1))) = some (r1, r2) := by first | (rw [hy204]; with_reducible exact H) | (have H2_ := (Option.bind_some _ _).symm.trans H; rw [hy204]; with_reducible exact H2_) | (have H2_ := (Option.bind_some _ _).symm.trans H; with_reducible exact H2_) | with_reducible exact H | (rw [hy204]; exact H) | exact H
   have Ny204 := Aside0.mk hy204
   clear hy204
   obtain ⟨y207, hy207⟩ : ∃ y_ : List Int, y_ = (List.replicate ((l0.length : Int) : Int).toNat 0) := ⟨_, rfl⟩
   replace H : (impl_covers.l0 k l0 l1 y204 y207 (wrap64 ((l0.length : Int) - 1))) = some (r1, r2) := by first | (rw [hy207]; with_reducible exact H) | (have H2_ := (Option.bind_some _ _).symm.trans H; rw [hy207]; with_reducible exact H2_) | (have H2_ := (Option.bind_some _ _).symm.trans H; with_reducible exact H2_) | with_reducible exact H | (rw [hy207]; exact H) | exact H
   have Ny207 := Aside0.mk hy207
   clear hy207
   have H' := Aside0.mk H
   clear H
   go_enter Try.func37, Try.ntmps37
   try go_wp2
   have n0_ := Aside0.mk (below_drew1 HB.out)
   clear HB
   have HB := n0_
   clear n0_
   refine start_ (n := 8) (S := fun w' => True) (ds := []) (bs 8 0) kR rfl kR trivial (fun hHeld => ?_); refine with_tabW impl_covers.tab1 impl_covers.bits1 (fun HT_ HW_ => ?_)
   generalize w.drew = w5 at HB hHeld ⊢
   refine pur_ 0 16 (bs 8 1) (any_of HT_.out kR) ?_
   refine pur_ 1 17 (bs 8 3) (any_of HT_.out kR) ?_
   refine pur_ 3 19 (bs 8 11) (any_of HT_.out kR) ?_
   refine pur_ 4 20 (bs 8 27) (any_of HT_.out kR) ?_
   refine join_ (σ := Value × Value) 1 #[true, true, true, true, true, true, true, false] (fun s_ => [(18, s_.1), (21, s_.2), (6, s_.1)]) (fun s_ w' => (Kd.R (Kd.int .i64) 3 w' w.heap.size (fun k_ => some k_ ≠ (s_.2 : Value).ownBlock) s_.1 y204) ∧ (Kd.R (Kd.int .i64) 3 w' w.heap.size (fun k_ => some k_ ≠ (s_.1 : Value).ownBlock) s_.2 y207) ∧ (Below w.heap.size w w')) ?_ ?_
   rotate_left
   ·intro hCont
    refine two_ (i := 2) (j := 5) (Ni := some 18) (Nj := some 21) (bs 8 31) (bs 8 59) rfl rfl rfl rfl (two_of HT_.out (by kernel_rfl)) (by decide) (by decide) (fun K hK => ?_) (fun K hK => ?_)
    ·skip
     refine Kd.R_make_step (Kd.int .i64) _ 3 (by rfl) (N := 18) rfl 22 _ _ rfl (l0.length : Int) rfl rfl Try.underlying22 (.int .i64 0) 8 info3 rfl (by decide) (by omega) 0 (ok := fun _ => True) (okp := fun _ => True) rfl (fun _ hk => hk) trivial (lD) (Nat.le_trans (Nat.mul_le_mul_right _ (lD : (l0.length : Int).toNat ≤ 35184372088832)) (by omega)) (Below.refl _ _) (Nat.le_refl _) ?_
     intro v205 w6 ho7 hb hg_ hnew_
     clear hg_ hnew_
     (first | rw [← Ny204.out] at ho7 | (simp only [Int.reduceToNat] at ho7; rw [← Ny204.out] at ho7))
     have n0_ := Aside0.mk (Kd.R_lower ho7 (below_size lB))
     have n1_ := Aside0.mk (below_step lB hb)
     clear HB
     have HO206 := n0_
     have HB := n1_
     clear n0_ n1_
     clear hb ho7
     refine hK.out _ _ trivial (fun hHeld => ?_)
     clear hK K
     refine norm_ (a' := ?_) ?_ ?_
     rotate_left
     ·show Act.put _ (some 18) _ = _
      simp only [Act.put, List.setIfInBounds_toArray, List.set_cons_zero, List.set_cons_succ, i64_w, i32_w]
      rfl
     refine pur_ 6 6 (bs 8 95) (any_of HT_.out kR) ?_
     refine one_ (i := 5) (N := some 21) (bs 8 127) rfl rfl (one_of HT_.out (by kernel_rfl)) (by decide) (fun K hK => ?_)
     refine Kd.R_make_step (Kd.int .i64) _ 3 (by rfl) (N := 21) rfl 22 _ _ rfl (l0.length : Int) rfl rfl Try.underlying22 (.int .i64 0) 8 info3 rfl (by decide) (by omega) 0 (ok := fun _ => True) (okp := fun _ => True) rfl (fun _ hk => hk) trivial (lD) (Nat.le_trans (Nat.mul_le_mul_right _ (lD : (l0.length : Int).toNat ≤ 35184372088832)) (by omega)) (Below.refl _ _) (Nat.le_refl _) ?_
     intro v208 w8 ho9 hb hg_ hnew_
     clear hg_ hnew_
     (first | rw [← Ny207.out] at ho9 | (simp only [Int.reduceToNat] at ho9; rw [← Ny207.out] at ho9))
     have n0_ := Aside0.mk (Kd.R_elder' (lR HO206.out) (Kd.R_base ho9) hb)
     have n1_ := Aside0.mk (Kd.R_lower (Kd.R_new' ho9 (Kd.R_lt (lR HO206.out))) (below_size lB))
     have n2_ := Aside0.mk (below_step lB hb)
     clear HO206
     clear HB
     have HO206 := n0_
     have HO209 := n1_
     have HB := n2_
     clear n0_ n1_ n2_
     clear hb ho9
     refine hK.out _ _ trivial (fun hHeld => ?_)
     clear hK K
     refine norm_ (a' := ?_) ?_ ?_
     rotate_left
     ·show Act.put _ (some 21) _ = _
      simp only [Act.put, List.setIfInBounds_toArray, List.set_cons_zero, List.set_cons_succ, i64_w, i32_w]
      rfl
     exact norm_ (by simp only [putAll, Act.put, List.setIfInBounds_toArray, List.set_cons_zero, List.set_cons_succ]) (hCont (v205, v208) _ ⟨(by (with_reducible repeat (first | apply Kd.R_alloc | apply Kd.R_drewN | apply Kd.R_drew)); exact Kd.R_mono HO206.out (fun _ hk => hk.2)), (by (with_reducible repeat (first | apply Kd.R_alloc | apply Kd.R_drewN | apply Kd.R_drew)); exact Kd.R_mono HO209.out (fun _ hk => hk.2)), lB⟩)
    ·skip
     refine Kd.R_make_step (Kd.int .i64) _ 3 (by rfl) (N := 21) rfl 22 _ _ rfl (l0.length : Int) rfl rfl Try.underlying22 (.int .i64 0) 8 info3 rfl (by decide) (by omega) 0 (ok := fun _ => True) (okp := fun _ => True) rfl (fun _ hk => hk) trivial (lD) (Nat.le_trans (Nat.mul_le_mul_right _ (lD : (l0.length : Int).toNat ≤ 35184372088832)) (by omega)) (Below.refl _ _) (Nat.le_refl _) ?_
     intro v208 w6 ho7 hb hg_ hnew_
     clear hg_ hnew_
     (first | rw [← Ny207.out] at ho7 | (simp only [Int.reduceToNat] at ho7; rw [← Ny207.out] at ho7))
     have n0_ := Aside0.mk (Kd.R_lower ho7 (below_size lB))
     have n1_ := Aside0.mk (below_step lB hb)
     clear HB
     have HO209 := n0_
     have HB := n1_
     clear n0_ n1_
     clear hb ho7
     refine hK.out _ _ trivial (fun hHeld => ?_)
     clear hK K
     refine norm_ (a' := ?_) ?_ ?_
     rotate_left
     ·show Act.put _ (some 21) _ = _
      simp only [Act.put, List.setIfInBounds_toArray, List.set_cons_zero, List.set_cons_succ, i64_w, i32_w]
      rfl
     refine one_ (i := 2) (N := some 18) (bs 8 63) rfl rfl (one_of HT_.out (by kernel_rfl)) (by decide) (fun K hK => ?_)
     refine Kd.R_make_step (Kd.int .i64) _ 3 (by rfl) (N := 18) rfl 22 _ _ rfl (l0.length : Int) rfl rfl Try.underlying22 (.int .i64 0) 8 info3 rfl (by decide) (by omega) 0 (ok := fun _ => True) (okp := fun _ => True) rfl (fun _ hk => hk) trivial (lD) (Nat.le_trans (Nat.mul_le_mul_right _ (lD : (l0.length : Int).toNat ≤ 35184372088832)) (by omega)) (Below.refl _ _) (Nat.le_refl _) ?_
     intro v205 w8 ho9 hb hg_ hnew_
     clear hg_ hnew_
     (first | rw [← Ny204.out] at ho9 | (simp only [Int.reduceToNat] at ho9; rw [← Ny204.out] at ho9))
     have n0_ := Aside0.mk (Kd.R_elder' (lR HO209.out) (Kd.R_base ho9) hb)
     have n1_ := Aside0.mk (Kd.R_lower (Kd.R_new' ho9 (Kd.R_lt (lR HO209.out))) (below_size lB))
     have n2_ := Aside0.mk (below_step lB hb)
     clear HO209
     clear HB
     have HO209 := n0_
     have HO206 := n1_
     have HB := n2_
     clear n0_ n1_ n2_
     clear hb ho9
     refine hK.out _ _ trivial (fun hHeld => ?_)
     clear hK K
     refine norm_ (a' := ?_) ?_ ?_
     rotate_left
     ·show Act.put _ (some 18) _ = _
      simp only [Act.put, List.setIfInBounds_toArray, List.set_cons_zero, List.set_cons_succ, i64_w, i32_w]
      rfl
     refine pur_ 6 6 (bs 8 127) (any_of HT_.out kR) ?_
     exact norm_ (by simp only [putAll, Act.put, List.setIfInBounds_toArray, List.set_cons_zero, List.set_cons_succ]) (hCont (v205, v208) _ ⟨(by (with_reducible repeat (first | apply Kd.R_alloc | apply Kd.R_drewN | apply Kd.R_drew)); exact Kd.R_mono HO206.out (fun _ hk => hk.2)), (by (with_reducible repeat (first | apply Kd.R_alloc | apply Kd.R_drewN | apply Kd.R_drew)); exact Kd.R_mono HO209.out (fun _ hk => hk.2)), lB⟩)
   rintro ⟨v205, v208⟩ w10 ⟨h0_, h1_, h2_⟩
   have n0_ : Aside0 (Kd.R (Kd.int .i64) 3 w10 w.heap.size (fun k_ => some k_ ≠ (v208 : Value).ownBlock) v205 y204) := ⟨h0_⟩
   have n1_ : Aside0 (Kd.R (Kd.int .i64) 3 w10 w.heap.size (fun k_ => some k_ ≠ (v205 : Value).ownBlock) v208 y207) := ⟨h1_⟩
   have n2_ : Aside0 (Below w.heap.size w w10) := ⟨h2_⟩
   clear HB
   clear h0_ h1_ h2_
   have HO206 := n0_
   have HO209 := n1_
   have HB := n2_
   clear n0_ n1_ n2_
   have hHeld := trivial
   refine norm_ (a' := ?_) ?_ ?_
   rotate_left
   ·simp only [putAll, Act.put, List.setIfInBounds_toArray, List.set_cons_zero, List.set_cons_succ]
    rfl
   refine pur_ 7 7 (bs 8 255) (any_of HT_.out kR) ?_
   refine done_ (done_of HT_.out (by kernel_rfl)) ?_
   try go_wp2
   go_loopg [8] k (fun kq v8 w' => ∃ (x6_1 : List Int) (x7_1 : List Int) (x8_1 : Int), v8 = .int .i64 x8_1 ∧ Aside0 (impl_covers.l0 kq l0 l1 x6_1 x7_1 x8_1 = some (r1, r2)) ∧ Aside0 (kq ≤ k) ∧ Aside0 (Kd.R (Kd.int .i64) 3 w' w.heap.size (fun k_ => some k_ ≠ (v208 : Value).ownBlock) v205 x6_1) ∧ Aside0 (Kd.R (Kd.int .i64) 3 w' w.heap.size (fun k_ => some k_ ≠ (v205 : Value).ownBlock) v208 x7_1) ∧ Aside0 (Below w.heap.size w w'))
   case atStart => exact ⟨(y204), (y207), (wrap64 ((l0.length : Int) - 1)), lF, H', ⟨Nat.le_refl _⟩, ⟨lR HO206.out⟩, ⟨lR HO209.out⟩, ⟨lB⟩⟩
   case round =>
    clear H'
    try clear c1
    try clear p2
    try clear c3
    try clear c3b0
    try clear c3b1
    try clear c4
    try clear c4b0
    try clear c4b1
    try clear p6
    obtain ⟨x6_1, x7_1, x8_1, rfl, HA, HK1, HO_6, HO_7, HB⟩ := hrel
    cases gk with
    | zero => exact absurd HA.out (by simp [impl_covers.l0])
    | succ k1 =>
     have H := HA.out
     clear HA
     simp only [impl_covers.l0] at H
     by_cases c11 : x8_1 ≥ 0
     ·rw [if_pos c11] at H
      have c11b0 : decide (0 ≤ x8_1) = true := decide_eq_true c11
      clear c11
      by_cases c12 : 0 ≤ x8_1
      ·rw [if_pos c12] at H
       have c12b0 : decide (0 ≤ x8_1) = true := decide_eq_true c12
       clear c12
       by_cases c13 : x8_1 < (x7_1.length : Int)
       ·rw [if_pos c13] at H
        have c13b0 : decide (x8_1 < (x7_1.length : Int)) = true := decide_eq_true c13
        clear c13
        obtain ⟨y210, hy210⟩ : ∃ y_ : List Int, y_ = (x7_1.set (x8_1 : Int).toNat (-1)) := ⟨_, rfl⟩
        replace H : (impl_covers.l1 k1 l0 l1 x6_1 y210 x8_1 l1 (l1.length : Int) 0) = some (r1, r2) := by first | (rw [hy210]; with_reducible exact H) | (have H2_ := (Option.bind_some _ _).symm.trans H; rw [hy210]; with_reducible exact H2_) | (have H2_ := (Option.bind_some _ _).symm.trans H; with_reducible exact H2_) | with_reducible exact H | (rw [hy210]; exact H) | exact H
        have Ny210 := Aside0.mk hy210
        clear hy210
        have H' := Aside0.mk H
        clear H
        have p14 : 0 ≤ (x8_1 : Int) := lD
        have q14 : (x8_1 : Int) < ((x7_1.length : Int) : Int) := lD
        obtain ⟨go14, co14, eo14, gb14, gl14, cl14, HG14⟩ := Kd.R_form HO_7.out (by omega)
        (first | cases eo14 | (injection eo14 with ea_ en_ ec_; (first | subst ea_ | (injection ea_ with ea_; subst ea_)); subst ec_; clear en_))
        have GB14 := Aside0.mk gb14
        have GG14 := Aside0.mk HG14
        clear gb14 gl14 HG14
        obtain ⟨hx14_0, hf14_0⟩ := Kd.R_celln 0 HO_7.out (x8_1 : Int) p14 q14
        replace p14 := eq_true p14
        replace q14 := eq_true q14
        have HP15 := Kd.R_putg HO_7.out (x8_1 : Int) (-1)
        go_wp2_with (first | ((with_reducible refine gate_store (t := 3) (p := 31) rfl ?_); refine store_event (t := 3) (p := 31) (v := ?vo_w16) (w1 := (wr.setCell ⟨go14, (x8_1 : Int).toNat, none⟩ (.int .i64 (-1)))) ?hg ?ho ?hn ?hr ?_; (case ho => rfl); (case hg => rfl); (case hn => rfl); (case hr => first | (go_simp; done) | (go_simp; rfl)); intro w16 hw; have hg : wr.grownBy w16 (some go14) := (by rw [hw]; exact HP15.2); have hp_ : Kd.R (Kd.int .i64) 3 w16 w.heap.size (fun k_ => some k_ ≠ (v205 : Value).ownBlock) (.slice (some ⟨go14, 0, none⟩) x7_1.length co14) y210 := (by rw [hw, Ny210.out]; exact HP15.1); clear HP15; have n0_ := Aside0.mk (Kd.R_after (v := (.slice (some ⟨go14, 0, none⟩) x7_1.length co14)) (v1 := (.slice (some ⟨go14, 0, none⟩) x7_1.length co14)) (ok := (fun _ => True)) (by (with_reducible repeat (first | apply Kd.R_alloc | apply Kd.R_drewN | apply Kd.R_drew)); exact Kd.R_mono HO_6.out (fun _ hk => ⟨trivial, hk⟩)) hg (.inl rfl)); have n1_ := Aside0.mk (hp_); have n2_ := Aside0.mk ((by rw [hw]; exact below_set (HB.out) GB14.out : Below w.heap.size w w16)); clear HO_6; clear HO_7; clear HB; have HO_6 := n0_; have HO_7 := n1_; have HB := n2_; clear n0_ n1_ n2_; clear hg hw hp_))
        go_loopg [34] k1 (fun kq v34 w' => ∃ (x6_2 : List Int) (x7_2 : List Int) (x34_2 : Int), v34 = .int .i64 x34_2 ∧ Aside0 (impl_covers.l1 kq l0 l1 x6_2 x7_2 x8_1 l1 (l1.length : Int) x34_2 = some (r1, r2)) ∧ Aside0 (kq ≤ k1) ∧ Aside0 (Kd.R (Kd.int .i64) 3 w' w.heap.size (fun k_ => some k_ ≠ ((.slice (some ⟨go14, 0, none⟩) x7_1.length co14) : Value).ownBlock) v205 x6_2) ∧ Aside0 (Kd.R (Kd.int .i64) 3 w' w.heap.size (fun k_ => some k_ ≠ (v205 : Value).ownBlock) (.slice (some ⟨go14, 0, none⟩) x7_1.length co14) x7_2) ∧ Aside0 (Below w.heap.size w w'))
        case atStart => exact ⟨(x6_1), (y210), (0), lF, H', ⟨Nat.le_refl _⟩, ⟨by (with_reducible repeat (first | apply Kd.R_alloc | apply Kd.R_drewN | apply Kd.R_drew)); exact Kd.R_mono HO_6.out (fun _ hk => hk.2)⟩, ⟨lR HO_7.out⟩, ⟨lB⟩⟩
        case round =>
         clear H'
         try clear c1
         try clear p1
         try clear q1
         try clear hx1
         try clear p2
         try clear c3
         try clear c3b0
         try clear c3b1
         try clear c4
         try clear c4b0
         try clear c4b1
         try clear p6
         try clear c11
         try clear c11b0
         try clear c12
         try clear c12b0
         try clear c13
         try clear c13b0
         try clear p14
         try clear q14
         try clear hx14
         try clear hf14
         try clear hx14_0
         try clear p14
         try clear p2
         try clear p6
         try clear q14
         obtain ⟨x6_2, x7_2, x34_2, rfl, HA, HK2, HO_6, HO_7, HB⟩ := hrel
         have hl7_2 := (Kd.R_reads' HO_7.out).1
         rw [hl7_2] at HO_7
         (try simp only [hl7_2])
         (try simp only [hl7_2] at HO_6)
         cases gk with
         | zero => exact absurd HA.out (by simp [impl_covers.l1])
         | succ k2 =>
          have H := HA.out
          clear HA
          simp only [impl_covers.l1] at H
          by_cases c17 : x34_2 < (l1.length : Int)
          ·rw [if_pos c17] at H
           have c17b0 : decide (x34_2 < (l1.length : Int)) = true := decide_eq_true c17
           clear c17
           by_cases c18 : 0 ≤ x34_2
           ·rw [if_pos c18] at H
            have c18b0 : decide (0 ≤ x34_2) = true := decide_eq_true c18
            clear c18
            by_cases c19 : x34_2 < (l1.length : Int)
            ·rw [if_pos c19] at H
             have c19b0 : decide (x34_2 < (l1.length : Int)) = true := decide_eq_true c19
             clear c19
             replace H := Option.bind_eq_some_iff.mp H
             obtain ⟨⟨t213, t216⟩, A200, H⟩ := H
             replace H : (impl_covers.l2 k2 l0 l1 x6_2 x7_2 x8_1 x34_2 t216 ((rd_T57 l1 x34_2).f1) l1 (l1.length : Int) x34_2 t213 (t213.length : Int) 0) = some (r1, r2) := H
             have A20 := Aside0.mk A200
             clear A200
             have H' := Aside0.mk H
             clear H
             have p211 : 0 ≤ (x34_2 : Int) := lD
             have q211 : x34_2 < (l1.length : Int) := lD
             obtain ⟨ad211, A211_0, c211_0, e211, hx211_0, hx211_1, hl211_0, hi211_0⟩ := at_T57 HR1.out x34_2 p211 q211
             cases e211
             replace hx211_0 := pw_cell_below HB.out hx211_0
             replace hx211_1 := pw_cell_below HB.out hx211_1
             have HR211_0 := Aside0.mk hi211_0
             have HC211_0 := Aside0.mk hl211_0
             clear hi211_0 hl211_0
             replace p211 := eq_true p211
             replace q211 := eq_true q211
             go_wp2_with (first | ((with_reducible refine gate_dst (N := 10) rfl ?_); refine bxe 10 #[.slice none 0 0, .int .i64 0] 57 ?_; intro gb212 hg w21 hbox hb; have n0_ := Aside0.mk (Kd.R_below (lR HO_6.out) hb); have n1_ := Aside0.mk (Kd.R_below (lR HO_7.out) hb); have n2_ := Aside0.mk (below_step lB hb); have n3_ := Aside0.mk (hbox); have n4_ := lG w hg; have n5_ := lG w hg; clear HO_6; clear HO_7; clear HB; have HO_6 := n0_; have HO_7 := n1_; have HB := n2_; have BK212 := n3_; have GW212 := n4_; have GE212 := n5_; clear n0_ n1_ n2_ n3_ n4_ n5_; clear hb hbox hg; obtain ⟨hcz22_0, hfz22_0, hcz22_1, hfz22_1⟩ := bk2 BK212.out) | ((with_reducible refine gate_callee (f := 46) rfl ?_); refine gl_ (some 43) (Try.func46) #[.slice A0 l0.length c0, .int .i64 x8_1, .agg #[.slice A211_0 ((rd_T57 l1 x34_2).f0).length c211_0, .int .i64 ((rd_T57 l1 x34_2).f1)]] ?_; (with_reducible refine (impl_fits.calls k2 _ _ l0 x8_1 _ _ ((rd_T57 l1 x34_2).f0) ((rd_T57 l1 x34_2).f1) t213 t216 _ ?side1 ?side2 ?side3 ?side4 A20.out).mono ?_); (case side1 => exact Kd.C_below HR0.out lB); (case side2 => exact HC0.out); (case side3 => exact Kd.C_below HR211_0.out lB); (case side4 => exact HC211_0.out); rintro e w23 ⟨v214, rfl, ho0, hb⟩; refine ⟨_, rfl, ?_⟩; have n0_ := Aside0.mk (Kd.R_elder' (by (with_reducible repeat (first | apply Kd.R_alloc | apply Kd.R_drewN | apply Kd.R_drew)); exact (Kd.R_mono (Kd.R_far (p := ⟨gb212, 1, none⟩) (Kd.R_far (p := ⟨gb212, 0, none⟩) (Kd.R_types HO_6.out BK212.out (by decide)) (fun _ hk => hk.2) (.slice A211_0 ((rd_T57 l1 x34_2).f0).length c211_0)) (fun _ hk => hk.2) (.int .i64 ((rd_T57 l1 x34_2).f1))) (fun _ h_ => h_.1))) (Kd.R_base ho0) hb); have n1_ := Aside0.mk (Kd.R_elder' (by (with_reducible repeat (first | apply Kd.R_alloc | apply Kd.R_drewN | apply Kd.R_drew)); exact (Kd.R_mono (Kd.R_far (p := ⟨gb212, 1, none⟩) (Kd.R_far (p := ⟨gb212, 0, none⟩) (Kd.R_types HO_7.out BK212.out (by decide)) (fun _ hk => hk.2) (.slice A211_0 ((rd_T57 l1 x34_2).f0).length c211_0)) (fun _ hk => hk.2) (.int .i64 ((rd_T57 l1 x34_2).f1))) (fun _ h_ => h_.1))) (Kd.R_base ho0) hb); have n2_ := Aside0.mk (Kd.R_lower (Kd.R_new' (Kd.R_new' ho0 (Kd.R_lt (by (with_reducible repeat (first | apply Kd.R_alloc | apply Kd.R_drewN | apply Kd.R_drew)); exact (Kd.R_mono (Kd.R_far (p := ⟨gb212, 1, none⟩) (Kd.R_far (p := ⟨gb212, 0, none⟩) (Kd.R_types HO_6.out BK212.out (by decide)) (fun _ hk => hk.2) (.slice A211_0 ((rd_T57 l1 x34_2).f0).length c211_0)) (fun _ hk => hk.2) (.int .i64 ((rd_T57 l1 x34_2).f1))) (fun _ h_ => h_.1))))) (Kd.R_lt (by (with_reducible repeat (first | apply Kd.R_alloc | apply Kd.R_drewN | apply Kd.R_drew)); exact (Kd.R_mono (Kd.R_far (p := ⟨gb212, 1, none⟩) (Kd.R_far (p := ⟨gb212, 0, none⟩) (Kd.R_types HO_7.out BK212.out (by decide)) (fun _ hk => hk.2) (.slice A211_0 ((rd_T57 l1 x34_2).f0).length c211_0)) (fun _ hk => hk.2) (.int .i64 ((rd_T57 l1 x34_2).f1))) (fun _ h_ => h_.1))))) (below_size lB)); have n3_ := Aside0.mk (blk_below (g := gb212) (o := .cells #[.slice A211_0 ((rd_T57 l1 x34_2).f0).length c211_0, .int .i64 ((rd_T57 l1 x34_2).f1)] 57 (0, 0)) (by (with_reducible repeat first | apply bN | apply bD | apply bA); refine blk_put (cs := #[.slice A211_0 ((rd_T57 l1 x34_2).f0).length c211_0, .int .i64 0]) ?_ 1 _ rfl; (with_reducible repeat first | apply bN | apply bD | apply bA); refine blk_put (cs := #[.slice none 0 0, .int .i64 0]) ?_ 0 _ rfl; (with_reducible repeat first | apply bN | apply bD | apply bA); exact BK212.out) hb); have n4_ := Aside0.mk (below_step lB hb); clear HO_6; clear HO_7; clear BK212; clear HB; have HO_6 := n0_; have HO_7 := n1_; have HO215 := n2_; have BK212 := n3_; have HB := n4_; clear n0_ n1_ n2_ n3_ n4_; (try clear hb); (try clear hb2); (try clear hk); (try clear hi); (try clear ho0); obtain ⟨hcz24_0, hfz24_0, hcz24_1, hfz24_1⟩ := bk2 BK212.out; obtain ⟨Ao25, co25, eo25⟩ := Kd.R_slice HO215.out; subst eo25))
             go_loopg [12, 13, 50] k2 (fun kq v12 v13 v50 w' => ∃ (x12_3 : Bool) (x13_3 : Int) (x50_3 : Int), v12 = .bool x12_3 ∧ v13 = .int .i64 x13_3 ∧ v50 = .int .i64 x50_3 ∧ Aside0 (impl_covers.l2 kq l0 l1 x6_2 x7_2 x8_1 x34_2 x12_3 x13_3 l1 (l1.length : Int) x34_2 t213 (t213.length : Int) x50_3 = some (r1, r2)) ∧ Aside0 (kq ≤ k2) ∧ Aside0 (Kd.R (Kd.int .i64) 3 w' w.heap.size (fun k_ => some k_ ≠ ((.slice (some ⟨go14, 0, none⟩) x7_2.length co14) : Value).ownBlock ∧ some k_ ≠ ((.slice Ao25 t213.length co25) : Value).ownBlock) v205 x6_2) ∧ Aside0 (Kd.R (Kd.int .i64) 3 w' w.heap.size (fun k_ => some k_ ≠ (v205 : Value).ownBlock ∧ some k_ ≠ ((.slice Ao25 t213.length co25) : Value).ownBlock) (.slice (some ⟨go14, 0, none⟩) x7_2.length co14) x7_2) ∧ Aside0 (Kd.R (Kd.int .i64) 3 w' w.heap.size (fun k_ => some k_ ≠ (v205 : Value).ownBlock ∧ some k_ ≠ ((.slice (some ⟨go14, 0, none⟩) x7_2.length co14) : Value).ownBlock) (.slice Ao25 t213.length co25) t213) ∧ Aside0 (w'.heap[gb212]? = some (.cells #[(.slice A211_0 ((rd_T57 l1 x34_2).f0).length c211_0), .int .i64 ((rd_T57 l1 x34_2).f1)] 57 (0, 0))) ∧ Aside0 (Below w.heap.size w w'))
             case atStart => exact ⟨(t216), ((rd_T57 l1 x34_2).f1), (0), lF, lF, lF, H', ⟨Nat.le_refl _⟩, ⟨by (try simp only [hl7_2]); (with_reducible repeat (first | apply Kd.R_alloc | apply Kd.R_drewN | apply Kd.R_drew)); exact HO_6.out⟩, ⟨by (try simp only [hl7_2]); (with_reducible repeat (first | apply Kd.R_alloc | apply Kd.R_drewN | apply Kd.R_drew)); exact HO_7.out⟩, ⟨by (try simp only [hl7_2]); (with_reducible repeat (first | apply Kd.R_alloc | apply Kd.R_drewN | apply Kd.R_drew)); exact Kd.R_mono HO215.out (fun _ hk => ⟨hk.1.2, hk.2⟩)⟩, ⟨by (try simp only [hl7_2]); (with_reducible repeat first | apply bN | apply bD | apply bA); exact BK212.out⟩, ⟨lB⟩⟩
             case round =>
              clear H'
              try clear c1
              try clear p1
              try clear q1
              try clear hx1
              try clear c2
              try clear p2
              try clear q2
              try clear hx2
              try clear c3
              try clear c3b0
              try clear c3b1
              try clear c4
              try clear c4b0
              try clear c4b1
              try clear p6
              try clear c11
              try clear c11b0
              try clear c12
              try clear c12b0
              try clear c13
              try clear c13b0
              try clear p14
              try clear q14
              try clear hx14
              try clear hf14
              try clear c17
              try clear c17b0
              try clear c18
              try clear c18b0
              try clear c19
              try clear c19b0
              try clear c21
              try clear p21
              try clear q21
              try clear hx21
              try clear hcz22_0 hcz22_1
              try clear hcz24_0 hcz24_1
              try clear hfz22_0 hfz22_1
              try clear hfz24_0 hfz24_1
              try clear hx14_0
              try clear hx211_0
              try clear hx211_1
              try clear p1
              try clear p14
              try clear p2
              try clear p211
              try clear p6
              try clear q1
              try clear q14
              try clear q211
              obtain ⟨x12_3, x13_3, x50_3, rfl, rfl, rfl, HA, HK3, HO_6, HO_7, HO_48, BK212, HB⟩ := hrel
              cases gk with
              | zero => exact absurd HA.out (by simp [impl_covers.l2])
              | succ k3 =>
               have H := HA.out
               clear HA
               simp only [impl_covers.l2] at H
               by_cases c26 : x50_3 < (t213.length : Int)
               ·rw [if_pos c26] at H
                have c26b0 : decide (x50_3 < (t213.length : Int)) = true := decide_eq_true c26
                clear c26
                by_cases c27 : 0 ≤ x50_3
                ·rw [if_pos c27] at H
                 have c27b0 : decide (0 ≤ x50_3) = true := decide_eq_true c27
                 clear c27
                 by_cases c28 : x50_3 < (t213.length : Int)
                 ·rw [if_pos c28] at H
                  have c28b0 : decide (x50_3 < (t213.length : Int)) = true := decide_eq_true c28
                  clear c28
                  by_cases c29 : x12_3 = true
                  ·subst c29
                   rw [if_pos rfl] at H
                   by_cases c30 : 0 ≤ (rd t213 x50_3)
                   ·rw [if_pos c30] at H
                    have c30b0 : decide (0 ≤ (rd t213 x50_3)) = true := decide_eq_true c30
                    clear c30
                    by_cases c31 : (rd t213 x50_3) < (x7_2.length : Int)
                    ·rw [if_pos c31] at H
                     have c31b0 : decide ((rd t213 x50_3) < (x7_2.length : Int)) = true := decide_eq_true c31
                     clear c31
                     by_cases c32 : (rd t213 x50_3) < (x6_2.length : Int)
                     ·rw [if_pos c32] at H
                      have c32b0 : decide ((rd t213 x50_3) < (x6_2.length : Int)) = true := decide_eq_true c32
                      clear c32
                      have H' := Aside0.mk H
                      clear H
                      have p217 : 0 ≤ (x50_3 : Int) := lD
                      have q217 : x50_3 < (t213.length : Int) := lD
                      obtain ⟨ad217, e217, hx217_0⟩ := Kd.at_int (Kd.R_reads' HO_48.out).2.2 x50_3 p217 q217
                      cases e217
                      replace p217 := eq_true p217
                      replace q217 := eq_true q217
                      have p218 : 0 ≤ ((rd t213 x50_3) : Int) := lD
                      have q218 : (rd t213 x50_3) < (x7_2.length : Int) := lD
                      obtain ⟨ad218, e218, hx218_0⟩ := Kd.at_int (Kd.R_reads' HO_7.out).2.2 (rd t213 x50_3) p218 q218
                      obtain rfl : (⟨go14, 0, none⟩ : Addr) = ad218 := (by injection e218)
                      (first | simp only [add_plain] at hx218_0 | simp only [add_at] at hx218_0 | simp only [Addr.add, Nat.zero_add] at hx218_0 | skip)
                      replace p218 := eq_true p218
                      replace q218 := eq_true q218
                      obtain ⟨Ao33, co33, eo33⟩ := Kd.R_slice HO_6.out
                      subst eo33
                      have p219 : 0 ≤ ((rd t213 x50_3) : Int) := lD
                      have q219 : (rd t213 x50_3) < (x6_2.length : Int) := lD
                      obtain ⟨ad219, e219, hx219_0⟩ := Kd.at_int (Kd.R_reads' HO_6.out).2.2 (rd t213 x50_3) p219 q219
                      cases e219
                      replace p219 := eq_true p219
                      replace q219 := eq_true q219
                      go_wp2
                      go_roundg k3
                      case measure => have := HK1.out; have := HK2.out; have := HK3.out; omega
                      case rel => exact ⟨(decide ((rd x7_2 (rd t213 x50_3)) ≥ 0)), (wrap64 (x13_3 + (rd x6_2 (rd t213 x50_3)))), (wrap64 (x50_3 + 1)), lF, lF, lF, H', ⟨by have := HK1.out; have := HK2.out; have := HK3.out; omega⟩, ⟨by (try simp only [hl7_2]); (with_reducible repeat (first | apply Kd.R_alloc | apply Kd.R_drewN | apply Kd.R_drew)); exact HO_6.out⟩, ⟨by (try simp only [hl7_2]); (with_reducible repeat (first | apply Kd.R_alloc | apply Kd.R_drewN | apply Kd.R_drew)); exact HO_7.out⟩, ⟨by (try simp only [hl7_2]); (with_reducible repeat (first | apply Kd.R_alloc | apply Kd.R_drewN | apply Kd.R_drew)); exact HO_48.out⟩, ⟨by (try simp only [hl7_2]); (with_reducible repeat first | apply bN | apply bD | apply bA); exact BK212.out⟩, ⟨lB⟩⟩
                     ·rw [if_neg c32] at H
                      exact absurd H (by simp)
                    ·rw [if_neg c31] at H
                     exact absurd H (by simp)
                   ·rw [if_neg c30] at H
                    exact absurd H (by simp)
                  ·replace c29 := Bool.eq_false_iff.mpr c29
                   subst c29
                   rw [if_neg (show ¬ (false = true) by decide)] at H
                   by_cases c34 : 0 ≤ (rd t213 x50_3)
                   ·rw [if_pos c34] at H
                    have c34b0 : decide (0 ≤ (rd t213 x50_3)) = true := decide_eq_true c34
                    clear c34
                    by_cases c35 : (rd t213 x50_3) < (x6_2.length : Int)
                    ·rw [if_pos c35] at H
                     have c35b0 : decide ((rd t213 x50_3) < (x6_2.length : Int)) = true := decide_eq_true c35
                     clear c35
                     have H' := Aside0.mk H
                     clear H
                     have p217 : 0 ≤ (x50_3 : Int) := lD
                     have q217 : x50_3 < (t213.length : Int) := lD
                     obtain ⟨ad217, e217, hx217_0⟩ := Kd.at_int (Kd.R_reads' HO_48.out).2.2 x50_3 p217 q217
                     cases e217
                     replace p217 := eq_true p217
                     replace q217 := eq_true q217
                     obtain ⟨Ao36, co36, eo36⟩ := Kd.R_slice HO_6.out
                     subst eo36
                     have p220 : 0 ≤ ((rd t213 x50_3) : Int) := lD
                     have q220 : (rd t213 x50_3) < (x6_2.length : Int) := lD
                     obtain ⟨ad220, e220, hx220_0⟩ := Kd.at_int (Kd.R_reads' HO_6.out).2.2 (rd t213 x50_3) p220 q220
                     cases e220
                     replace p220 := eq_true p220
                     replace q220 := eq_true q220
                     go_wp2
                     go_roundg k3
                     case measure => have := HK1.out; have := HK2.out; have := HK3.out; omega
                     case rel => exact ⟨(false), (wrap64 (x13_3 + (rd x6_2 (rd t213 x50_3)))), (wrap64 (x50_3 + 1)), lF, lF, lF, H', ⟨by have := HK1.out; have := HK2.out; have := HK3.out; omega⟩, ⟨by (try simp only [hl7_2]); (with_reducible repeat (first | apply Kd.R_alloc | apply Kd.R_drewN | apply Kd.R_drew)); exact HO_6.out⟩, ⟨by (try simp only [hl7_2]); (with_reducible repeat (first | apply Kd.R_alloc | apply Kd.R_drewN | apply Kd.R_drew)); exact HO_7.out⟩, ⟨by (try simp only [hl7_2]); (with_reducible repeat (first | apply Kd.R_alloc | apply Kd.R_drewN | apply Kd.R_drew)); exact HO_48.out⟩, ⟨by (try simp only [hl7_2]); (with_reducible repeat first | apply bN | apply bD | apply bA); exact BK212.out⟩, ⟨lB⟩⟩
                    ·rw [if_neg c35] at H
                     exact absurd H (by simp)
                   ·rw [if_neg c34] at H
                    exact absurd H (by simp)
                 ·rw [if_neg c28] at H
                  exact absurd H (by simp)
                ·rw [if_neg c27] at H
                 exact absurd H (by simp)
               ·rw [if_neg c26] at H
                have c26b0 : decide (x50_3 < (t213.length : Int)) = false := decide_eq_false c26
                clear c26
                by_cases c37 : x12_3 = true
                ·subst c37
                 rw [if_pos rfl] at H
                 by_cases c38 : 0 ≤ x8_1
                 ·rw [if_pos c38] at H
                  have c38b0 : decide (0 ≤ x8_1) = true := decide_eq_true c38
                  clear c38
                  by_cases c39 : x8_1 < (x7_2.length : Int)
                  ·rw [if_pos c39] at H
                   have c39b0 : decide (x8_1 < (x7_2.length : Int)) = true := decide_eq_true c39
                   clear c39
                   by_cases c40 : (rd x7_2 x8_1) < 0
                   ·rw [if_pos c40] at H
                    have c40b0 : decide ((rd x7_2 x8_1) < 0) = true := decide_eq_true c40
                    clear c40
                    obtain ⟨y222, hy222⟩ : ∃ y_ : List Int, y_ = (x7_2.set (x8_1 : Int).toNat x34_2) := ⟨_, rfl⟩
                    replace H : (if x8_1 < (x6_2.length : Int) then (impl_covers.l1 k3 l0 l1 (x6_2.set (x8_1 : Int).toNat x13_3) y222 x8_1 l1 (l1.length : Int) (wrap64 (x34_2 + 1))) else (none)) = some (r1, r2) := by first | (rw [hy222]; with_reducible exact H) | (have H2_ := (Option.bind_some _ _).symm.trans H; rw [hy222]; with_reducible exact H2_) | (have H2_ := (Option.bind_some _ _).symm.trans H; with_reducible exact H2_) | with_reducible exact H | (rw [hy222]; exact H) | exact H
                    have Ny222 := Aside0.mk hy222
                    clear hy222
                    by_cases c42 : x8_1 < (x6_2.length : Int)
                    ·rw [if_pos c42] at H
                     have c42b0 : decide (x8_1 < (x6_2.length : Int)) = true := decide_eq_true c42
                     clear c42
                     obtain ⟨y223, hy223⟩ : ∃ y_ : List Int, y_ = (x6_2.set (x8_1 : Int).toNat x13_3) := ⟨_, rfl⟩
                     replace H : (impl_covers.l1 k3 l0 l1 y223 y222 x8_1 l1 (l1.length : Int) (wrap64 (x34_2 + 1))) = some (r1, r2) := by first | (rw [hy223]; with_reducible exact H) | (have H2_ := (Option.bind_some _ _).symm.trans H; rw [hy223]; with_reducible exact H2_) | (have H2_ := (Option.bind_some _ _).symm.trans H; with_reducible exact H2_) | with_reducible exact H | (rw [hy223]; exact H) | exact H
                     have Ny223 := Aside0.mk hy223
                     clear hy223
                     have H' := Aside0.mk H
                     clear H
                     have p221 : 0 ≤ (x8_1 : Int) := lD
                     have q221 : x8_1 < (x7_2.length : Int) := lD
                     obtain ⟨ad221, e221, hx221_0⟩ := Kd.at_int (Kd.R_reads' HO_7.out).2.2 x8_1 p221 q221
                     obtain rfl : (⟨go14, 0, none⟩ : Addr) = ad221 := (by injection e221)
                     (first | simp only [add_plain] at hx221_0 | simp only [add_at] at hx221_0 | simp only [Addr.add, Nat.zero_add] at hx221_0 | skip)
                     replace p221 := eq_true p221
                     replace q221 := eq_true q221
                     have p41 : 0 ≤ (x8_1 : Int) := lD
                     have q41 : (x8_1 : Int) < ((x7_2.length : Int) : Int) := lD
                     obtain ⟨hx41_0, hf41_0⟩ := Kd.R_celln 0 HO_7.out (x8_1 : Int) p41 q41
                     replace p41 := eq_true p41
                     replace q41 := eq_true q41
                     have HP44 := Kd.R_putg HO_7.out (x8_1 : Int) x34_2
                     go_wp2_with (first | ((with_reducible refine gate_store (t := 3) (p := 88) rfl ?_); refine store_event (t := 3) (p := 88) (v := ?vo_w45) (w1 := (wr.setCell ⟨go14, (x8_1 : Int).toNat, none⟩ (.int .i64 x34_2))) ?hg ?ho ?hn ?hr ?_; (case ho => rfl); (case hg => rfl); (case hn => rfl); (case hr => first | (go_simp; done) | (go_simp; rfl)); intro w45 hw; have hg : wr.grownBy w45 (some go14) := (by rw [hw]; exact HP44.2); have hp_ : Kd.R (Kd.int .i64) 3 w45 w.heap.size (fun k_ => some k_ ≠ (v205 : Value).ownBlock ∧ some k_ ≠ (.slice Ao25 t213.length co25 : Value).ownBlock) (.slice (some ⟨go14, 0, none⟩) x7_2.length co14) y222 := (by rw [hw, Ny222.out]; exact HP44.1); clear HP44; have n0_ := Aside0.mk (Kd.R_after (v := (.slice (some ⟨go14, 0, none⟩) x7_2.length co14)) (v1 := (.slice (some ⟨go14, 0, none⟩) x7_2.length co14)) (ok := (fun k_ => some k_ ≠ (.slice Ao25 t213.length co25 : Value).ownBlock)) (by (with_reducible repeat (first | apply Kd.R_alloc | apply Kd.R_drewN | apply Kd.R_drew)); exact Kd.R_mono HO_6.out (fun _ hk => ⟨hk.2, hk.1⟩)) hg (.inl rfl)); have n1_ := Aside0.mk (hp_); have n2_ := Aside0.mk (Kd.R_after (v := (.slice (some ⟨go14, 0, none⟩) x7_2.length co14)) (v1 := (.slice (some ⟨go14, 0, none⟩) x7_2.length co14)) (ok := (fun k_ => some k_ ≠ (v205 : Value).ownBlock)) (lR HO_48.out) hg (.inl rfl)); have n3_ := Aside0.mk (blk_grown (lK BK212.out) hg (Kd.R_ne HO_7.out BK212.out (by decide))); have n4_ := Aside0.mk ((by rw [hw]; exact below_set (HB.out) GB14.out : Below w.heap.size w w45)); clear HO_6; clear HO_7; clear HO_48; clear BK212; clear HB; have HO_6 := n0_; have HO_7 := n1_; have HO_48 := n2_; have BK212 := n3_; have HB := n4_; clear n0_ n1_ n2_ n3_ n4_; clear hg hw hp_; have p43 : 0 ≤ (x8_1 : Int) := lD; have q43 : (x8_1 : Int) < ((x6_2.length : Int) : Int) := lD; obtain ⟨go43, co43, eo43, gb43, gl43, cl43, HG43⟩ := Kd.R_form HO_6.out (by omega); (first | cases eo43 | (injection eo43 with ea_ en_ ec_; (first | subst ea_ | (injection ea_ with ea_; subst ea_)); subst ec_; clear en_)); have GB43 := Aside0.mk gb43; have GG43 := Aside0.mk HG43; clear gb43 gl43 HG43; obtain ⟨hx43_0, hf43_0⟩ := Kd.R_celln 0 HO_6.out (x8_1 : Int) p43 q43; replace p43 := eq_true p43; replace q43 := eq_true q43; obtain ⟨hy46_, hz46_⟩ := Kd.R_celln 0 HO_6.out (x8_1 : Int) (lD) (lD); have HP46 := Kd.R_putg HO_6.out (x8_1 : Int) x13_3) | ((with_reducible refine gate_store (t := 3) (p := 92) rfl ?_); refine store_event (t := 3) (p := 92) (v := ?vo_w47) (w1 := (w45.setCell ⟨go43, (x8_1 : Int).toNat, none⟩ (.int .i64 x13_3))) ?hg ?ho ?hn ?hr ?_; (case ho => rfl); (case hg => rfl); (case hn => rfl); (case hr => first | (go_simp; done) | (go_simp; rfl)); intro w47 hw; have hg : w45.grownBy w47 (some go43) := (by rw [hw]; exact HP46.2); have hp_ : Kd.R (Kd.int .i64) 3 w47 w.heap.size (fun k_ => some k_ ≠ (.slice Ao25 t213.length co25 : Value).ownBlock ∧ some k_ ≠ (.slice (some ⟨go14, 0, none⟩) x7_2.length co14 : Value).ownBlock) (.slice (some ⟨go43, 0, none⟩) x6_2.length co43) y223 := (by rw [hw, Ny223.out]; exact HP46.1); clear HP46; have n0_ := Aside0.mk (hp_); have n1_ := Aside0.mk (Kd.R_after (v := (.slice (some ⟨go43, 0, none⟩) x6_2.length co43)) (v1 := (.slice (some ⟨go43, 0, none⟩) x6_2.length co43)) (ok := (fun k_ => some k_ ≠ (.slice Ao25 t213.length co25 : Value).ownBlock)) (by (with_reducible repeat (first | apply Kd.R_alloc | apply Kd.R_drewN | apply Kd.R_drew)); exact Kd.R_mono HO_7.out (fun _ hk => ⟨hk.2, hk.1⟩)) hg (.inl rfl)); have n2_ := Aside0.mk (Kd.R_after (v := (.slice (some ⟨go43, 0, none⟩) x6_2.length co43)) (v1 := (.slice (some ⟨go43, 0, none⟩) x6_2.length co43)) (ok := (fun k_ => some k_ ≠ (.slice (some ⟨go14, 0, none⟩) x7_2.length co14 : Value).ownBlock)) (by (with_reducible repeat (first | apply Kd.R_alloc | apply Kd.R_drewN | apply Kd.R_drew)); exact Kd.R_mono HO_48.out (fun _ hk => ⟨hk.2, hk.1⟩)) hg (.inl rfl)); have n3_ := Aside0.mk (blk_grown (lK BK212.out) hg (Kd.R_ne HO_6.out BK212.out (by decide))); have n4_ := Aside0.mk ((by rw [hw]; exact below_set (HB.out) GB43.out : Below w.heap.size w w47)); clear HO_6; clear HO_7; clear HO_48; clear BK212; clear HB; have HO_6 := n0_; have HO_7 := n1_; have HO_48 := n2_; have BK212 := n3_; have HB := n4_; clear n0_ n1_ n2_ n3_ n4_; clear hg hw hp_))
                     (try simp only [← hl7_2])
                     go_roundg k3
                     case measure => have := HK1.out; have := HK2.out; have := HK3.out; omega
                     case rel => exact ⟨(y223), (y222), (wrap64 (x34_2 + 1)), lF, H', ⟨by have := HK1.out; have := HK2.out; have := HK3.out; omega⟩, ⟨by (try simp only [hl7_2]); (with_reducible repeat (first | apply Kd.R_alloc | apply Kd.R_drewN | apply Kd.R_drew)); exact Kd.R_mono HO_6.out (fun _ hk => hk.2)⟩, ⟨by (try simp only [hl7_2]); (with_reducible repeat (first | apply Kd.R_alloc | apply Kd.R_drewN | apply Kd.R_drew)); exact Kd.R_mono HO_7.out (fun _ hk => hk.2)⟩, ⟨lB⟩⟩
                    ·rw [if_neg c42] at H
                     exact absurd H (by simp)
                   ·rw [if_neg c40] at H
                    have c40b0 : decide ((rd x7_2 x8_1) < 0) = false := decide_eq_false c40
                    clear c40
                    by_cases c48 : x8_1 < (x6_2.length : Int)
                    ·rw [if_pos c48] at H
                     have c48b0 : decide (x8_1 < (x6_2.length : Int)) = true := decide_eq_true c48
                     clear c48
                     by_cases c49 : x13_3 < (rd x6_2 x8_1)
                     ·rw [if_pos c49] at H
                      have c49b0 : decide (x13_3 < (rd x6_2 x8_1)) = true := decide_eq_true c49
                      clear c49
                      obtain ⟨y225, hy225⟩ : ∃ y_ : List Int, y_ = (x7_2.set (x8_1 : Int).toNat x34_2) := ⟨_, rfl⟩
                      replace H : (impl_covers.l1 k3 l0 l1 (x6_2.set (x8_1 : Int).toNat x13_3) y225 x8_1 l1 (l1.length : Int) (wrap64 (x34_2 + 1))) = some (r1, r2) := by first | (rw [hy225]; with_reducible exact H) | (have H2_ := (Option.bind_some _ _).symm.trans H; rw [hy225]; with_reducible exact H2_) | (have H2_ := (Option.bind_some _ _).symm.trans H; with_reducible exact H2_) | with_reducible exact H | (rw [hy225]; exact H) | exact H
                      have Ny225 := Aside0.mk hy225
                      clear hy225
                      obtain ⟨y226, hy226⟩ : ∃ y_ : List Int, y_ = (x6_2.set (x8_1 : Int).toNat x13_3) := ⟨_, rfl⟩
                      replace H : (impl_covers.l1 k3 l0 l1 y226 y225 x8_1 l1 (l1.length : Int) (wrap64 (x34_2 + 1))) = some (r1, r2) := by first | (rw [hy226]; with_reducible exact H) | (have H2_ := (Option.bind_some _ _).symm.trans H; rw [hy226]; with_reducible exact H2_) | (have H2_ := (Option.bind_some _ _).symm.trans H; with_reducible exact H2_) | with_reducible exact H | (rw [hy226]; exact H) | exact H
                      have Ny226 := Aside0.mk hy226
                      clear hy226
                      have H' := Aside0.mk H
                      clear H
                      have p221 : 0 ≤ (x8_1 : Int) := lD
                      have q221 : x8_1 < (x7_2.length : Int) := lD
                      obtain ⟨ad221, e221, hx221_0⟩ := Kd.at_int (Kd.R_reads' HO_7.out).2.2 x8_1 p221 q221
                      obtain rfl : (⟨go14, 0, none⟩ : Addr) = ad221 := (by injection e221)
                      (first | simp only [add_plain] at hx221_0 | simp only [add_at] at hx221_0 | simp only [Addr.add, Nat.zero_add] at hx221_0 | skip)
                      replace p221 := eq_true p221
                      replace q221 := eq_true q221
                      obtain ⟨Ao52, co52, eo52⟩ := Kd.R_slice HO_6.out
                      subst eo52
                      have p224 : 0 ≤ (x8_1 : Int) := lD
                      have q224 : x8_1 < (x6_2.length : Int) := lD
                      obtain ⟨ad224, e224, hx224_0⟩ := Kd.at_int (Kd.R_reads' HO_6.out).2.2 x8_1 p224 q224
                      cases e224
                      replace p224 := eq_true p224
                      replace q224 := eq_true q224
                      have p50 : 0 ≤ (x8_1 : Int) := lD
                      have q50 : (x8_1 : Int) < ((x7_2.length : Int) : Int) := lD
                      obtain ⟨hx50_0, hf50_0⟩ := Kd.R_celln 0 HO_7.out (x8_1 : Int) p50 q50
                      replace p50 := eq_true p50
                      replace q50 := eq_true q50
                      have HP53 := Kd.R_putg HO_7.out (x8_1 : Int) x34_2
                      go_wp2_with (first | ((with_reducible refine gate_store (t := 3) (p := 88) rfl ?_); refine store_event (t := 3) (p := 88) (v := ?vo_w54) (w1 := (wr.setCell ⟨go14, (x8_1 : Int).toNat, none⟩ (.int .i64 x34_2))) ?hg ?ho ?hn ?hr ?_; (case ho => rfl); (case hg => rfl); (case hn => rfl); (case hr => first | (go_simp; done) | (go_simp; rfl)); intro w54 hw; have hg : wr.grownBy w54 (some go14) := (by rw [hw]; exact HP53.2); have hp_ : Kd.R (Kd.int .i64) 3 w54 w.heap.size (fun k_ => some k_ ≠ (.slice (some ad224) x6_2.length co52 : Value).ownBlock ∧ some k_ ≠ (.slice Ao25 t213.length co25 : Value).ownBlock) (.slice (some ⟨go14, 0, none⟩) x7_2.length co14) y225 := (by rw [hw, Ny225.out]; exact HP53.1); clear HP53; have n0_ := Aside0.mk (Kd.R_after (v := (.slice (some ⟨go14, 0, none⟩) x7_2.length co14)) (v1 := (.slice (some ⟨go14, 0, none⟩) x7_2.length co14)) (ok := (fun k_ => some k_ ≠ (.slice Ao25 t213.length co25 : Value).ownBlock)) (by (with_reducible repeat (first | apply Kd.R_alloc | apply Kd.R_drewN | apply Kd.R_drew)); exact Kd.R_mono HO_6.out (fun _ hk => ⟨hk.2, hk.1⟩)) hg (.inl rfl)); have n1_ := Aside0.mk (hp_); have n2_ := Aside0.mk (Kd.R_after (v := (.slice (some ⟨go14, 0, none⟩) x7_2.length co14)) (v1 := (.slice (some ⟨go14, 0, none⟩) x7_2.length co14)) (ok := (fun k_ => some k_ ≠ (.slice (some ad224) x6_2.length co52 : Value).ownBlock)) (lR HO_48.out) hg (.inl rfl)); have n3_ := Aside0.mk (blk_grown (lK BK212.out) hg (Kd.R_ne HO_7.out BK212.out (by decide))); have n4_ := Aside0.mk ((by rw [hw]; exact below_set (HB.out) GB14.out : Below w.heap.size w w54)); clear HO_6; clear HO_7; clear HO_48; clear BK212; clear HB; have HO_6 := n0_; have HO_7 := n1_; have HO_48 := n2_; have BK212 := n3_; have HB := n4_; clear n0_ n1_ n2_ n3_ n4_; clear hg hw hp_; have p51 : 0 ≤ (x8_1 : Int) := lD; have q51 : (x8_1 : Int) < ((x6_2.length : Int) : Int) := lD; obtain ⟨go51, co51, eo51, gb51, gl51, cl51, HG51⟩ := Kd.R_form HO_6.out (by omega); (first | cases eo51 | (injection eo51 with ea_ en_ ec_; (first | subst ea_ | (injection ea_ with ea_; subst ea_)); subst ec_; clear en_)); have GB51 := Aside0.mk gb51; have GG51 := Aside0.mk HG51; clear gb51 gl51 HG51; (first | simp only [add_plain] at hx224_0 | skip); obtain ⟨hx51_0, hf51_0⟩ := Kd.R_celln 0 HO_6.out (x8_1 : Int) p51 q51; replace p51 := eq_true p51; replace q51 := eq_true q51; obtain ⟨hy55_, hz55_⟩ := Kd.R_celln 0 HO_6.out (x8_1 : Int) (lD) (lD); have HP55 := Kd.R_putg HO_6.out (x8_1 : Int) x13_3) | ((with_reducible refine gate_store (t := 3) (p := 92) rfl ?_); refine store_event (t := 3) (p := 92) (v := ?vo_w56) (w1 := (w54.setCell ⟨go51, (x8_1 : Int).toNat, none⟩ (.int .i64 x13_3))) ?hg ?ho ?hn ?hr ?_; (case ho => rfl); (case hg => rfl); (case hn => rfl); (case hr => first | (go_simp; done) | (go_simp; rfl)); intro w56 hw; have hg : w54.grownBy w56 (some go51) := (by rw [hw]; exact HP55.2); have hp_ : Kd.R (Kd.int .i64) 3 w56 w.heap.size (fun k_ => some k_ ≠ (.slice Ao25 t213.length co25 : Value).ownBlock ∧ some k_ ≠ (.slice (some ⟨go14, 0, none⟩) x7_2.length co14 : Value).ownBlock) (.slice (some ⟨go51, 0, none⟩) x6_2.length co52) y226 := (by rw [hw, Ny226.out]; exact HP55.1); clear HP55; have n0_ := Aside0.mk (hp_); have n1_ := Aside0.mk (Kd.R_after (v := (.slice (some ⟨go51, 0, none⟩) x6_2.length co52)) (v1 := (.slice (some ⟨go51, 0, none⟩) x6_2.length co52)) (ok := (fun k_ => some k_ ≠ (.slice Ao25 t213.length co25 : Value).ownBlock)) (by (with_reducible repeat (first | apply Kd.R_alloc | apply Kd.R_drewN | apply Kd.R_drew)); exact Kd.R_mono HO_7.out (fun _ hk => ⟨hk.2, hk.1⟩)) hg (.inl rfl)); have n2_ := Aside0.mk (Kd.R_after (v := (.slice (some ⟨go51, 0, none⟩) x6_2.length co52)) (v1 := (.slice (some ⟨go51, 0, none⟩) x6_2.length co52)) (ok := (fun k_ => some k_ ≠ (.slice (some ⟨go14, 0, none⟩) x7_2.length co14 : Value).ownBlock)) (by (with_reducible repeat (first | apply Kd.R_alloc | apply Kd.R_drewN | apply Kd.R_drew)); exact Kd.R_mono HO_48.out (fun _ hk => ⟨hk.2, hk.1⟩)) hg (.inl rfl)); have n3_ := Aside0.mk (blk_grown (lK BK212.out) hg (Kd.R_ne HO_6.out BK212.out (by decide))); have n4_ := Aside0.mk ((by rw [hw]; exact below_set (HB.out) GB51.out : Below w.heap.size w w56)); clear HO_6; clear HO_7; clear HO_48; clear BK212; clear HB; have HO_6 := n0_; have HO_7 := n1_; have HO_48 := n2_; have BK212 := n3_; have HB := n4_; clear n0_ n1_ n2_ n3_ n4_; clear hg hw hp_))
                      (try simp only [← hl7_2])
                      go_roundg k3
                      case measure => have := HK1.out; have := HK2.out; have := HK3.out; omega
                      case rel => exact ⟨(y226), (y225), (wrap64 (x34_2 + 1)), lF, H', ⟨by have := HK1.out; have := HK2.out; have := HK3.out; omega⟩, ⟨by (try simp only [hl7_2]); (with_reducible repeat (first | apply Kd.R_alloc | apply Kd.R_drewN | apply Kd.R_drew)); exact Kd.R_mono HO_6.out (fun _ hk => hk.2)⟩, ⟨by (try simp only [hl7_2]); (with_reducible repeat (first | apply Kd.R_alloc | apply Kd.R_drewN | apply Kd.R_drew)); exact Kd.R_mono HO_7.out (fun _ hk => hk.2)⟩, ⟨lB⟩⟩
                     ·rw [if_neg c49] at H
                      have c49b0 : decide (x13_3 < (rd x6_2 x8_1)) = false := decide_eq_false c49
                      clear c49
                      have H' := Aside0.mk H
                      clear H
                      have p221 : 0 ≤ (x8_1 : Int) := lD
                      have q221 : x8_1 < (x7_2.length : Int) := lD
                      obtain ⟨ad221, e221, hx221_0⟩ := Kd.at_int (Kd.R_reads' HO_7.out).2.2 x8_1 p221 q221
                      obtain rfl : (⟨go14, 0, none⟩ : Addr) = ad221 := (by injection e221)
                      (first | simp only [add_plain] at hx221_0 | simp only [add_at] at hx221_0 | simp only [Addr.add, Nat.zero_add] at hx221_0 | skip)
                      replace p221 := eq_true p221
                      replace q221 := eq_true q221
                      obtain ⟨Ao57, co57, eo57⟩ := Kd.R_slice HO_6.out
                      subst eo57
                      have p224 : 0 ≤ (x8_1 : Int) := lD
                      have q224 : x8_1 < (x6_2.length : Int) := lD
                      obtain ⟨ad224, e224, hx224_0⟩ := Kd.at_int (Kd.R_reads' HO_6.out).2.2 x8_1 p224 q224
                      cases e224
                      replace p224 := eq_true p224
                      replace q224 := eq_true q224
                      go_wp2
                      (try simp only [← hl7_2])
                      go_roundg k3
                      case measure => have := HK1.out; have := HK2.out; have := HK3.out; omega
                      case rel => exact ⟨(x6_2), (x7_2), (wrap64 (x34_2 + 1)), lF, H', ⟨by have := HK1.out; have := HK2.out; have := HK3.out; omega⟩, ⟨by (try simp only [hl7_2]); (with_reducible repeat (first | apply Kd.R_alloc | apply Kd.R_drewN | apply Kd.R_drew)); exact Kd.R_mono HO_6.out (fun _ hk => hk.1)⟩, ⟨by (try simp only [hl7_2]); (with_reducible repeat (first | apply Kd.R_alloc | apply Kd.R_drewN | apply Kd.R_drew)); exact Kd.R_mono HO_7.out (fun _ hk => hk.1)⟩, ⟨lB⟩⟩
                    ·rw [if_neg c48] at H
                     exact absurd H (by simp)
                  ·rw [if_neg c39] at H
                   exact absurd H (by simp)
                 ·rw [if_neg c38] at H
                  exact absurd H (by simp)
                ·replace c37 := Bool.eq_false_iff.mpr c37
                 subst c37
                 rw [if_neg (show ¬ (false = true) by decide)] at H
                 have H' := Aside0.mk H
                 clear H
                 go_wp2
                 (try simp only [← hl7_2])
                 go_roundg k3
                 case measure => have := HK1.out; have := HK2.out; have := HK3.out; omega
                 case rel => exact ⟨(x6_2), (x7_2), (wrap64 (x34_2 + 1)), lF, H', ⟨by have := HK1.out; have := HK2.out; have := HK3.out; omega⟩, ⟨by (try simp only [hl7_2]); (with_reducible repeat (first | apply Kd.R_alloc | apply Kd.R_drewN | apply Kd.R_drew)); exact Kd.R_mono HO_6.out (fun _ hk => hk.1)⟩, ⟨by (try simp only [hl7_2]); (with_reducible repeat (first | apply Kd.R_alloc | apply Kd.R_drewN | apply Kd.R_drew)); exact Kd.R_mono HO_7.out (fun _ hk => hk.1)⟩, ⟨lB⟩⟩
            ·rw [if_neg c19] at H
             exact absurd H (by simp)
           ·rw [if_neg c18] at H
            exact absurd H (by simp)
          ·rw [if_neg c17] at H
           have c17b0 : decide (x34_2 < (l1.length : Int)) = false := decide_eq_false c17
           clear c17
           have H' := Aside0.mk H
           clear H
           go_wp2
           (try simp only [← hl7_2])
           go_roundg k2
           case measure => have := HK1.out; have := HK2.out; omega
           case rel => exact ⟨(x6_2), (x7_2), (wrap64 (x8_1 - 1)), lF, H', ⟨by have := HK1.out; have := HK2.out; omega⟩, ⟨by (try simp only [hl7_2]); (with_reducible repeat (first | apply Kd.R_alloc | apply Kd.R_drewN | apply Kd.R_drew)); exact HO_6.out⟩, ⟨by (try simp only [hl7_2]); (with_reducible repeat (first | apply Kd.R_alloc | apply Kd.R_drewN | apply Kd.R_drew)); exact HO_7.out⟩, ⟨lB⟩⟩
       ·rw [if_neg c13] at H
        exact absurd H (by simp)
      ·rw [if_neg c12] at H
       exact absurd H (by simp)
     ·rw [if_neg c11] at H
      have c11b0 : decide (0 ≤ x8_1) = false := decide_eq_false c11
      clear c11
      simp only [Option.some.injEq, Prod.mk.injEq] at H
      obtain ⟨rfl, rfl⟩ := H
      go_wp2
      go_ret2
      exact ⟨_, _, lE, lR HO_6.out, lR HO_7.out, lB⟩
  ·rw [if_neg c4] at H
   exact absurd H (by simp)
 ·rw [if_neg c3] at H
  exact absurd H (by simp)

/-! ### impl_BestCover_1: function 39 -/
def impl_BestCover_1.f (a0 : Int) (l1_0 : List Int) : Option (Int) := if 0 ≤ a0 then (if a0 < (l1_0.length : Int) then (some (rd l1_0 a0)) else (none)) else (none)
set_option maxHeartbeats 8000000 in
set_option maxRecDepth 100000 in
theorem impl_BestCover_1.calls (a0 : Int) (g1 : Nat) (A1_0 : Option Addr) (c1_0 : Nat) (l1_0 : List Int) (r : Int) (w : World) (hb1 : w.heap[g1]? = some (.cells #[.slice A1_0 l1_0.length c1_0] 22 (0, 0))) (hr1_0 : Kd.C (Kd.int .i64) w A1_0 l1_0.length l1_0) (hc1_0 : l1_0.length ≤ c1_0) (h : impl_BestCover_1.f a0 l1_0 = some r) :
  Calls Try.prog 39 #[.int .i64 a0, .pointer (some ⟨g1, 0, none⟩)] w fun e w' => e = .returned (.int .i64 r) ∧ Drawn0 w w' := by
 have HR1_0 := Aside0.mk hr1_0
 have HC1_0 := Aside0.mk hc1_0
 clear hr1_0 hc1_0
 have BK1 := Aside0.mk hb1
 clear hb1
 have H : (if 0 ≤ a0 then (if a0 < (l1_0.length : Int) then (some (rd l1_0 a0)) else (none)) else (none)) = some r := h
 clear h
 by_cases c3 : 0 ≤ a0
 ·rw [if_pos c3] at H
  have c3b0 : decide (0 ≤ a0) = true := decide_eq_true c3
  clear c3
  by_cases c4 : a0 < (l1_0.length : Int)
  ·rw [if_pos c4] at H
   have c4b0 : decide (a0 < (l1_0.length : Int)) = true := decide_eq_true c4
   clear c4
   obtain rfl := Option.some.inj H
   obtain ⟨hcz5_0, hfz5_0⟩ := bk1 BK1.out
   have p227 : 0 ≤ (a0 : Int) := lD
   have q227 : a0 < (l1_0.length : Int) := lD
   obtain ⟨ad227, e227, hx227_0⟩ := Kd.at_int HR1_0.out a0 p227 q227
   cases e227
   replace p227 := eq_true p227
   replace q227 := eq_true q227
   go_enter Try.func39, Try.ntmps39
   first | (go_wp2; go_ret; exact ⟨by first | rfl | (simp; done) | (simp [*]; done), by repeat (first | exact Drawn0.refl _ | apply Drawn0.step)⟩) | (exfalso; simp only [decide_eq_false_iff_not, decide_eq_true_eq] at *; omega)
  ·rw [if_neg c4] at H
   exact absurd H (by simp)
 ·rw [if_neg c3] at H
  exact absurd H (by simp)

/-! ### impl_Pattern_size: function 47 -/
def impl_Pattern_size.l0 : Nat → Int → List Int → Int → Int → Option (Int)
 | 0, _, _, _, _ => none
 | k + 1, x3, x7, x8, x9 => if x9 < x8 then (if 0 ≤ x9 then (if x9 < (x7.length : Int) then (if (rd x7 x9) = 0 then (impl_Pattern_size.l0 k x3 x7 x8 (wrap64 (x9 + 1))) else (impl_Pattern_size.l0 k (wrap64 (x3 + 1)) x7 x8 (wrap64 (x9 + 1)))) else (none)) else (none)) else (some x3)
def impl_Pattern_size.f (k : Nat) (l0_0 : List Int) (a0_1 : Int) : Option (Int) := impl_Pattern_size.l0 k 0 l0_0 (l0_0.length : Int) 0
theorem impl_Pattern_size.mono_l : ∀ k, (∀ y0 y1 y2 y3, LeO (impl_Pattern_size.l0 k y0 y1 y2 y3) (impl_Pattern_size.l0 (k + 1) y0 y1 y2 y3))
 | 0 => fun _ _ _ _ r h => by simp [impl_Pattern_size.l0] at h
 | k + 1 => by
  have ih0 := impl_Pattern_size.mono_l k
  ·intro y0 y1 y2 y3
   unfold impl_Pattern_size.l0
   repeat' first
   | with_reducible apply ih0
   | (with_reducible exact LeO.refl _)
   | (with_reducible exact LeO.none _)
   | (with_reducible refine LeO.ite ?_ ?_)
   | (with_reducible refine LeO.bind ?_ (fun _ => ?_))
   | apply ih0
   | exact LeO.none _
   | refine LeO.ite ?_ ?_
   | refine LeO.bind ?_ (fun _ => ?_)
theorem impl_Pattern_size.mono : ∀ a0 a1 k, LeO (impl_Pattern_size.f k a0 a1) (impl_Pattern_size.f (k + 1) a0 a1) := by
 intro a0 a1 k
 have ih0 := impl_Pattern_size.mono_l k
 unfold impl_Pattern_size.f
 repeat' first
   | with_reducible apply ih0
   | (with_reducible exact LeO.refl _)
   | (with_reducible exact LeO.none _)
   | (with_reducible refine LeO.ite ?_ ?_)
   | (with_reducible refine LeO.bind ?_ (fun _ => ?_))
   | apply ih0
   | exact LeO.none _
   | refine LeO.ite ?_ ?_
   | refine LeO.bind ?_ (fun _ => ?_)
set_option maxHeartbeats 8000000 in
set_option maxRecDepth 100000 in
theorem impl_Pattern_size.calls (k : Nat) (A0_0 : Option Addr) (c0_0 : Nat) (l0_0 : List Int) (a0_1 : Int) (r : Int) (w : World) (hr0_0 : Kd.C (Kd.int .i64) w A0_0 l0_0.length l0_0) (hc0_0 : l0_0.length ≤ c0_0) (h : impl_Pattern_size.f k l0_0 a0_1 = some r) :
  Calls Try.prog 47 #[.agg #[.slice A0_0 l0_0.length c0_0, .int .i64 a0_1]] w fun e w' => e = .returned (.int .i64 r) ∧ Below w.heap.size w w' := by
 have hu57 := Try.underlying57
 have HR0_0 := Aside0.mk hr0_0
 have HC0_0 := Aside0.mk hc0_0
 clear hr0_0 hc0_0
 have HB := Aside0.mk (Below.refl w.heap.size w)
 have H : (impl_Pattern_size.l0 k 0 l0_0 (l0_0.length : Int) 0) = some r := h
 clear h
 have H' := Aside0.mk H
 clear H
 go_enter Try.func47, Try.ntmps47
 go_wp2_with (first | ((with_reducible refine gate_dst (N := 1) rfl ?_); refine bxe 1 #[.slice A0_0 l0_0.length c0_0, .int .i64 a0_1] 57 ?_; intro gb228 hg w2 hbox hb; have n0_ := Aside0.mk (below_step lB hb); have n1_ := Aside0.mk (hbox); have n2_ := lG w hg; have n3_ := lG w hg; clear HB; have HB := n0_; have BK228 := n1_; have GW228 := n2_; have GE228 := n3_; clear n0_ n1_ n2_ n3_; clear hb hbox hg; obtain ⟨hcz3_0, hfz3_0, hcz3_1, hfz3_1⟩ := bk2 BK228.out))
 go_loopg [3, 9] k (fun kq v3 v9 w' => ∃ (x3_1 : Int) (x9_1 : Int), v3 = .int .i64 x3_1 ∧ v9 = .int .i64 x9_1 ∧ Aside0 (impl_Pattern_size.l0 kq x3_1 l0_0 (l0_0.length : Int) x9_1 = some r) ∧ Aside0 (kq ≤ k) ∧ Aside0 (w'.heap[gb228]? = some (.cells #[(.slice A0_0 l0_0.length c0_0), .int .i64 a0_1] 57 (0, 0))) ∧ Aside0 (Below w.heap.size w w'))
 case atStart => exact ⟨(0), (0), lF, lF, H', ⟨Nat.le_refl _⟩, ⟨lK BK228.out⟩, ⟨lB⟩⟩
 case round =>
  clear H'
  try clear p2
  try clear hcz3_0 hcz3_1 hfz3_0 hfz3_1
  obtain ⟨x3_1, x9_1, rfl, rfl, HA, HK1, BK228, HB⟩ := hrel
  cases gk with
  | zero => exact absurd HA.out (by simp [impl_Pattern_size.l0])
  | succ k1 =>
   have H := HA.out
   clear HA
   simp only [impl_Pattern_size.l0] at H
   by_cases c4 : x9_1 < (l0_0.length : Int)
   ·rw [if_pos c4] at H
    have c4b0 : decide (x9_1 < (l0_0.length : Int)) = true := decide_eq_true c4
    clear c4
    by_cases c5 : 0 ≤ x9_1
    ·rw [if_pos c5] at H
     have c5b0 : decide (0 ≤ x9_1) = true := decide_eq_true c5
     clear c5
     by_cases c6 : x9_1 < (l0_0.length : Int)
     ·rw [if_pos c6] at H
      have c6b0 : decide (x9_1 < (l0_0.length : Int)) = true := decide_eq_true c6
      clear c6
      by_cases c7 : (rd l0_0 x9_1) = 0
      ·rw [if_pos c7] at H
       have c7b0 : ((rd l0_0 x9_1) == 0) = true := beq_iff_eq.mpr c7
       have c7b1 : ((rd l0_0 x9_1) != 0) = false := bne_eq_false_iff_eq.mpr c7
       clear c7
       have H' := Aside0.mk H
       clear H
       have p229 : 0 ≤ (x9_1 : Int) := lD
       have q229 : x9_1 < (l0_0.length : Int) := lD
       obtain ⟨ad229, e229, hx229_0⟩ := Kd.at_int HR0_0.out x9_1 p229 q229
       cases e229
       replace hx229_0 := pw_cell_below HB.out hx229_0
       replace p229 := eq_true p229
       replace q229 := eq_true q229
       go_wp2
       go_roundg k1
       case measure => have := HK1.out; omega
       case rel => exact ⟨(x3_1), (wrap64 (x9_1 + 1)), lF, lF, H', ⟨by have := HK1.out; omega⟩, ⟨lK BK228.out⟩, ⟨lB⟩⟩
      ·rw [if_neg c7] at H
       have c7b0 : ((rd l0_0 x9_1) == 0) = false := beq_eq_false_iff_ne.mpr c7
       have c7b1 : ((rd l0_0 x9_1) != 0) = true := bne_iff_ne.mpr c7
       have H' := Aside0.mk H
       clear H
       have p229 : 0 ≤ (x9_1 : Int) := lD
       have q229 : x9_1 < (l0_0.length : Int) := lD
       obtain ⟨ad229, e229, hx229_0⟩ := Kd.at_int HR0_0.out x9_1 p229 q229
       cases e229
       replace hx229_0 := pw_cell_below HB.out hx229_0
       replace p229 := eq_true p229
       replace q229 := eq_true q229
       go_wp2
       go_roundg k1
       case measure => have := HK1.out; omega
       case rel => exact ⟨(wrap64 (x3_1 + 1)), (wrap64 (x9_1 + 1)), lF, lF, H', ⟨by have := HK1.out; omega⟩, ⟨lK BK228.out⟩, ⟨lB⟩⟩
     ·rw [if_neg c6] at H
      exact absurd H (by simp)
    ·rw [if_neg c5] at H
     exact absurd H (by simp)
   ·rw [if_neg c4] at H
    have c4b0 : decide (x9_1 < (l0_0.length : Int)) = false := decide_eq_false c4
    clear c4
    obtain rfl := Option.some.inj H
    first | (go_wp2; go_ret; exact ⟨lE, lB⟩) | (exfalso; simp only [decide_eq_false_iff_not, decide_eq_true_eq] at *; omega)

end Go.Proofs.Ytfdbdbihhgabpaa.Q
