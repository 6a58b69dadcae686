-- Written by the program wip/tools/pr.py of this claim's session, over the kit's print.py.
import Derived.Test.YtjmgleomljfieaaQx0
import Derived.Test.YtjmgleomljfieaaQx4
import Derived.Test.YtjmgleomljfieaaQx5
namespace Go.Proofs.Ytjmgleomljfieaa.Q
open Go.RowKit Go.Proofs.YtjmgleomljfieaaW.PrintWords Go.Proofs.YtjmgleomljfieaaW.PrintLast Go.Proofs.YtjmgleomljfieaaW.PrintMore
attribute [local go_sem] max2_int min2_int max_two min_two max_three min_three max_four min_four   -- for this text's walks alone
set_option linter.unusedVariables false
set_option linter.unusedSimpArgs false

/-! ### spec_l12Call: function 76 -/
mutual
def spec_l12Call.j0 : Nat → Int → Int → Int → Int → List (S97) → Int → Int → Int → Option (Int × Int × (List (S97)) × Int × Int × Int)
 | 0, _, _, _, _, _, _, _, _ => none
 | k + 1, x2, x3, x201000, x201001, x201002, x201003, x201004, x201005 => spec_l12Call.l0 k x2 x3 x201002 (x201002.length : Int) 0 x201000 x201001 x201002 x201003 x201004 x201005
def spec_l12Call.l0 : Nat → Int → Int → List (S97) → Int → Int → Int → Int → List (S97) → Int → Int → Int → Option (Int × Int × (List (S97)) × Int × Int × Int)
 | 0, _, _, _, _, _, _, _, _, _, _, _ => none
 | k + 1, x2, x3, x27, x28, x29, x201000, x201001, x201002, x201003, x201004, x201005 => if x29 < x28 then (if 0 ≤ x29 then (if x29 < (x27.length : Int) then (if ((rd_T97 x27 x29).f0) = x2 then (some (x201000, x201001, x201002, x201003, wrap64 (x201004 + 1), x201005)) else (spec_l12Call.l0 k x2 x3 x27 x28 (wrap64 (x29 + 1)) x201000 x201001 x201002 x201003 x201004 x201005)) else (none)) else (none)) else (if x201001 = 3 then (some (x201000, x201001, x201002, x201003, x201004, wrap64 (x201005 + 1))) else (if (x201002.length : Int) = 4 then (some (x201000, 3, ([] : List (S97)), x201003, x201004, wrap64 (x201005 + 1))) else (if x201002.length < 8796093022208 then ((some (x201002 ++ [(⟨x2, x3⟩ : S97)] : List (S97))).bind fun y210 => (if (y210.length : Int) = 1 then (some (x201000, 1, y210, x201003, x201004, wrap64 (x201005 + 1))) else (some (x201000, 2, y210, x201003, x201004, wrap64 (x201005 + 1))))) else (none))))
end
def spec_l12Call.f (k : Nat) (l0_0 : List (S82)) (a0_1 : Int) (a1_0 : Int) (a1_1 : Int) (l1_2 : List (S97)) (a1_3 : Int) (a1_4 : Int) (a1_5 : Int) (a2 : Int) (a3 : Int) : Option (Int × Int × (List (S97)) × Int × Int × Int) := (some (([] : List (S97)) : List (S97))).bind fun y202 => (if y202.length + l1_2.length < 8796093022208 then (if a1_3 = a0_1 then (spec_l12Call.j0 k a2 a3 a1_0 a1_1 (y202 ++ l1_2) a1_3 a1_4 a1_5) else (spec_l12Call.j0 k a2 a3 a1_0 0 ([] : List (S97)) a0_1 a1_4 a1_5)) else (none))
theorem spec_l12Call.mono_l : ∀ k, (∀ y0 y1 y2 y3 y4 y5 y6 y7, LeO (spec_l12Call.j0 k y0 y1 y2 y3 y4 y5 y6 y7) (spec_l12Call.j0 (k + 1) y0 y1 y2 y3 y4 y5 y6 y7)) ∧ (∀ y0 y1 y2 y3 y4 y5 y6 y7 y8 y9 y10, LeO (spec_l12Call.l0 k y0 y1 y2 y3 y4 y5 y6 y7 y8 y9 y10) (spec_l12Call.l0 (k + 1) y0 y1 y2 y3 y4 y5 y6 y7 y8 y9 y10))
 | 0 => ⟨fun _ _ _ _ _ _ _ _ r h => by simp [spec_l12Call.j0] at h, fun _ _ _ _ _ _ _ _ _ _ _ r h => by simp [spec_l12Call.l0] at h⟩
 | k + 1 => by
  obtain ⟨ih0, ih1⟩ := spec_l12Call.mono_l k
  refine ⟨?_, ?_⟩
  ·intro y0 y1 y2 y3 y4 y5 y6 y7
   unfold spec_l12Call.j0
   repeat' first
   | with_reducible apply ih0
   | with_reducible apply ih1
   | (with_reducible exact LeO.refl _)
   | (with_reducible exact LeO.none _)
   | (with_reducible refine LeO.ite ?_ ?_)
   | (with_reducible refine LeO.bind ?_ (fun _ => ?_))
   | apply ih0
   | apply ih1
   | exact LeO.none _
   | refine LeO.ite ?_ ?_
   | refine LeO.bind ?_ (fun _ => ?_)
  ·intro y0 y1 y2 y3 y4 y5 y6 y7 y8 y9 y10
   unfold spec_l12Call.l0
   repeat' first
   | with_reducible apply ih0
   | with_reducible apply ih1
   | (with_reducible exact LeO.refl _)
   | (with_reducible exact LeO.none _)
   | (with_reducible refine LeO.ite ?_ ?_)
   | (with_reducible refine LeO.bind ?_ (fun _ => ?_))
   | apply ih0
   | apply ih1
   | exact LeO.none _
   | refine LeO.ite ?_ ?_
   | refine LeO.bind ?_ (fun _ => ?_)
theorem spec_l12Call.mono : ∀ a0 a1 a2 a3 a4 a5 a6 a7 a8 a9 k, LeO (spec_l12Call.f k a0 a1 a2 a3 a4 a5 a6 a7 a8 a9) (spec_l12Call.f (k + 1) a0 a1 a2 a3 a4 a5 a6 a7 a8 a9) := by
 intro a0 a1 a2 a3 a4 a5 a6 a7 a8 a9 k
 obtain ⟨ih0, ih1⟩ := spec_l12Call.mono_l k
 unfold spec_l12Call.f
 repeat' first
   | with_reducible apply ih0
   | with_reducible apply ih1
   | (with_reducible exact LeO.refl _)
   | (with_reducible exact LeO.none _)
   | (with_reducible refine LeO.ite ?_ ?_)
   | (with_reducible refine LeO.bind ?_ (fun _ => ?_))
   | apply ih0
   | apply ih1
   | exact LeO.none _
   | refine LeO.ite ?_ ?_
   | refine LeO.bind ?_ (fun _ => ?_)
set_option maxHeartbeats 8000000 in
set_option maxRecDepth 100000 in
theorem spec_l12Call.calls (k : Nat) (A0_0 : Option Addr) (c0_0 : Nat) (l0_0 : List (S82)) (a0_1 : Int) (a1_0 : Int) (a1_1 : Int) (A1_2 : Option Addr) (c1_2 : Nat) (l1_2 : List (S97)) (a1_3 : Int) (a1_4 : Int) (a1_5 : Int) (a2 : Int) (a3 : Int) (r1 : Int) (r2 : Int) (r3 : List (S97)) (r4 : Int) (r5 : Int) (r6 : Int) (w : World) (hr0_0 : Kd.C k82 w A0_0 l0_0.length l0_0) (hc0_0 : l0_0.length ≤ c0_0) (hr1_2 : Kd.C k97 w A1_2 l1_2.length l1_2) (hc1_2 : l1_2.length ≤ c1_2) (h : spec_l12Call.f k l0_0 a0_1 a1_0 a1_1 l1_2 a1_3 a1_4 a1_5 a2 a3 = some (r1, r2, r3, r4, r5, r6)) :
  Calls Try.prog 76 #[.agg #[.slice A0_0 l0_0.length c0_0, .int .i64 a0_1], .agg #[.int .i64 a1_0, .int .i64 a1_1, .slice A1_2 l1_2.length c1_2, .int .i64 a1_3, .int .i64 a1_4, .int .i64 a1_5], .int .i64 a2, .int .i64 a3] w fun e w' => ∃ v2_ : Value, e = .returned (.agg #[.int .i64 r1, .int .i64 r2, v2_, .int .i64 r4, .int .i64 r5, .int .i64 r6]) ∧ Kd.R k97 97 w' w.heap.size (fun _ => True) v2_ r3 ∧ Below w.heap.size w w' := by
 have hu29 := Try.underlying29
 have hu44 := Try.underlying44
 have hu97 := Try.underlying97
 have HR0_0 := Aside0.mk hr0_0
 have HC0_0 := Aside0.mk hc0_0
 clear hr0_0 hc0_0
 have HR1_2 := Aside0.mk hr1_2
 have HC1_2 := Aside0.mk hc1_2
 clear hr1_2 hc1_2
 have HB := Aside0.mk (Below.refl w.heap.size w)
 have H : ((some (([] : List (S97)) : List (S97))).bind fun y202 => (if y202.length + l1_2.length < 8796093022208 then (if a1_3 = a0_1 then (spec_l12Call.j0 k a2 a3 a1_0 a1_1 (y202 ++ l1_2) a1_3 a1_4 a1_5) else (spec_l12Call.j0 k a2 a3 a1_0 0 ([] : List (S97)) a0_1 a1_4 a1_5)) else (none))) = some (r1, r2, r3, r4, r5, r6) := h
 clear h
 obtain ⟨y202, hy202⟩ : ∃ y_ : List (S97), y_ = (([] : List (S97))) := ⟨_, rfl⟩
 replace H : (if y202.length + l1_2.length < 8796093022208 then (if a1_3 = a0_1 then (spec_l12Call.j0 k a2 a3 a1_0 a1_1 (y202 ++ l1_2) a1_3 a1_4 a1_5) else (spec_l12Call.j0 k a2 a3 a1_0 0 ([] : List (S97)) a0_1 a1_4 a1_5)) else (none)) = some (r1, r2, r3, r4, r5, r6) := by first | (rw [hy202]; with_reducible exact H) | (have H2_ := (Option.bind_some _ _).symm.trans H; rw [hy202]; with_reducible exact H2_) | (have H2_ := (Option.bind_some _ _).symm.trans H; with_reducible exact H2_) | with_reducible exact H | (rw [hy202]; exact H) | exact H
 have Ny202 := Aside0.mk hy202
 clear hy202
 by_cases c5 : y202.length + l1_2.length < 8796093022208
 ·rw [if_pos c5] at H
  have LMc5 := Aside0.mk c5
  clear c5
  obtain ⟨y205, hy205⟩ : ∃ y_ : List (S97), y_ = (y202 ++ l1_2) := ⟨_, rfl⟩
  replace H : (if a1_3 = a0_1 then (spec_l12Call.j0 k a2 a3 a1_0 a1_1 y205 a1_3 a1_4 a1_5) else (spec_l12Call.j0 k a2 a3 a1_0 0 ([] : List (S97)) a0_1 a1_4 a1_5)) = some (r1, r2, r3, r4, r5, r6) := by first | (rw [hy205]; with_reducible exact H) | (have H2_ := (Option.bind_some _ _).symm.trans H; rw [hy205]; with_reducible exact H2_) | (have H2_ := (Option.bind_some _ _).symm.trans H; with_reducible exact H2_) | with_reducible exact H | (rw [hy205]; exact H) | exact H
  have Ny205 := Aside0.mk hy205
  clear hy205
  have HC6 := Aside0.mk H
  clear H
  go_enter Try.func76, Try.ntmps76
  go_upto_if 20 with (first | ((with_reducible refine gate_dst (N := 4) rfl ?_); refine bxe 4 #[.slice A0_0 l0_0.length c0_0, .int .i64 a0_1] 29 ?_; intro gb199 hg w7 hbox hb; have n0_ := Aside0.mk (below_step lB hb); have n1_ := Aside0.mk (hbox); have n2_ := lG w hg; have n3_ := lG w hg; clear HB; have HB := n0_; have BK199 := n1_; have GW199 := n2_; have GE199 := n3_; clear n0_ n1_ n2_ n3_; clear hb hbox hg) | ((with_reducible refine gate_dst (N := 5) rfl ?_); refine bxe 5 #[.int .i64 a1_0, .int .i64 a1_1, .slice A1_2 l1_2.length c1_2, .int .i64 a1_3, .int .i64 a1_4, .int .i64 a1_5] 44 ?_; intro gb200 hg w8 hbox hb; have n0_ := Aside0.mk (blk_below (lK BK199.out) hb); have n1_ := Aside0.mk (below_step lB hb); have n2_ := Aside0.mk (hbox); have n3_ := lG w hg; have n4_ := lG w hg; have n5_ := Aside0.mk ((by rw [hg]; exact Nat.ne_of_lt (blk_lt (lK BK199.out)) : gb199 ≠ gb200)); have n6_ := Aside0.mk ((by rw [hg]; exact Nat.ne_of_gt (blk_lt (lK BK199.out)) : gb200 ≠ gb199)); clear BK199; clear HB; have BK199 := n0_; have HB := n1_; have BK200 := n2_; have GW200 := n3_; have GE200 := n4_; have NB199_200 := n5_; have NB200_199 := n6_; clear n0_ n1_ n2_ n3_ n4_ n5_ n6_; clear hb hbox hg) | ((with_reducible refine gate_dst (N := 8) rfl ?_); refine bxe 8 #[.int .i64 0, .int .i64 0, .slice none 0 0, .int .i64 0, .int .i64 0, .int .i64 0] 44 ?_; intro gb201 hg w9 hbox hb; have n0_ := Aside0.mk (blk_below (lK BK199.out) hb); have n1_ := Aside0.mk (blk_below (lK BK200.out) hb); have n2_ := Aside0.mk (below_step lB hb); have n3_ := Aside0.mk (hbox); have n4_ := lG w hg; have n5_ := lG w hg; have n6_ := Aside0.mk ((by rw [hg]; exact Nat.ne_of_lt (blk_lt (lK BK199.out)) : gb199 ≠ gb201)); have n7_ := Aside0.mk ((by rw [hg]; exact Nat.ne_of_gt (blk_lt (lK BK199.out)) : gb201 ≠ gb199)); have n8_ := Aside0.mk ((by rw [hg]; exact Nat.ne_of_lt (blk_lt (lK BK200.out)) : gb200 ≠ gb201)); have n9_ := Aside0.mk ((by rw [hg]; exact Nat.ne_of_gt (blk_lt (lK BK200.out)) : gb201 ≠ gb200)); clear BK199; clear BK200; clear HB; have BK199 := n0_; have BK200 := n1_; have HB := n2_; have BK201 := n3_; have GW201 := n4_; have GE201 := n5_; have NB199_201 := n6_; have NB201_199 := n7_; have NB200_201 := n8_; have NB201_200 := n9_; clear n0_ n1_ n2_ n3_ n4_ n5_ n6_ n7_ n8_ n9_; clear hb hbox hg) | ((with_reducible refine gate_dst (N := 11) rfl ?_); refine Kd.R_lit k97 _ 97 ?hg (N := 11) ?hd (xs := ([] : List (S97))) (inner := []) (ok := fun _ => True) (okp := fun _ => True) ?hr ?hp (fun _ hk => hk) trivial (Below.refl _ _) (Nat.le_refl _) (by simp) ?_; (case hd => rfl); (case hg => rfl); (case hr => first | (go_simp; done) | (go_simp; rfl)); (case hp => exact (Reps.none _ _)); intro v203 w10 ho11 hb hg_ hnew_; clear hg_ hnew_; (first | rw [← Ny202.out] at ho11 | (simp only [Int.reduceToNat] at ho11; rw [← Ny202.out] at ho11)); have n0_ := Aside0.mk (Kd.R_lower ho11 (below_size lB)); have n1_ := Aside0.mk (blk_below (lK BK199.out) hb); have n2_ := Aside0.mk (blk_below (lK BK200.out) hb); have n3_ := Aside0.mk (blk_below (lK BK201.out) hb); have n4_ := Aside0.mk (below_step lB hb); clear BK199; clear BK200; clear BK201; clear HB; have HO204 := n0_; have BK199 := n1_; have BK200 := n2_; have BK201 := n3_; have HB := n4_; clear n0_ n1_ n2_ n3_ n4_; clear hb ho11; have hnb12 := NB200_199.out; have hnc12 := NB199_200.out; have hnb13 := NB200_201.out; have hnc13 := NB201_200.out; obtain ⟨hcz14_0, hfz14_0, hcz14_1, hfz14_1, hcz14_2, hfz14_2, hcz14_3, hfz14_3, hcz14_4, hfz14_4, hcz14_5, hfz14_5⟩ := bk6 BK200.out) | ((with_reducible refine gate_builtin (b := .append) (xs := #[.tmp 11, .tmp 13]) rfl ?_); at_builtin; refine Kd.R_append_rows k97 (w0 := w) w.heap.size rfl (.tmp 11) (.tmp 13) 42 97 (.agg #[(.int .i64 0), (.int .i64 0)]) 16 rfl Try.underlying42 info97 rfl (by decide) (by omega) v203 y202 l1_2 _ _ _ (fun _ => True) (fun _ => False) rfl rfl ?aO ?aR (fun _ _ h => h) (fun _ h => h.elim) ?aF ?aB ?aS ?aL ?_; (case aR => exact lC (Kd.C_below HR1_2.out HB.out)); (case aB => exact lB); (case aF => exact (fun _ _ => trivial)); (case aO => exact (lR HO204.out)); (case aS => exact (below_size lB)); (case aL => have := LMc5.out; omega); intro v206 w15 ho hb hg hat; rw [← Ny205.out] at ho; have n0_ := Aside0.mk (blk_grown (lK BK199.out) hg (Kd.R_ne HO204.out BK199.out (by decide))); have n1_ := Aside0.mk (blk_grown (lK BK200.out) hg (Kd.R_ne HO204.out BK200.out (by decide))); have n2_ := Aside0.mk (blk_grown (lK BK201.out) hg (Kd.R_ne HO204.out BK201.out (by decide))); have n3_ := Aside0.mk (hb); have n4_ := Aside0.mk (ho); clear BK199; clear BK200; clear BK201; clear HB; clear HO204; have BK199 := n0_; have BK200 := n1_; have BK201 := n2_; have HB := n3_; have HO207 := n4_; clear n0_ n1_ n2_ n3_ n4_; clear ho hb hg hat; obtain ⟨Ao16, co16, eo16⟩ := Kd.R_slice HO207.out; subst eo16; obtain ⟨hcz17_0, hfz17_0, hcz17_1, hfz17_1, hcz17_2, hfz17_2, hcz17_3, hfz17_3, hcz17_4, hfz17_4, hcz17_5, hfz17_5⟩ := bk6 BK200.out; have hnb18 := NB199_201.out; have hnc18 := NB201_199.out; obtain ⟨hcz19_0, hfz19_0, hcz19_1, hfz19_1⟩ := bk2 BK199.out))
  (try simp only [Act.put, List.setIfInBounds_toArray, List.set_cons_zero, List.set_cons_succ])
  go_cut [] (fun wc => ∃ (kq : Nat) (x201001_5 : Int) (x201002_5 : List (S97)) (x201003_5 : Int) (u201002 : Value), Aside0 (spec_l12Call.j0 kq a2 a3 a1_0 x201001_5 x201002_5 x201003_5 a1_4 a1_5 = some (r1, r2, r3, r4, r5, r6)) ∧ Aside0 (kq ≤ k) ∧ Aside0 (Kd.R k97 97 wc w.heap.size (fun _ => True) u201002 x201002_5) ∧ Aside0 (wc.heap[gb199]? = some (.cells #[(.slice A0_0 l0_0.length c0_0), .int .i64 a0_1] 29 (0, 0))) ∧ Aside0 (wc.heap[gb200]? = some (.cells #[.int .i64 a1_0, .int .i64 x201001_5, u201002, .int .i64 x201003_5, .int .i64 a1_4, .int .i64 a1_5] 44 (0, 0))) ∧ Aside0 (wc.heap[gb201]? = some (.cells #[.int .i64 0, .int .i64 0, (.slice none 0 0), .int .i64 0, .int .i64 0, .int .i64 0] 44 (0, 0))) ∧ Aside0 (Below w.heap.size w wc))
  case first =>
   have H := HC6.out
   clear HC6
   by_cases c20 : a1_3 = a0_1
   ·rw [if_pos c20] at H
    have c20b0 : (a1_3 == a0_1) = true := beq_iff_eq.mpr c20
    have c20b1 : (a1_3 != a0_1) = false := bne_eq_false_iff_eq.mpr c20
    clear c20
    (first | rw [c20b0] | (simp only [i64_w, i32_w]; rw [c20b0]) | skip)
    have H' := Aside0.mk H
    clear H
    go_wp2
    go_meet
    case rel => exact ⟨_, (a1_1), (y205), (a1_3), (.slice Ao16 y205.length co16), H', ⟨lN⟩, ⟨by (with_reducible repeat (first | apply Kd.R_alloc | apply Kd.R_drewN | apply Kd.R_drew)); exact Kd.R_mono (Kd.R_far (p := ⟨gb200, 2, none⟩) (Kd.R_types HO207.out BK200.out (by decide)) (fun _ hk => hk.2) (.slice Ao16 y205.length co16)) (fun _ hk => trivial)⟩, ⟨lJ BK199.out⟩, ⟨by (with_reducible repeat first | apply bN | apply bD | apply bA); refine blk_put (cs := #[.int .i64 a1_0, .int .i64 a1_1, .slice A1_2 l1_2.length c1_2, .int .i64 a1_3, .int .i64 a1_4, .int .i64 a1_5]) ?_ 2 _ rfl; (with_reducible repeat first | apply bN | apply bD | apply bA); exact BK200.out⟩, ⟨lJ BK201.out⟩, ⟨lB⟩⟩
   ·rw [if_neg c20] at H
    have c20b0 : (a1_3 == a0_1) = false := beq_eq_false_iff_ne.mpr c20
    have c20b1 : (a1_3 != a0_1) = true := bne_iff_ne.mpr c20
    (first | rw [c20b0] | (simp only [i64_w, i32_w]; rw [c20b0]) | skip)
    have H' := Aside0.mk H
    clear H
    have hnb21 := NB200_199.out
    have hnc21 := NB199_200.out
    have hnb22 := NB200_201.out
    have hnc22 := NB201_200.out
    obtain ⟨hcz23_0, hfz23_0, hcz23_1, hfz23_1, hcz23_2, hfz23_2, hcz23_3, hfz23_3, hcz23_4, hfz23_4, hcz23_5, hfz23_5⟩ := bk6 BK200.out
    have hnb24 := NB199_201.out
    have hnc24 := NB201_199.out
    obtain ⟨hcz25_0, hfz25_0, hcz25_1, hfz25_1⟩ := bk2 BK199.out
    go_wp2
    go_meet
    case rel => exact ⟨_, (0), (([] : List (S97))), (a0_1), (.slice none 0 0), H', ⟨lN⟩, ⟨by first | exact Kd.R_nil _ _ _ _ _ | exact Kd.N_nil _ _ _ _ _ | exact Kd.V_nil _ _ _ _ _ | exact Kd.Q_nil _ _ _ _ _ | exact Kd.S_nil _ _ _ _ _⟩, ⟨lJ BK199.out⟩, ⟨by (with_reducible repeat first | apply bN | apply bD | apply bA); refine blk_put (cs := #[.int .i64 a1_0, .int .i64 0, .slice none 0 0, .int .i64 a1_3, .int .i64 a1_4, .int .i64 a1_5]) ?_ 3 _ rfl; (with_reducible repeat first | apply bN | apply bD | apply bA); refine blk_put (cs := #[.int .i64 a1_0, .int .i64 0, .slice Ao16 y205.length co16, .int .i64 a1_3, .int .i64 a1_4, .int .i64 a1_5]) ?_ 2 _ rfl; (with_reducible repeat first | apply bN | apply bD | apply bA); refine blk_put (cs := #[.int .i64 a1_0, .int .i64 a1_1, .slice Ao16 y205.length co16, .int .i64 a1_3, .int .i64 a1_4, .int .i64 a1_5]) ?_ 1 _ rfl; (with_reducible repeat first | apply bN | apply bD | apply bA); refine blk_put (cs := #[.int .i64 a1_0, .int .i64 a1_1, .slice A1_2 l1_2.length c1_2, .int .i64 a1_3, .int .i64 a1_4, .int .i64 a1_5]) ?_ 2 _ rfl; (with_reducible repeat first | apply bN | apply bD | apply bA); exact BK200.out⟩, ⟨lJ BK201.out⟩, ⟨lB⟩⟩
  case rest =>
   clear HC6
   try clear c1
   try clear c2
   try clear p2
   try clear c5
   try clear c7
   try clear c12
   try clear c13
   try clear c18
   try clear c20
   try clear c20b0
   try clear c20b1
   try clear c21
   try clear c22
   try clear c24
   try clear hcz14_0 hcz14_1 hcz14_2 hcz14_3 hcz14_4 hcz14_5
   try clear hcz17_0 hcz17_1 hcz17_2 hcz17_3 hcz17_4 hcz17_5
   try clear hcz19_0 hcz19_1
   try clear hcz23_0 hcz23_1 hcz23_2 hcz23_3 hcz23_4 hcz23_5
   try clear hcz25_0 hcz25_1
   try clear hfz14_0 hfz14_1 hfz14_2 hfz14_3 hfz14_4 hfz14_5
   try clear hfz17_0 hfz17_1 hfz17_2 hfz17_3 hfz17_4 hfz17_5
   try clear hfz19_0 hfz19_1
   try clear hfz23_0 hfz23_1 hfz23_2 hfz23_3 hfz23_4 hfz23_5
   try clear hfz25_0 hfz25_1
   obtain ⟨kq, x201001_5, x201002_5, x201003_5, u201002, HA, HJ5, HO_201002, BK199, BK200, BK201, HB⟩ := hcut
   cases kq with
   | zero => exact absurd HA.out (by simp [spec_l12Call.j0])
   | succ kj5 =>
    have H := HA.out
    clear HA
    simp only [spec_l12Call.j0] at H
    have H' := Aside0.mk H
    clear H
    have hnb26 := NB200_199.out
    have hnc26 := NB199_200.out
    have hnb27 := NB200_201.out
    have hnc27 := NB201_200.out
    obtain ⟨hcz28_0, hfz28_0, hcz28_1, hfz28_1, hcz28_2, hfz28_2, hcz28_3, hfz28_3, hcz28_4, hfz28_4, hcz28_5, hfz28_5⟩ := bk6 BK200.out
    obtain ⟨Ao29, co29, eo29⟩ := Kd.R_slice HO_201002.out
    subst eo29
    go_wp2
    go_loopg [29] kj5 (fun kq v29 w' => ∃ (x29_2 : Int) (x201004_2 : Int) (x202000_2 : Int) (x202001_2 : Int) (x202003_2 : Int) (x202004_2 : Int) (x202005_2 : Int), v29 = .int .i64 x29_2 ∧ Aside0 (spec_l12Call.l0 kq a2 a3 x201002_5 (x201002_5.length : Int) x29_2 a1_0 x201001_5 x201002_5 x201003_5 x201004_2 a1_5 = some (r1, r2, r3, r4, r5, r6)) ∧ Aside0 (kq ≤ kj5) ∧ Aside0 (Kd.R k97 97 w' w.heap.size (fun _ => True) (.slice Ao29 x201002_5.length co29) x201002_5) ∧ Aside0 (Kd.R k97 97 w' w.heap.size (fun _ => True) (.slice Ao29 x201002_5.length co29) x201002_5) ∧ Aside0 (w'.heap[gb199]? = some (.cells #[(.slice A0_0 l0_0.length c0_0), .int .i64 a0_1] 29 (0, 0))) ∧ Aside0 (w'.heap[gb200]? = some (.cells #[.int .i64 a1_0, .int .i64 x201001_5, (.slice Ao29 x201002_5.length co29), .int .i64 x201003_5, .int .i64 x201004_2, .int .i64 a1_5] 44 (0, 0))) ∧ Aside0 (w'.heap[gb201]? = some (.cells #[.int .i64 x202000_2, .int .i64 x202001_2, (.slice none 0 0), .int .i64 x202003_2, .int .i64 x202004_2, .int .i64 x202005_2] 44 (0, 0))) ∧ Aside0 (Below w.heap.size w w'))
    case atStart => exact ⟨(0), (a1_4), (0), (0), (0), (0), (0), lF, H', ⟨Nat.le_refl _⟩, ⟨lR HO_201002.out⟩, ⟨lR HO_201002.out⟩, ⟨lK BK199.out⟩, ⟨lK BK200.out⟩, ⟨lK BK201.out⟩, ⟨lB⟩⟩
    case round =>
     clear H'
     try clear c1
     try clear c2
     try clear p2
     try clear c5
     try clear c7
     try clear c12
     try clear c13
     try clear c18
     try clear c20
     try clear c20b0
     try clear c20b1
     try clear c21
     try clear c22
     try clear c24
     try clear c26
     try clear c27
     try clear hcz14_0 hcz14_1 hcz14_2 hcz14_3 hcz14_4 hcz14_5
     try clear hcz17_0 hcz17_1 hcz17_2 hcz17_3 hcz17_4 hcz17_5
     try clear hcz19_0 hcz19_1
     try clear hcz23_0 hcz23_1 hcz23_2 hcz23_3 hcz23_4 hcz23_5
     try clear hcz25_0 hcz25_1
     try clear hcz28_0 hcz28_1 hcz28_2 hcz28_3 hcz28_4 hcz28_5
     try clear hfz14_0 hfz14_1 hfz14_2 hfz14_3 hfz14_4 hfz14_5
     try clear hfz17_0 hfz17_1 hfz17_2 hfz17_3 hfz17_4 hfz17_5
     try clear hfz19_0 hfz19_1
     try clear hfz23_0 hfz23_1 hfz23_2 hfz23_3 hfz23_4 hfz23_5
     try clear hfz25_0 hfz25_1
     try clear hfz28_0 hfz28_1 hfz28_2 hfz28_3 hfz28_4 hfz28_5
     try clear p2
     obtain ⟨x29_2, x201004_2, x202000_2, x202001_2, x202003_2, x202004_2, x202005_2, rfl, HA, HK2, HO_27, HO_201002, BK199, BK200, BK201, HB⟩ := hrel
     cases gk with
     | zero => exact absurd HA.out (by simp [spec_l12Call.l0])
     | succ k2 =>
      have H := HA.out
      clear HA
      simp only [spec_l12Call.l0] at H
      by_cases c30 : x29_2 < (x201002_5.length : Int)
      ·rw [if_pos c30] at H
       have c30b0 : decide (x29_2 < (x201002_5.length : Int)) = true := decide_eq_true c30
       clear c30
       by_cases c31 : 0 ≤ x29_2
       ·rw [if_pos c31] at H
        have c31b0 : decide (0 ≤ x29_2) = true := decide_eq_true c31
        clear c31
        by_cases c32 : x29_2 < (x201002_5.length : Int)
        ·rw [if_pos c32] at H
         have c32b0 : decide (x29_2 < (x201002_5.length : Int)) = true := decide_eq_true c32
         clear c32
         by_cases c33 : ((rd_T97 x201002_5 x29_2).f0) = a2
         ·rw [if_pos c33] at H
          have c33b0 : (((rd_T97 x201002_5 x29_2).f0) == a2) = true := beq_iff_eq.mpr c33
          have c33b1 : (((rd_T97 x201002_5 x29_2).f0) != a2) = false := bne_eq_false_iff_eq.mpr c33
          clear c33
          simp only [Option.some.injEq, Prod.mk.injEq] at H
          obtain ⟨rfl, rfl, rfl, rfl, rfl, rfl⟩ := H
          have p208 : 0 ≤ (x29_2 : Int) := lD
          have q208 : x29_2 < (x201002_5.length : Int) := lD
          obtain ⟨ad208, e208, hx208_0, hx208_1⟩ := at_T97 (Kd.R_reads' HO_27.out).2.2 x29_2 p208 q208
          cases e208
          replace p208 := eq_true p208
          replace q208 := eq_true q208
          go_wp2_with (first | ((with_reducible refine gate_dst (N := 10) rfl ?_); refine bxe 10 #[.int .i64 0, .int .i64 0] 97 ?_; intro gb209 hg w34 hbox hb; have n0_ := Aside0.mk (Kd.R_below (Kd.R_elderB (lR HO_27.out) gb209 (Nat.le_of_eq hg.symm)) hb); have n1_ := Aside0.mk (Kd.R_below (Kd.R_elderB (lR HO_201002.out) gb209 (Nat.le_of_eq hg.symm)) hb); have n2_ := Aside0.mk (blk_below (lK BK199.out) hb); have n3_ := Aside0.mk (blk_below (lK BK200.out) hb); have n4_ := Aside0.mk (blk_below (lK BK201.out) hb); have n5_ := Aside0.mk (below_step lB hb); have n6_ := Aside0.mk (hbox); have n7_ := lG w hg; have n8_ := lG w hg; have n9_ := Aside0.mk ((by rw [hg]; exact Nat.ne_of_lt (blk_lt (lK BK199.out)) : gb199 ≠ gb209)); have n10_ := Aside0.mk ((by rw [hg]; exact Nat.ne_of_gt (blk_lt (lK BK199.out)) : gb209 ≠ gb199)); have n11_ := Aside0.mk ((by rw [hg]; exact Nat.ne_of_lt (blk_lt (lK BK200.out)) : gb200 ≠ gb209)); have n12_ := Aside0.mk ((by rw [hg]; exact Nat.ne_of_gt (blk_lt (lK BK200.out)) : gb209 ≠ gb200)); have n13_ := Aside0.mk ((by rw [hg]; exact Nat.ne_of_lt (blk_lt (lK BK201.out)) : gb201 ≠ gb209)); have n14_ := Aside0.mk ((by rw [hg]; exact Nat.ne_of_gt (blk_lt (lK BK201.out)) : gb209 ≠ gb201)); clear HO_27; clear HO_201002; clear BK199; clear BK200; clear BK201; clear HB; have HO_27 := n0_; have HO_201002 := n1_; have BK199 := n2_; have BK200 := n3_; have BK201 := n4_; have HB := n5_; have BK209 := n6_; have GW209 := n7_; have GE209 := n8_; have NB199_209 := n9_; have NB209_199 := n10_; have NB200_209 := n11_; have NB209_200 := n12_; have NB201_209 := n13_; have NB209_201 := n14_; clear n0_ n1_ n2_ n3_ n4_ n5_ n6_ n7_ n8_ n9_ n10_ n11_ n12_ n13_ n14_; clear hb hbox hg; have hnb35 := NB209_199.out; have hnc35 := NB199_209.out; have hnb36 := NB209_200.out; have hnc36 := NB200_209.out; have hnb37 := NB209_201.out; have hnc37 := NB201_209.out; obtain ⟨hcz38_0, hfz38_0, hcz38_1, hfz38_1⟩ := bk2 BK209.out; have hnb39 := NB200_199.out; have hnc39 := NB199_200.out; have hnb40 := NB200_201.out; have hnc40 := NB201_200.out; obtain ⟨hcz41_0, hfz41_0, hcz41_1, hfz41_1, hcz41_2, hfz41_2, hcz41_3, hfz41_3, hcz41_4, hfz41_4, hcz41_5, hfz41_5⟩ := bk6 BK200.out; have hnb42 := NB201_199.out; have hnc42 := NB199_201.out; obtain ⟨hcz43_0, hfz43_0, hcz43_1, hfz43_1, hcz43_2, hfz43_2, hcz43_3, hfz43_3, hcz43_4, hfz43_4, hcz43_5, hfz43_5⟩ := bk6 BK201.out))
          refine bodyPost_ret (results_cell_row rfl _ _ gb201 44 #[.int .i64 a1_0, .int .i64 x201001_5, .slice (some ad208) x201002_5.length co29, .int .i64 x201003_5, .int .i64 (wrap64 (x201004_2 + 1)), .int .i64 a1_5] (0, 0) _ rfl (by (with_reducible repeat first | apply bN | apply bD | apply bA); refine blk_put (cs := #[.int .i64 a1_0, .int .i64 x201001_5, .slice (some ad208) x201002_5.length co29, .int .i64 x201003_5, .int .i64 (wrap64 (x201004_2 + 1)), .int .i64 x202005_2]) ?_ 5 _ rfl; (with_reducible repeat first | apply bN | apply bD | apply bA); refine blk_put (cs := #[.int .i64 a1_0, .int .i64 x201001_5, .slice (some ad208) x201002_5.length co29, .int .i64 x201003_5, .int .i64 x202004_2, .int .i64 x202005_2]) ?_ 4 _ rfl; (with_reducible repeat first | apply bN | apply bD | apply bA); refine blk_put (cs := #[.int .i64 a1_0, .int .i64 x201001_5, .slice (some ad208) x201002_5.length co29, .int .i64 x202003_2, .int .i64 x202004_2, .int .i64 x202005_2]) ?_ 3 _ rfl; (with_reducible repeat first | apply bN | apply bD | apply bA); refine blk_put (cs := #[.int .i64 a1_0, .int .i64 x201001_5, .slice none 0 0, .int .i64 x202003_2, .int .i64 x202004_2, .int .i64 x202005_2]) ?_ 2 _ rfl; (with_reducible repeat first | apply bN | apply bD | apply bA); refine blk_put (cs := #[.int .i64 a1_0, .int .i64 x202001_2, .slice none 0 0, .int .i64 x202003_2, .int .i64 x202004_2, .int .i64 x202005_2]) ?_ 1 _ rfl; (with_reducible repeat first | apply bN | apply bD | apply bA); refine blk_put (cs := #[.int .i64 x202000_2, .int .i64 x202001_2, .slice none 0 0, .int .i64 x202003_2, .int .i64 x202004_2, .int .i64 x202005_2]) ?_ 0 _ rfl; (with_reducible repeat first | apply bN | apply bD | apply bA); refine blk_far ?_ NB201_200.out _; (with_reducible repeat first | apply bN | apply bD | apply bA); refine blk_far ?_ NB201_209.out _; (with_reducible repeat first | apply bN | apply bD | apply bA); refine blk_far ?_ NB201_209.out _; (with_reducible repeat first | apply bN | apply bD | apply bA); exact BK201.out) Try.underlying44 rfl (by kernel_rfl)) rfl ?_
          exact ⟨_, lE, by (with_reducible repeat (first | apply Kd.R_alloc | apply Kd.R_drewN | apply Kd.R_drew)); exact Kd.R_mono (Kd.R_far (p := ⟨gb201, 5, none⟩) (Kd.R_far (p := ⟨gb201, 4, none⟩) (Kd.R_far (p := ⟨gb201, 3, none⟩) (Kd.R_far (p := ⟨gb201, 2, none⟩) (Kd.R_far (p := ⟨gb201, 1, none⟩) (Kd.R_far (p := ⟨gb201, 0, none⟩) (Kd.R_far (p := ⟨gb200, 4, none⟩) (Kd.R_far (p := ⟨gb209, 1, none⟩) (Kd.R_far (p := ⟨gb209, 0, none⟩) (Kd.R_types (Kd.R_types (Kd.R_mono HO_201002.out (fun k_ hk => (⟨hk, hk.2⟩ : _ ∧ k_ ≠ gb209))) BK200.out (by decide)) BK201.out (by decide)) (fun _ hk => hk.1.1.2) (.int .i64 ((rd_T97 x201002_5 x29_2).f0))) (fun _ hk => hk.1.1.2) (.int .i64 ((rd_T97 x201002_5 x29_2).f1))) (fun _ hk => hk.1.2) (.int .i64 (wrap64 (x201004_2 + 1)))) (fun _ hk => hk.2) (.int .i64 a1_0)) (fun _ hk => hk.2) (.int .i64 x201001_5)) (fun _ hk => hk.2) (.slice (some ad208) x201002_5.length co29)) (fun _ hk => hk.2) (.int .i64 x201003_5)) (fun _ hk => hk.2) (.int .i64 (wrap64 (x201004_2 + 1)))) (fun _ hk => hk.2) (.int .i64 a1_5)) (fun _ hk => trivial), lB⟩
         ·rw [if_neg c33] at H
          have c33b0 : (((rd_T97 x201002_5 x29_2).f0) == a2) = false := beq_eq_false_iff_ne.mpr c33
          have c33b1 : (((rd_T97 x201002_5 x29_2).f0) != a2) = true := bne_iff_ne.mpr c33
          have H' := Aside0.mk H
          clear H
          have p208 : 0 ≤ (x29_2 : Int) := lD
          have q208 : x29_2 < (x201002_5.length : Int) := lD
          obtain ⟨ad208, e208, hx208_0, hx208_1⟩ := at_T97 (Kd.R_reads' HO_27.out).2.2 x29_2 p208 q208
          cases e208
          replace p208 := eq_true p208
          replace q208 := eq_true q208
          go_wp2_with (first | ((with_reducible refine gate_dst (N := 10) rfl ?_); refine bxe 10 #[.int .i64 0, .int .i64 0] 97 ?_; intro gb209 hg w44 hbox hb; have n0_ := Aside0.mk (Kd.R_below (Kd.R_elderB (lR HO_27.out) gb209 (Nat.le_of_eq hg.symm)) hb); have n1_ := Aside0.mk (Kd.R_below (Kd.R_elderB (lR HO_201002.out) gb209 (Nat.le_of_eq hg.symm)) hb); have n2_ := Aside0.mk (blk_below (lK BK199.out) hb); have n3_ := Aside0.mk (blk_below (lK BK200.out) hb); have n4_ := Aside0.mk (blk_below (lK BK201.out) hb); have n5_ := Aside0.mk (below_step lB hb); have n6_ := Aside0.mk (hbox); have n7_ := lG w hg; have n8_ := lG w hg; have n9_ := Aside0.mk ((by rw [hg]; exact Nat.ne_of_lt (blk_lt (lK BK199.out)) : gb199 ≠ gb209)); have n10_ := Aside0.mk ((by rw [hg]; exact Nat.ne_of_gt (blk_lt (lK BK199.out)) : gb209 ≠ gb199)); have n11_ := Aside0.mk ((by rw [hg]; exact Nat.ne_of_lt (blk_lt (lK BK200.out)) : gb200 ≠ gb209)); have n12_ := Aside0.mk ((by rw [hg]; exact Nat.ne_of_gt (blk_lt (lK BK200.out)) : gb209 ≠ gb200)); have n13_ := Aside0.mk ((by rw [hg]; exact Nat.ne_of_lt (blk_lt (lK BK201.out)) : gb201 ≠ gb209)); have n14_ := Aside0.mk ((by rw [hg]; exact Nat.ne_of_gt (blk_lt (lK BK201.out)) : gb209 ≠ gb201)); clear HO_27; clear HO_201002; clear BK199; clear BK200; clear BK201; clear HB; have HO_27 := n0_; have HO_201002 := n1_; have BK199 := n2_; have BK200 := n3_; have BK201 := n4_; have HB := n5_; have BK209 := n6_; have GW209 := n7_; have GE209 := n8_; have NB199_209 := n9_; have NB209_199 := n10_; have NB200_209 := n11_; have NB209_200 := n12_; have NB201_209 := n13_; have NB209_201 := n14_; clear n0_ n1_ n2_ n3_ n4_ n5_ n6_ n7_ n8_ n9_ n10_ n11_ n12_ n13_ n14_; clear hb hbox hg; have hnb45 := NB209_199.out; have hnc45 := NB199_209.out; have hnb46 := NB209_200.out; have hnc46 := NB200_209.out; have hnb47 := NB209_201.out; have hnc47 := NB201_209.out; obtain ⟨hcz48_0, hfz48_0, hcz48_1, hfz48_1⟩ := bk2 BK209.out))
          go_roundg k2
          case measure => have := HJ5.out; have := HK2.out; omega
          case rel => exact ⟨(wrap64 (x29_2 + 1)), (x201004_2), (x202000_2), (x202001_2), (x202003_2), (x202004_2), (x202005_2), lF, H', ⟨by have := HJ5.out; have := HK2.out; omega⟩, ⟨by (with_reducible repeat (first | apply Kd.R_alloc | apply Kd.R_drewN | apply Kd.R_drew)); exact Kd.R_mono (Kd.R_far (p := ⟨gb209, 1, none⟩) (Kd.R_far (p := ⟨gb209, 0, none⟩) (Kd.R_mono HO_27.out (fun k_ hk => (⟨hk, hk.2⟩ : _ ∧ k_ ≠ gb209))) (fun _ hk => hk.2) (.int .i64 ((rd_T97 x201002_5 x29_2).f0))) (fun _ hk => hk.2) (.int .i64 ((rd_T97 x201002_5 x29_2).f1))) (fun _ hk => trivial)⟩, ⟨by (with_reducible repeat (first | apply Kd.R_alloc | apply Kd.R_drewN | apply Kd.R_drew)); exact Kd.R_mono (Kd.R_far (p := ⟨gb209, 1, none⟩) (Kd.R_far (p := ⟨gb209, 0, none⟩) (Kd.R_mono HO_201002.out (fun k_ hk => (⟨hk, hk.2⟩ : _ ∧ k_ ≠ gb209))) (fun _ hk => hk.2) (.int .i64 ((rd_T97 x201002_5 x29_2).f0))) (fun _ hk => hk.2) (.int .i64 ((rd_T97 x201002_5 x29_2).f1))) (fun _ hk => trivial)⟩, ⟨lJ BK199.out⟩, ⟨lJ BK200.out⟩, ⟨lJ BK201.out⟩, ⟨lB⟩⟩
        ·rw [if_neg c32] at H
         exact absurd H (by simp)
       ·rw [if_neg c31] at H
        exact absurd H (by simp)
      ·rw [if_neg c30] at H
       have c30b0 : decide (x29_2 < (x201002_5.length : Int)) = false := decide_eq_false c30
       clear c30
       by_cases c49 : x201001_5 = 3
       ·rw [if_pos c49] at H
        have c49b0 : (x201001_5 == 3) = true := beq_iff_eq.mpr c49
        have c49b1 : (x201001_5 != 3) = false := bne_eq_false_iff_eq.mpr c49
        clear c49
        simp only [Option.some.injEq, Prod.mk.injEq] at H
        obtain ⟨rfl, rfl, rfl, rfl, rfl, rfl⟩ := H
        have hnb50 := NB200_199.out
        have hnc50 := NB199_200.out
        have hnb51 := NB200_201.out
        have hnc51 := NB201_200.out
        obtain ⟨hcz52_0, hfz52_0, hcz52_1, hfz52_1, hcz52_2, hfz52_2, hcz52_3, hfz52_3, hcz52_4, hfz52_4, hcz52_5, hfz52_5⟩ := bk6 BK200.out
        have hnb53 := NB201_199.out
        have hnc53 := NB199_201.out
        obtain ⟨hcz54_0, hfz54_0, hcz54_1, hfz54_1, hcz54_2, hfz54_2, hcz54_3, hfz54_3, hcz54_4, hfz54_4, hcz54_5, hfz54_5⟩ := bk6 BK201.out
        go_wp2
        refine bodyPost_ret (results_cell_row rfl _ _ gb201 44 #[.int .i64 a1_0, .int .i64 x201001_5, .slice Ao29 x201002_5.length co29, .int .i64 x201003_5, .int .i64 x201004_2, .int .i64 (wrap64 (a1_5 + 1))] (0, 0) _ rfl (by (with_reducible repeat first | apply bN | apply bD | apply bA); refine blk_put (cs := #[.int .i64 a1_0, .int .i64 x201001_5, .slice Ao29 x201002_5.length co29, .int .i64 x201003_5, .int .i64 x201004_2, .int .i64 x202005_2]) ?_ 5 _ rfl; (with_reducible repeat first | apply bN | apply bD | apply bA); refine blk_put (cs := #[.int .i64 a1_0, .int .i64 x201001_5, .slice Ao29 x201002_5.length co29, .int .i64 x201003_5, .int .i64 x202004_2, .int .i64 x202005_2]) ?_ 4 _ rfl; (with_reducible repeat first | apply bN | apply bD | apply bA); refine blk_put (cs := #[.int .i64 a1_0, .int .i64 x201001_5, .slice Ao29 x201002_5.length co29, .int .i64 x202003_2, .int .i64 x202004_2, .int .i64 x202005_2]) ?_ 3 _ rfl; (with_reducible repeat first | apply bN | apply bD | apply bA); refine blk_put (cs := #[.int .i64 a1_0, .int .i64 x201001_5, .slice none 0 0, .int .i64 x202003_2, .int .i64 x202004_2, .int .i64 x202005_2]) ?_ 2 _ rfl; (with_reducible repeat first | apply bN | apply bD | apply bA); refine blk_put (cs := #[.int .i64 a1_0, .int .i64 x202001_2, .slice none 0 0, .int .i64 x202003_2, .int .i64 x202004_2, .int .i64 x202005_2]) ?_ 1 _ rfl; (with_reducible repeat first | apply bN | apply bD | apply bA); refine blk_put (cs := #[.int .i64 x202000_2, .int .i64 x202001_2, .slice none 0 0, .int .i64 x202003_2, .int .i64 x202004_2, .int .i64 x202005_2]) ?_ 0 _ rfl; (with_reducible repeat first | apply bN | apply bD | apply bA); refine blk_far ?_ NB201_200.out _; (with_reducible repeat first | apply bN | apply bD | apply bA); exact BK201.out) Try.underlying44 rfl (by kernel_rfl)) rfl ?_
        exact ⟨_, lE, by (with_reducible repeat (first | apply Kd.R_alloc | apply Kd.R_drewN | apply Kd.R_drew)); exact Kd.R_mono (Kd.R_far (p := ⟨gb201, 5, none⟩) (Kd.R_far (p := ⟨gb201, 4, none⟩) (Kd.R_far (p := ⟨gb201, 3, none⟩) (Kd.R_far (p := ⟨gb201, 2, none⟩) (Kd.R_far (p := ⟨gb201, 1, none⟩) (Kd.R_far (p := ⟨gb201, 0, none⟩) (Kd.R_far (p := ⟨gb200, 5, none⟩) (Kd.R_types (Kd.R_types HO_201002.out BK200.out (by decide)) BK201.out (by decide)) (fun _ hk => hk.1.2) (.int .i64 (wrap64 (a1_5 + 1)))) (fun _ hk => hk.2) (.int .i64 a1_0)) (fun _ hk => hk.2) (.int .i64 x201001_5)) (fun _ hk => hk.2) (.slice Ao29 x201002_5.length co29)) (fun _ hk => hk.2) (.int .i64 x201003_5)) (fun _ hk => hk.2) (.int .i64 x201004_2)) (fun _ hk => hk.2) (.int .i64 (wrap64 (a1_5 + 1)))) (fun _ hk => trivial), lB⟩
       ·rw [if_neg c49] at H
        have c49b0 : (x201001_5 == 3) = false := beq_eq_false_iff_ne.mpr c49
        have c49b1 : (x201001_5 != 3) = true := bne_iff_ne.mpr c49
        by_cases c55 : (x201002_5.length : Int) = 4
        ·rw [if_pos c55] at H
         have c55b0 : ((x201002_5.length : Int) == 4) = true := beq_iff_eq.mpr c55
         have c55b1 : ((x201002_5.length : Int) != 4) = false := bne_eq_false_iff_eq.mpr c55
         clear c55
         simp only [Option.some.injEq, Prod.mk.injEq] at H
         obtain ⟨rfl, rfl, rfl, rfl, rfl, rfl⟩ := H
         have hnb56 := NB200_199.out
         have hnc56 := NB199_200.out
         have hnb57 := NB200_201.out
         have hnc57 := NB201_200.out
         obtain ⟨hcz58_0, hfz58_0, hcz58_1, hfz58_1, hcz58_2, hfz58_2, hcz58_3, hfz58_3, hcz58_4, hfz58_4, hcz58_5, hfz58_5⟩ := bk6 BK200.out
         have hnb59 := NB201_199.out
         have hnc59 := NB199_201.out
         obtain ⟨hcz60_0, hfz60_0, hcz60_1, hfz60_1, hcz60_2, hfz60_2, hcz60_3, hfz60_3, hcz60_4, hfz60_4, hcz60_5, hfz60_5⟩ := bk6 BK201.out
         go_wp2
         refine bodyPost_ret (results_cell_row rfl _ _ gb201 44 #[.int .i64 a1_0, .int .i64 3, .slice none 0 0, .int .i64 x201003_5, .int .i64 x201004_2, .int .i64 (wrap64 (a1_5 + 1))] (0, 0) _ rfl (by (with_reducible repeat first | apply bN | apply bD | apply bA); refine blk_put (cs := #[.int .i64 a1_0, .int .i64 3, .slice none 0 0, .int .i64 x201003_5, .int .i64 x201004_2, .int .i64 x202005_2]) ?_ 5 _ rfl; (with_reducible repeat first | apply bN | apply bD | apply bA); refine blk_put (cs := #[.int .i64 a1_0, .int .i64 3, .slice none 0 0, .int .i64 x201003_5, .int .i64 x202004_2, .int .i64 x202005_2]) ?_ 4 _ rfl; (with_reducible repeat first | apply bN | apply bD | apply bA); refine blk_put (cs := #[.int .i64 a1_0, .int .i64 3, .slice none 0 0, .int .i64 x202003_2, .int .i64 x202004_2, .int .i64 x202005_2]) ?_ 3 _ rfl; (with_reducible repeat first | apply bN | apply bD | apply bA); refine blk_put (cs := #[.int .i64 a1_0, .int .i64 3, .slice none 0 0, .int .i64 x202003_2, .int .i64 x202004_2, .int .i64 x202005_2]) ?_ 2 _ rfl; (with_reducible repeat first | apply bN | apply bD | apply bA); refine blk_put (cs := #[.int .i64 a1_0, .int .i64 x202001_2, .slice none 0 0, .int .i64 x202003_2, .int .i64 x202004_2, .int .i64 x202005_2]) ?_ 1 _ rfl; (with_reducible repeat first | apply bN | apply bD | apply bA); refine blk_put (cs := #[.int .i64 x202000_2, .int .i64 x202001_2, .slice none 0 0, .int .i64 x202003_2, .int .i64 x202004_2, .int .i64 x202005_2]) ?_ 0 _ rfl; (with_reducible repeat first | apply bN | apply bD | apply bA); refine blk_far ?_ NB201_200.out _; (with_reducible repeat first | apply bN | apply bD | apply bA); refine blk_far ?_ NB201_200.out _; (with_reducible repeat first | apply bN | apply bD | apply bA); refine blk_far ?_ NB201_200.out _; (with_reducible repeat first | apply bN | apply bD | apply bA); exact BK201.out) Try.underlying44 rfl (by kernel_rfl)) rfl ?_
         exact ⟨_, lE, by first | exact Kd.R_nil _ _ _ _ _ | exact Kd.N_nil _ _ _ _ _ | exact Kd.V_nil _ _ _ _ _ | exact Kd.Q_nil _ _ _ _ _ | exact Kd.S_nil _ _ _ _ _, lB⟩
        ·rw [if_neg c55] at H
         have c55b0 : ((x201002_5.length : Int) == 4) = false := beq_eq_false_iff_ne.mpr c55
         have c55b1 : ((x201002_5.length : Int) != 4) = true := bne_iff_ne.mpr c55
         by_cases c61 : x201002_5.length < 8796093022208
         ·rw [if_pos c61] at H
          have LMc61 := Aside0.mk c61
          clear c61
          obtain ⟨y210, hy210⟩ : ∃ y_ : List (S97), y_ = (x201002_5 ++ [(⟨a2, a3⟩ : S97)]) := ⟨_, rfl⟩
          replace H : (if (y210.length : Int) = 1 then (some (a1_0, 1, y210, x201003_5, x201004_2, wrap64 (a1_5 + 1))) else (some (a1_0, 2, y210, x201003_5, x201004_2, wrap64 (a1_5 + 1)))) = some (r1, r2, r3, r4, r5, r6) := by first | (rw [hy210]; with_reducible exact H) | (have H2_ := (Option.bind_some _ _).symm.trans H; rw [hy210]; with_reducible exact H2_) | (have H2_ := (Option.bind_some _ _).symm.trans H; with_reducible exact H2_) | with_reducible exact H | (rw [hy210]; exact H) | exact H
          have Ny210 := Aside0.mk hy210
          clear hy210
          by_cases c62 : (y210.length : Int) = 1
          ·rw [if_pos c62] at H
           have c62b0 : ((y210.length : Int) == 1) = true := beq_iff_eq.mpr c62
           have c62b1 : ((y210.length : Int) != 1) = false := bne_eq_false_iff_eq.mpr c62
           clear c62
           simp only [Option.some.injEq, Prod.mk.injEq] at H
           obtain ⟨rfl, rfl, rfl, rfl, rfl, rfl⟩ := H
           have hnb63 := NB200_199.out
           have hnc63 := NB199_200.out
           have hnb64 := NB200_201.out
           have hnc64 := NB201_200.out
           obtain ⟨hcz65_0, hfz65_0, hcz65_1, hfz65_1, hcz65_2, hfz65_2, hcz65_3, hfz65_3, hcz65_4, hfz65_4, hcz65_5, hfz65_5⟩ := bk6 BK200.out
           go_wp2_with (first | ((with_reducible refine gate_builtin (b := .append) (xs := #[.tmp 48, .tmp 52]) rfl ?_); at_builtin; refine Kd.R_append k97 (w0 := w) w.heap.size rfl (.tmp 48) (.tmp 52) 42 97 (.agg #[(.int .i64 0), (.int .i64 0)]) 16 rfl Try.underlying42 info97 rfl (by decide) (by omega) (.slice Ao29 x201002_5.length co29) x201002_5 (⟨a2, a3⟩ : S97) [.int .i64 a2, .int .i64 a3] (fun _ => True) (fun _ => False) rfl (by first | (go_simp; done) | (go_simp; rfl)) ?aP (fun _ hk => hk.elim) ?aF ?aO ?aB ?aS ?aL ?_; (case aP => exact k97_mkM _ _ _ (⟨a2, a3⟩ : S97)); (case aB => exact lB); (case aF => exact (fun _ _ => trivial)); (case aO => exact (by (with_reducible repeat (first | apply Kd.R_alloc | apply Kd.R_drewN | apply Kd.R_drew)); exact Kd.R_mono (Kd.R_far (p := ⟨gb200, 5, none⟩) (Kd.R_types HO_201002.out BK200.out (by decide)) (fun _ hk => hk.2) (.int .i64 (wrap64 (a1_5 + 1)))) (fun _ hk => trivial))); (case aS => exact (below_size lB)); (case aL => have := LMc61.out; omega); intro v211 w66 ho hb hg hat; rw [← Ny210.out] at ho; have n0_ := Aside0.mk (blk_grown (lJ BK199.out) hg (Kd.R_ne HO_201002.out BK199.out (by decide))); have n1_ := Aside0.mk (blk_grown (g := gb200) (o := .cells #[.int .i64 a1_0, .int .i64 x201001_5, .slice Ao29 x201002_5.length co29, .int .i64 x201003_5, .int .i64 x201004_2, .int .i64 (wrap64 (a1_5 + 1))] 44 (0, 0)) (by (with_reducible repeat first | apply bN | apply bD | apply bA); refine blk_put (cs := #[.int .i64 a1_0, .int .i64 x201001_5, .slice Ao29 x201002_5.length co29, .int .i64 x201003_5, .int .i64 x201004_2, .int .i64 a1_5]) ?_ 5 _ rfl; (with_reducible repeat first | apply bN | apply bD | apply bA); exact BK200.out) hg (Kd.R_ne HO_201002.out BK200.out (by decide))); have n2_ := Aside0.mk (blk_grown (lJ BK201.out) hg (Kd.R_ne HO_201002.out BK201.out (by decide))); have n3_ := Aside0.mk (hb); have n4_ := Aside0.mk (ho); clear BK199; clear BK200; clear BK201; clear HB; clear HO_201002; have BK199 := n0_; have BK200 := n1_; have BK201 := n2_; have HB := n3_; have HO212 := n4_; clear n0_ n1_ n2_ n3_ n4_; clear ho hb hg hat; obtain ⟨Ao67, co67, eo67⟩ := Kd.R_slice HO212.out; subst eo67; have hdd_ := tw_ BK200.out 2 1 (.slice Ao67 y210.length co67) (.int .i64 2); obtain ⟨hcz68_0, hfz68_0, hcz68_1, hfz68_1, hcz68_2, hfz68_2, hcz68_3, hfz68_3, hcz68_4, hfz68_4, hcz68_5, hfz68_5⟩ := bk6 BK200.out; have hnb69 := NB201_199.out; have hnc69 := NB199_201.out; obtain ⟨hcz70_0, hfz70_0, hcz70_1, hfz70_1, hcz70_2, hfz70_2, hcz70_3, hfz70_3, hcz70_4, hfz70_4, hcz70_5, hfz70_5⟩ := bk6 BK201.out))
           refine bodyPost_ret (results_cell_row rfl _ _ gb201 44 #[.int .i64 a1_0, .int .i64 1, .slice Ao67 y210.length co67, .int .i64 x201003_5, .int .i64 x201004_2, .int .i64 (wrap64 (a1_5 + 1))] (0, 0) _ rfl (by (with_reducible repeat first | apply bN | apply bD | apply bA); refine blk_put (cs := #[.int .i64 a1_0, .int .i64 1, .slice Ao67 y210.length co67, .int .i64 x201003_5, .int .i64 x201004_2, .int .i64 x202005_2]) ?_ 5 _ rfl; (with_reducible repeat first | apply bN | apply bD | apply bA); refine blk_put (cs := #[.int .i64 a1_0, .int .i64 1, .slice Ao67 y210.length co67, .int .i64 x201003_5, .int .i64 x202004_2, .int .i64 x202005_2]) ?_ 4 _ rfl; (with_reducible repeat first | apply bN | apply bD | apply bA); refine blk_put (cs := #[.int .i64 a1_0, .int .i64 1, .slice Ao67 y210.length co67, .int .i64 x202003_2, .int .i64 x202004_2, .int .i64 x202005_2]) ?_ 3 _ rfl; (with_reducible repeat first | apply bN | apply bD | apply bA); refine blk_put (cs := #[.int .i64 a1_0, .int .i64 1, .slice none 0 0, .int .i64 x202003_2, .int .i64 x202004_2, .int .i64 x202005_2]) ?_ 2 _ rfl; (with_reducible repeat first | apply bN | apply bD | apply bA); refine blk_put (cs := #[.int .i64 a1_0, .int .i64 x202001_2, .slice none 0 0, .int .i64 x202003_2, .int .i64 x202004_2, .int .i64 x202005_2]) ?_ 1 _ rfl; (with_reducible repeat first | apply bN | apply bD | apply bA); refine blk_put (cs := #[.int .i64 x202000_2, .int .i64 x202001_2, .slice none 0 0, .int .i64 x202003_2, .int .i64 x202004_2, .int .i64 x202005_2]) ?_ 0 _ rfl; (with_reducible repeat first | apply bN | apply bD | apply bA); refine blk_far ?_ NB201_200.out _; (with_reducible repeat first | apply bN | apply bD | apply bA); refine blk_far ?_ NB201_200.out _; (with_reducible repeat first | apply bN | apply bD | apply bA); refine blk_far ?_ NB201_200.out _; (with_reducible repeat first | apply bN | apply bD | apply bA); exact BK201.out) Try.underlying44 rfl (by kernel_rfl)) rfl ?_
           exact ⟨_, lE, by (with_reducible repeat (first | apply Kd.R_alloc | apply Kd.R_drewN | apply Kd.R_drew)); exact Kd.R_mono (Kd.R_far (p := ⟨gb201, 5, none⟩) (Kd.R_far (p := ⟨gb201, 4, none⟩) (Kd.R_far (p := ⟨gb201, 3, none⟩) (Kd.R_far (p := ⟨gb201, 2, none⟩) (Kd.R_far (p := ⟨gb201, 1, none⟩) (Kd.R_far (p := ⟨gb201, 0, none⟩) (Kd.R_far (p := ⟨gb200, 1, none⟩) (Kd.R_far (p := ⟨gb200, 1, none⟩) (Kd.R_far (p := ⟨gb200, 2, none⟩) (Kd.R_types (Kd.R_types HO212.out BK200.out (by decide)) BK201.out (by decide)) (fun _ hk => hk.1.2) (.slice Ao67 y210.length co67)) (fun _ hk => hk.1.2) (.int .i64 2)) (fun _ hk => hk.1.2) (.int .i64 1)) (fun _ hk => hk.2) (.int .i64 a1_0)) (fun _ hk => hk.2) (.int .i64 1)) (fun _ hk => hk.2) (.slice Ao67 y210.length co67)) (fun _ hk => hk.2) (.int .i64 x201003_5)) (fun _ hk => hk.2) (.int .i64 x201004_2)) (fun _ hk => hk.2) (.int .i64 (wrap64 (a1_5 + 1)))) (fun _ hk => trivial), lB⟩
          ·rw [if_neg c62] at H
           have c62b0 : ((y210.length : Int) == 1) = false := beq_eq_false_iff_ne.mpr c62
           have c62b1 : ((y210.length : Int) != 1) = true := bne_iff_ne.mpr c62
           simp only [Option.some.injEq, Prod.mk.injEq] at H
           obtain ⟨rfl, rfl, rfl, rfl, rfl, rfl⟩ := H
           have hnb71 := NB200_199.out
           have hnc71 := NB199_200.out
           have hnb72 := NB200_201.out
           have hnc72 := NB201_200.out
           obtain ⟨hcz73_0, hfz73_0, hcz73_1, hfz73_1, hcz73_2, hfz73_2, hcz73_3, hfz73_3, hcz73_4, hfz73_4, hcz73_5, hfz73_5⟩ := bk6 BK200.out
           go_wp2_with (first | ((with_reducible refine gate_builtin (b := .append) (xs := #[.tmp 48, .tmp 52]) rfl ?_); at_builtin; refine Kd.R_append k97 (w0 := w) w.heap.size rfl (.tmp 48) (.tmp 52) 42 97 (.agg #[(.int .i64 0), (.int .i64 0)]) 16 rfl Try.underlying42 info97 rfl (by decide) (by omega) (.slice Ao29 x201002_5.length co29) x201002_5 (⟨a2, a3⟩ : S97) [.int .i64 a2, .int .i64 a3] (fun _ => True) (fun _ => False) rfl (by first | (go_simp; done) | (go_simp; rfl)) ?aP (fun _ hk => hk.elim) ?aF ?aO ?aB ?aS ?aL ?_; (case aP => exact k97_mkM _ _ _ (⟨a2, a3⟩ : S97)); (case aB => exact lB); (case aF => exact (fun _ _ => trivial)); (case aO => exact (by (with_reducible repeat (first | apply Kd.R_alloc | apply Kd.R_drewN | apply Kd.R_drew)); exact Kd.R_mono (Kd.R_far (p := ⟨gb200, 5, none⟩) (Kd.R_types HO_201002.out BK200.out (by decide)) (fun _ hk => hk.2) (.int .i64 (wrap64 (a1_5 + 1)))) (fun _ hk => trivial))); (case aS => exact (below_size lB)); (case aL => have := LMc61.out; omega); intro v211 w74 ho hb hg hat; rw [← Ny210.out] at ho; have n0_ := Aside0.mk (blk_grown (lJ BK199.out) hg (Kd.R_ne HO_201002.out BK199.out (by decide))); have n1_ := Aside0.mk (blk_grown (g := gb200) (o := .cells #[.int .i64 a1_0, .int .i64 x201001_5, .slice Ao29 x201002_5.length co29, .int .i64 x201003_5, .int .i64 x201004_2, .int .i64 (wrap64 (a1_5 + 1))] 44 (0, 0)) (by (with_reducible repeat first | apply bN | apply bD | apply bA); refine blk_put (cs := #[.int .i64 a1_0, .int .i64 x201001_5, .slice Ao29 x201002_5.length co29, .int .i64 x201003_5, .int .i64 x201004_2, .int .i64 a1_5]) ?_ 5 _ rfl; (with_reducible repeat first | apply bN | apply bD | apply bA); exact BK200.out) hg (Kd.R_ne HO_201002.out BK200.out (by decide))); have n2_ := Aside0.mk (blk_grown (lJ BK201.out) hg (Kd.R_ne HO_201002.out BK201.out (by decide))); have n3_ := Aside0.mk (hb); have n4_ := Aside0.mk (ho); clear BK199; clear BK200; clear BK201; clear HB; clear HO_201002; have BK199 := n0_; have BK200 := n1_; have BK201 := n2_; have HB := n3_; have HO212 := n4_; clear n0_ n1_ n2_ n3_ n4_; clear ho hb hg hat; obtain ⟨Ao75, co75, eo75⟩ := Kd.R_slice HO212.out; subst eo75; obtain ⟨hcz76_0, hfz76_0, hcz76_1, hfz76_1, hcz76_2, hfz76_2, hcz76_3, hfz76_3, hcz76_4, hfz76_4, hcz76_5, hfz76_5⟩ := bk6 BK200.out; have hnb77 := NB201_199.out; have hnc77 := NB199_201.out; obtain ⟨hcz78_0, hfz78_0, hcz78_1, hfz78_1, hcz78_2, hfz78_2, hcz78_3, hfz78_3, hcz78_4, hfz78_4, hcz78_5, hfz78_5⟩ := bk6 BK201.out))
           refine bodyPost_ret (results_cell_row rfl _ _ gb201 44 #[.int .i64 a1_0, .int .i64 2, .slice Ao75 y210.length co75, .int .i64 x201003_5, .int .i64 x201004_2, .int .i64 (wrap64 (a1_5 + 1))] (0, 0) _ rfl (by (with_reducible repeat first | apply bN | apply bD | apply bA); refine blk_put (cs := #[.int .i64 a1_0, .int .i64 2, .slice Ao75 y210.length co75, .int .i64 x201003_5, .int .i64 x201004_2, .int .i64 x202005_2]) ?_ 5 _ rfl; (with_reducible repeat first | apply bN | apply bD | apply bA); refine blk_put (cs := #[.int .i64 a1_0, .int .i64 2, .slice Ao75 y210.length co75, .int .i64 x201003_5, .int .i64 x202004_2, .int .i64 x202005_2]) ?_ 4 _ rfl; (with_reducible repeat first | apply bN | apply bD | apply bA); refine blk_put (cs := #[.int .i64 a1_0, .int .i64 2, .slice Ao75 y210.length co75, .int .i64 x202003_2, .int .i64 x202004_2, .int .i64 x202005_2]) ?_ 3 _ rfl; (with_reducible repeat first | apply bN | apply bD | apply bA); refine blk_put (cs := #[.int .i64 a1_0, .int .i64 2, .slice none 0 0, .int .i64 x202003_2, .int .i64 x202004_2, .int .i64 x202005_2]) ?_ 2 _ rfl; (with_reducible repeat first | apply bN | apply bD | apply bA); refine blk_put (cs := #[.int .i64 a1_0, .int .i64 x202001_2, .slice none 0 0, .int .i64 x202003_2, .int .i64 x202004_2, .int .i64 x202005_2]) ?_ 1 _ rfl; (with_reducible repeat first | apply bN | apply bD | apply bA); refine blk_put (cs := #[.int .i64 x202000_2, .int .i64 x202001_2, .slice none 0 0, .int .i64 x202003_2, .int .i64 x202004_2, .int .i64 x202005_2]) ?_ 0 _ rfl; (with_reducible repeat first | apply bN | apply bD | apply bA); refine blk_far ?_ NB201_200.out _; (with_reducible repeat first | apply bN | apply bD | apply bA); refine blk_far ?_ NB201_200.out _; (with_reducible repeat first | apply bN | apply bD | apply bA); exact BK201.out) Try.underlying44 rfl (by kernel_rfl)) rfl ?_
           exact ⟨_, lE, by (with_reducible repeat (first | apply Kd.R_alloc | apply Kd.R_drewN | apply Kd.R_drew)); exact Kd.R_mono (Kd.R_far (p := ⟨gb201, 5, none⟩) (Kd.R_far (p := ⟨gb201, 4, none⟩) (Kd.R_far (p := ⟨gb201, 3, none⟩) (Kd.R_far (p := ⟨gb201, 2, none⟩) (Kd.R_far (p := ⟨gb201, 1, none⟩) (Kd.R_far (p := ⟨gb201, 0, none⟩) (Kd.R_far (p := ⟨gb200, 1, none⟩) (Kd.R_far (p := ⟨gb200, 2, none⟩) (Kd.R_types (Kd.R_types HO212.out BK200.out (by decide)) BK201.out (by decide)) (fun _ hk => hk.1.2) (.slice Ao75 y210.length co75)) (fun _ hk => hk.1.2) (.int .i64 2)) (fun _ hk => hk.2) (.int .i64 a1_0)) (fun _ hk => hk.2) (.int .i64 2)) (fun _ hk => hk.2) (.slice Ao75 y210.length co75)) (fun _ hk => hk.2) (.int .i64 x201003_5)) (fun _ hk => hk.2) (.int .i64 x201004_2)) (fun _ hk => hk.2) (.int .i64 (wrap64 (a1_5 + 1)))) (fun _ hk => trivial), lB⟩
         ·rw [if_neg c61] at H
          exact absurd H (by simp)
 ·rw [if_neg c5] at H
  exact absurd H (by simp)

/-! ### spec_CallBy: function 41 -/
def spec_CallBy.j0 : Nat → Int → Bool → List (S82) → Int → Int → Int → List (S97) → Int → Int → Int → Option (Int × Int × (List (S97)) × Int × Int × Int × Int × Bool)
 | 0, _, _, _, _, _, _, _, _, _, _ => none
 | k + 1, x2, x20, x214000, x214001, x215000, x215001, x215002, x215003, x215004, x215005 => if x20 = true then (some (0, 0, ([] : List (S97)), 0, 0, 0, 0, false)) else ((spec_l12Find.f k x214000 x214001 x2 x215000).bind fun t218 => ((spec_l12Call.f k x214000 x214001 x215000 x215001 x215002 x215003 x215004 x215005 x2 t218).bind fun bt219 => (if t218 = 0 then (some (0, 0, ([] : List (S97)), 0, 0, 0, 0, false)) else ((spec_GoodCache.f k x214000 x214001 bt219.1 bt219.2.1 bt219.2.2.1 bt219.2.2.2.1 bt219.2.2.2.2.1 bt219.2.2.2.2.2).bind fun t228 => (if t228 = true then (some (bt219.1, bt219.2.1, bt219.2.2.1, bt219.2.2.2.1, bt219.2.2.2.2.1, bt219.2.2.2.2.2, t218, true)) else (some (0, 0, ([] : List (S97)), 0, 0, 0, 0, false)))))))
def spec_CallBy.f (k : Nat) (l0_0 : List (S82)) (a0_1 : Int) (a1_0 : Int) (a1_1 : Int) (l1_2 : List (S97)) (a1_3 : Int) (a1_4 : Int) (a1_5 : Int) (a2 : Int) : Option (Int × Int × (List (S97)) × Int × Int × Int × Int × Bool) := (spec_GoodCache.f k l0_0 a0_1 a1_0 a1_1 l1_2 a1_3 a1_4 a1_5).bind fun t216 => (if t216 = true then ((spec_l12Class.f l0_0 a0_1 a2).bind fun t217 => (spec_CallBy.j0 k a2 (!t217) l0_0 a0_1 a1_0 a1_1 l1_2 a1_3 a1_4 a1_5)) else (spec_CallBy.j0 k a2 true l0_0 a0_1 a1_0 a1_1 l1_2 a1_3 a1_4 a1_5))
theorem spec_CallBy.mono_l : ∀ k, (∀ y0 y1 y2 y3 y4 y5 y6 y7 y8 y9, LeO (spec_CallBy.j0 k y0 y1 y2 y3 y4 y5 y6 y7 y8 y9) (spec_CallBy.j0 (k + 1) y0 y1 y2 y3 y4 y5 y6 y7 y8 y9))
 | 0 => fun _ _ _ _ _ _ _ _ _ _ r h => by simp [spec_CallBy.j0] at h
 | k + 1 => by
  have ih0 := spec_CallBy.mono_l k
  ·intro y0 y1 y2 y3 y4 y5 y6 y7 y8 y9
   unfold spec_CallBy.j0
   repeat' first
   | with_reducible apply ih0
   | with_reducible apply spec_GoodCache.mono
   | with_reducible apply spec_l12Call.mono
   | with_reducible apply spec_l12Find.mono
   | (with_reducible exact LeO.refl _)
   | (with_reducible exact LeO.none _)
   | (with_reducible refine LeO.ite ?_ ?_)
   | (with_reducible refine LeO.bind ?_ (fun _ => ?_))
   | apply ih0
   | apply spec_GoodCache.mono
   | apply spec_l12Call.mono
   | apply spec_l12Find.mono
   | exact LeO.none _
   | refine LeO.ite ?_ ?_
   | refine LeO.bind ?_ (fun _ => ?_)
theorem spec_CallBy.mono : ∀ a0 a1 a2 a3 a4 a5 a6 a7 a8 k, LeO (spec_CallBy.f k a0 a1 a2 a3 a4 a5 a6 a7 a8) (spec_CallBy.f (k + 1) a0 a1 a2 a3 a4 a5 a6 a7 a8) := by
 intro a0 a1 a2 a3 a4 a5 a6 a7 a8 k
 have ih0 := spec_CallBy.mono_l k
 unfold spec_CallBy.f
 repeat' first
   | with_reducible apply ih0
   | with_reducible apply spec_GoodCache.mono
   | with_reducible apply spec_l12Call.mono
   | with_reducible apply spec_l12Find.mono
   | (with_reducible exact LeO.refl _)
   | (with_reducible exact LeO.none _)
   | (with_reducible refine LeO.ite ?_ ?_)
   | (with_reducible refine LeO.bind ?_ (fun _ => ?_))
   | apply ih0
   | apply spec_GoodCache.mono
   | apply spec_l12Call.mono
   | apply spec_l12Find.mono
   | exact LeO.none _
   | refine LeO.ite ?_ ?_
   | refine LeO.bind ?_ (fun _ => ?_)
set_option maxHeartbeats 8000000 in
set_option maxRecDepth 100000 in
theorem spec_CallBy.calls (k : Nat) (A0_0 : Option Addr) (c0_0 : Nat) (l0_0 : List (S82)) (a0_1 : Int) (a1_0 : Int) (a1_1 : Int) (A1_2 : Option Addr) (c1_2 : Nat) (l1_2 : List (S97)) (a1_3 : Int) (a1_4 : Int) (a1_5 : Int) (a2 : Int) (r1 : Int) (r2 : Int) (r3 : List (S97)) (r4 : Int) (r5 : Int) (r6 : Int) (r7 : Int) (r8 : Bool) (w : World) (hr0_0 : Kd.C k82 w A0_0 l0_0.length l0_0) (hc0_0 : l0_0.length ≤ c0_0) (hr1_2 : Kd.C k97 w A1_2 l1_2.length l1_2) (hc1_2 : l1_2.length ≤ c1_2) (h : spec_CallBy.f k l0_0 a0_1 a1_0 a1_1 l1_2 a1_3 a1_4 a1_5 a2 = some (r1, r2, r3, r4, r5, r6, r7, r8)) :
  Calls Try.prog 41 #[.agg #[.slice A0_0 l0_0.length c0_0, .int .i64 a0_1], .agg #[.int .i64 a1_0, .int .i64 a1_1, .slice A1_2 l1_2.length c1_2, .int .i64 a1_3, .int .i64 a1_4, .int .i64 a1_5], .int .i64 a2] w fun e w' => ∃ v2_ : Value, e = .returned (.tuple #[.agg #[.int .i64 r1, .int .i64 r2, v2_, .int .i64 r4, .int .i64 r5, .int .i64 r6], .int .i64 r7, .bool r8]) ∧ Kd.R k97 97 w' w.heap.size (fun _ => True) v2_ r3 ∧ Below w.heap.size w w' := by
 have hu29 := Try.underlying29
 have hu44 := Try.underlying44
 have HR0_0 := Aside0.mk hr0_0
 have HC0_0 := Aside0.mk hc0_0
 clear hr0_0 hc0_0
 have HR1_2 := Aside0.mk hr1_2
 have HC1_2 := Aside0.mk hc1_2
 clear hr1_2 hc1_2
 have HB := Aside0.mk (Below.refl w.heap.size w)
 have H : ((spec_GoodCache.f k l0_0 a0_1 a1_0 a1_1 l1_2 a1_3 a1_4 a1_5).bind fun t216 => (if t216 = true then ((spec_l12Class.f l0_0 a0_1 a2).bind fun t217 => (spec_CallBy.j0 k a2 (!t217) l0_0 a0_1 a1_0 a1_1 l1_2 a1_3 a1_4 a1_5)) else (spec_CallBy.j0 k a2 true l0_0 a0_1 a1_0 a1_1 l1_2 a1_3 a1_4 a1_5))) = some (r1, r2, r3, r4, r5, r6, r7, r8) := h
 clear h
 have HC4 := Aside0.mk H
 clear H
 go_enter Try.func41, Try.ntmps41
 go_upto_region 1 with (first | ((with_reducible refine gate_dst (N := 3) rfl ?_); refine bxe 3 #[.slice A0_0 l0_0.length c0_0, .int .i64 a0_1] 29 ?_; intro gb213 hg w5 hbox hb; have n0_ := Aside0.mk (below_step lB hb); have n1_ := Aside0.mk (hbox); have n2_ := lG w hg; have n3_ := lG w hg; clear HB; have HB := n0_; have BK213 := n1_; have GW213 := n2_; have GE213 := n3_; clear n0_ n1_ n2_ n3_; clear hb hbox hg) | ((with_reducible refine gate_dst (N := 4) rfl ?_); refine bxe 4 #[.int .i64 a1_0, .int .i64 a1_1, .slice A1_2 l1_2.length c1_2, .int .i64 a1_3, .int .i64 a1_4, .int .i64 a1_5] 44 ?_; intro gb214 hg w6 hbox hb; have n0_ := Aside0.mk (blk_below (lK BK213.out) hb); have n1_ := Aside0.mk (below_step lB hb); have n2_ := Aside0.mk (hbox); have n3_ := lG w hg; have n4_ := lG w hg; have n5_ := Aside0.mk ((by rw [hg]; exact Nat.ne_of_lt (blk_lt (lK BK213.out)) : gb213 ≠ gb214)); have n6_ := Aside0.mk ((by rw [hg]; exact Nat.ne_of_gt (blk_lt (lK BK213.out)) : gb214 ≠ gb213)); clear BK213; clear HB; have BK213 := n0_; have HB := n1_; have BK214 := n2_; have GW214 := n3_; have GE214 := n4_; have NB213_214 := n5_; have NB214_213 := n6_; clear n0_ n1_ n2_ n3_ n4_ n5_ n6_; clear hb hbox hg) | ((with_reducible refine gate_dst (N := 6) rfl ?_); refine bxe 6 #[.int .i64 0, .int .i64 0, .slice none 0 0, .int .i64 0, .int .i64 0, .int .i64 0] 44 ?_; intro gb215 hg w7 hbox hb; have n0_ := Aside0.mk (blk_below (lK BK213.out) hb); have n1_ := Aside0.mk (blk_below (lK BK214.out) hb); have n2_ := Aside0.mk (below_step lB hb); have n3_ := Aside0.mk (hbox); have n4_ := lG w hg; have n5_ := lG w hg; have n6_ := Aside0.mk ((by rw [hg]; exact Nat.ne_of_lt (blk_lt (lK BK213.out)) : gb213 ≠ gb215)); have n7_ := Aside0.mk ((by rw [hg]; exact Nat.ne_of_gt (blk_lt (lK BK213.out)) : gb215 ≠ gb213)); have n8_ := Aside0.mk ((by rw [hg]; exact Nat.ne_of_lt (blk_lt (lK BK214.out)) : gb214 ≠ gb215)); have n9_ := Aside0.mk ((by rw [hg]; exact Nat.ne_of_gt (blk_lt (lK BK214.out)) : gb215 ≠ gb214)); clear BK213; clear BK214; clear HB; have BK213 := n0_; have BK214 := n1_; have HB := n2_; have BK215 := n3_; have GW215 := n4_; have GE215 := n5_; have NB213_215 := n6_; have NB215_213 := n7_; have NB214_215 := n8_; have NB215_214 := n9_; clear n0_ n1_ n2_ n3_ n4_ n5_ n6_ n7_ n8_ n9_; clear hb hbox hg))
 (try simp only [Act.put, List.setIfInBounds_toArray, List.set_cons_zero, List.set_cons_succ])
 go_cut [20] (fun v20 wc => ∃ (kq : Nat) (x20_3 : Bool), v20 = .bool x20_3 ∧ Aside0 (spec_CallBy.j0 kq a2 x20_3 l0_0 a0_1 a1_0 a1_1 l1_2 a1_3 a1_4 a1_5 = some (r1, r2, r3, r4, r5, r6, r7, r8)) ∧ Aside0 (kq ≤ k) ∧ Aside0 (wc.heap[gb213]? = some (.cells #[(.slice A0_0 l0_0.length c0_0), .int .i64 a0_1] 29 (0, 0))) ∧ Aside0 (wc.heap[gb214]? = some (.cells #[.int .i64 a1_0, .int .i64 a1_1, (.slice A1_2 l1_2.length c1_2), .int .i64 a1_3, .int .i64 a1_4, .int .i64 a1_5] 44 (0, 0))) ∧ Aside0 (wc.heap[gb215]? = some (.cells #[.int .i64 0, .int .i64 0, (.slice none 0 0), .int .i64 0, .int .i64 0, .int .i64 0] 44 (0, 0))) ∧ Aside0 (Below w.heap.size w wc))
 case first =>
  have H := HC4.out
  clear HC4
  replace H := lO H
  obtain ⟨t216, A8, H⟩ := H
  by_cases c9 : t216 = true
  ·subst c9
   rw [if_pos rfl] at H
   replace H := lO H
   obtain ⟨t217, A10, H⟩ := H
   have H' := Aside0.mk H
   clear H
   have hnb11 := NB213_214.out
   have hnc11 := NB214_213.out
   have hnb12 := NB213_215.out
   have hnc12 := NB215_213.out
   obtain ⟨hcz13_0, hfz13_0, hcz13_1, hfz13_1⟩ := bk2 BK213.out
   have hnb14 := NB214_215.out
   have hnc14 := NB215_214.out
   obtain ⟨hcz15_0, hfz15_0, hcz15_1, hfz15_1, hcz15_2, hfz15_2, hcz15_3, hfz15_3, hcz15_4, hfz15_4, hcz15_5, hfz15_5⟩ := bk6 BK214.out
   go_wp2_with (first | ((with_reducible refine gate_callee (f := 32) rfl ?_); refine gl_ (some 13) (Try.func32) #[.agg #[.slice A0_0 l0_0.length c0_0, .int .i64 a0_1], .agg #[.int .i64 a1_0, .int .i64 a1_1, .slice A1_2 l1_2.length c1_2, .int .i64 a1_3, .int .i64 a1_4, .int .i64 a1_5]] ?_; (with_reducible refine (spec_GoodCache.calls k _ _ l0_0 a0_1 a1_0 a1_1 _ _ l1_2 a1_3 a1_4 a1_5 true _ ?side1 ?side2 ?side3 ?side4 A8.out).mono ?_); (case side1 => exact lC (Kd.C_below HR0_0.out HB.out)); (case side2 => exact HC0_0.out); (case side3 => exact lC (Kd.C_below HR1_2.out HB.out)); (case side4 => exact HC1_2.out); rintro e w16 ⟨rfl, hb⟩; refine ⟨_, rfl, ?_⟩; have n0_ := Aside0.mk (blk_below (lK BK213.out) hb); have n1_ := Aside0.mk (blk_below (lK BK214.out) hb); have n2_ := Aside0.mk (blk_below (lK BK215.out) hb); have n3_ := Aside0.mk (below_step lB hb); clear BK213; clear BK214; clear BK215; clear HB; have BK213 := n0_; have BK214 := n1_; have BK215 := n2_; have HB := n3_; clear n0_ n1_ n2_ n3_; (try clear hb); (try clear hb2); (try clear hk); (try clear hi); obtain ⟨hcz17_0, hfz17_0, hcz17_1, hfz17_1⟩ := bk2 BK213.out) | (go_at_call 58; (with_reducible refine (spec_l12Class.calls _ _ l0_0 a0_1 a2 t217 _ ?side1 ?side2 A10.out).mono ?_); (case side1 => exact lC (Kd.C_below HR0_0.out HB.out)); (case side2 => exact HC0_0.out); rintro e w18 ⟨rfl, hb⟩; have n0_ := Aside0.mk (blk_below (lK BK213.out) hb); have n1_ := Aside0.mk (blk_below (lK BK214.out) hb); have n2_ := Aside0.mk (blk_below (lK BK215.out) hb); have n3_ := Aside0.mk (below_step lB hb); clear BK213; clear BK214; clear BK215; clear HB; have BK213 := n0_; have BK214 := n1_; have BK215 := n2_; have HB := n3_; clear n0_ n1_ n2_ n3_; (try clear hb); (try clear hb2); (try clear hk); (try clear hi)))
   go_meet
   case rel => exact ⟨_, (!t217), lF, H', ⟨lN⟩, ⟨lK BK213.out⟩, ⟨lK BK214.out⟩, ⟨lK BK215.out⟩, ⟨lB⟩⟩
  ·replace c9 := Bool.eq_false_iff.mpr c9
   subst c9
   rw [if_neg (show ¬ (false = true) by decide)] at H
   have H' := Aside0.mk H
   clear H
   have hnb19 := NB213_214.out
   have hnc19 := NB214_213.out
   have hnb20 := NB213_215.out
   have hnc20 := NB215_213.out
   obtain ⟨hcz21_0, hfz21_0, hcz21_1, hfz21_1⟩ := bk2 BK213.out
   have hnb22 := NB214_215.out
   have hnc22 := NB215_214.out
   obtain ⟨hcz23_0, hfz23_0, hcz23_1, hfz23_1, hcz23_2, hfz23_2, hcz23_3, hfz23_3, hcz23_4, hfz23_4, hcz23_5, hfz23_5⟩ := bk6 BK214.out
   go_wp2_with (first | ((with_reducible refine gate_callee (f := 32) rfl ?_); refine gl_ (some 13) (Try.func32) #[.agg #[.slice A0_0 l0_0.length c0_0, .int .i64 a0_1], .agg #[.int .i64 a1_0, .int .i64 a1_1, .slice A1_2 l1_2.length c1_2, .int .i64 a1_3, .int .i64 a1_4, .int .i64 a1_5]] ?_; (with_reducible refine (spec_GoodCache.calls k _ _ l0_0 a0_1 a1_0 a1_1 _ _ l1_2 a1_3 a1_4 a1_5 false _ ?side1 ?side2 ?side3 ?side4 A8.out).mono ?_); (case side1 => exact lC (Kd.C_below HR0_0.out HB.out)); (case side2 => exact HC0_0.out); (case side3 => exact lC (Kd.C_below HR1_2.out HB.out)); (case side4 => exact HC1_2.out); rintro e w24 ⟨rfl, hb⟩; refine ⟨_, rfl, ?_⟩; have n0_ := Aside0.mk (blk_below (lK BK213.out) hb); have n1_ := Aside0.mk (blk_below (lK BK214.out) hb); have n2_ := Aside0.mk (blk_below (lK BK215.out) hb); have n3_ := Aside0.mk (below_step lB hb); clear BK213; clear BK214; clear BK215; clear HB; have BK213 := n0_; have BK214 := n1_; have BK215 := n2_; have HB := n3_; clear n0_ n1_ n2_ n3_; (try clear hb); (try clear hb2); (try clear hk); (try clear hi)))
   go_meet
   case rel => exact ⟨_, (true), lF, H', ⟨lN⟩, ⟨lK BK213.out⟩, ⟨lK BK214.out⟩, ⟨lK BK215.out⟩, ⟨lB⟩⟩
 case rest =>
  clear HC4
  try clear c1
  try clear c2
  try clear p2
  try clear c3
  try clear c4
  try clear c9
  try clear c11
  try clear c12
  try clear c14
  try clear c19
  try clear c20
  try clear c22
  try clear hcz13_0 hcz13_1
  try clear hcz15_0 hcz15_1 hcz15_2 hcz15_3 hcz15_4 hcz15_5
  try clear hcz17_0 hcz17_1
  try clear hcz21_0 hcz21_1
  try clear hcz23_0 hcz23_1 hcz23_2 hcz23_3 hcz23_4 hcz23_5
  try clear hfz13_0 hfz13_1
  try clear hfz15_0 hfz15_1 hfz15_2 hfz15_3 hfz15_4 hfz15_5
  try clear hfz17_0 hfz17_1
  try clear hfz21_0 hfz21_1
  try clear hfz23_0 hfz23_1 hfz23_2 hfz23_3 hfz23_4 hfz23_5
  obtain ⟨kq, x20_3, rfl, HA, HJ3, BK213, BK214, BK215, HB⟩ := hcut
  cases kq with
  | zero => exact absurd HA.out (by simp [spec_CallBy.j0])
  | succ kj3 =>
   have H := HA.out
   clear HA
   simp only [spec_CallBy.j0] at H
   by_cases c25 : x20_3 = true
   ·subst c25
    rw [if_pos rfl] at H
    simp only [Option.some.injEq, Prod.mk.injEq] at H
    obtain ⟨rfl, rfl, rfl, rfl, rfl, rfl, rfl, rfl⟩ := H
    have hnb26 := NB215_213.out
    have hnc26 := NB213_215.out
    have hnb27 := NB215_214.out
    have hnc27 := NB214_215.out
    obtain ⟨hcz28_0, hfz28_0, hcz28_1, hfz28_1, hcz28_2, hfz28_2, hcz28_3, hfz28_3, hcz28_4, hfz28_4, hcz28_5, hfz28_5⟩ := bk6 BK215.out
    go_wp2
    refine bodyPost_ret (results_ctt rfl _ _ gb215 44 #[.int .i64 0, .int .i64 0, .slice none 0 0, .int .i64 0, .int .i64 0, .int .i64 0] (0, 0) _ rfl (by (with_reducible repeat first | apply bN | apply bD | apply bA); refine blk_put (cs := #[.int .i64 0, .int .i64 0, .slice none 0 0, .int .i64 0, .int .i64 0, .int .i64 0]) ?_ 5 _ rfl; (with_reducible repeat first | apply bN | apply bD | apply bA); refine blk_put (cs := #[.int .i64 0, .int .i64 0, .slice none 0 0, .int .i64 0, .int .i64 0, .int .i64 0]) ?_ 4 _ rfl; (with_reducible repeat first | apply bN | apply bD | apply bA); refine blk_put (cs := #[.int .i64 0, .int .i64 0, .slice none 0 0, .int .i64 0, .int .i64 0, .int .i64 0]) ?_ 3 _ rfl; (with_reducible repeat first | apply bN | apply bD | apply bA); refine blk_put (cs := #[.int .i64 0, .int .i64 0, .slice none 0 0, .int .i64 0, .int .i64 0, .int .i64 0]) ?_ 2 _ rfl; (with_reducible repeat first | apply bN | apply bD | apply bA); refine blk_put (cs := #[.int .i64 0, .int .i64 0, .slice none 0 0, .int .i64 0, .int .i64 0, .int .i64 0]) ?_ 1 _ rfl; (with_reducible repeat first | apply bN | apply bD | apply bA); refine blk_put (cs := #[.int .i64 0, .int .i64 0, .slice none 0 0, .int .i64 0, .int .i64 0, .int .i64 0]) ?_ 0 _ rfl; (with_reducible repeat first | apply bN | apply bD | apply bA); exact BK215.out) Try.underlying44 rfl (by kernel_rfl)) rfl ?_
    exact ⟨_, lE, by first | exact Kd.R_nil _ _ _ _ _ | exact Kd.N_nil _ _ _ _ _ | exact Kd.V_nil _ _ _ _ _ | exact Kd.Q_nil _ _ _ _ _ | exact Kd.S_nil _ _ _ _ _, lB⟩
   ·replace c25 := Bool.eq_false_iff.mpr c25
    subst c25
    rw [if_neg (show ¬ (false = true) by decide)] at H
    replace H := lO H
    obtain ⟨t218, A29, H⟩ := H
    replace H := Option.bind_eq_some_iff.mp H
    obtain ⟨⟨t219, t220, t221, t224, t225, t226⟩, A300, H⟩ := H
    replace H : (if t218 = 0 then (some (0, 0, ([] : List (S97)), 0, 0, 0, 0, false)) else ((spec_GoodCache.f kj3 l0_0 a0_1 t219 t220 t221 t224 t225 t226).bind fun t228 => (if t228 = true then (some (t219, t220, t221, t224, t225, t226, t218, true)) else (some (0, 0, ([] : List (S97)), 0, 0, 0, 0, false))))) = some (r1, r2, r3, r4, r5, r6, r7, r8) := H
    have A30 := Aside0.mk A300
    clear A300
    by_cases c31 : t218 = 0
    ·rw [if_pos c31] at H
     have c31b0 : (t218 == 0) = true := beq_iff_eq.mpr c31
     have c31b1 : (t218 != 0) = false := bne_eq_false_iff_eq.mpr c31
     clear c31
     simp only [Option.some.injEq, Prod.mk.injEq] at H
     obtain ⟨rfl, rfl, rfl, rfl, rfl, rfl, rfl, rfl⟩ := H
     have hnb32 := NB213_214.out
     have hnc32 := NB214_213.out
     have hnb33 := NB213_215.out
     have hnc33 := NB215_213.out
     obtain ⟨hcz34_0, hfz34_0, hcz34_1, hfz34_1⟩ := bk2 BK213.out
     have hnb35 := NB214_215.out
     have hnc35 := NB215_214.out
     obtain ⟨hcz36_0, hfz36_0, hcz36_1, hfz36_1, hcz36_2, hfz36_2, hcz36_3, hfz36_3, hcz36_4, hfz36_4, hcz36_5, hfz36_5⟩ := bk6 BK214.out
     go_wp2_with (first | ((with_reducible refine gate_callee (f := 61) rfl ?_); refine gl_ (some 26) (Try.func61) #[.agg #[.slice A0_0 l0_0.length c0_0, .int .i64 a0_1], .int .i64 a2, .int .i64 a1_0] ?_; (with_reducible refine (spec_l12Find.calls kj3 _ _ l0_0 a0_1 a2 a1_0 t218 _ ?side1 ?side2 A29.out).mono ?_); (case side1 => exact lC (Kd.C_below HR0_0.out HB.out)); (case side2 => exact HC0_0.out); rintro e w37 ⟨rfl, hb⟩; refine ⟨_, rfl, ?_⟩; have n0_ := Aside0.mk (blk_below (lK BK213.out) hb); have n1_ := Aside0.mk (blk_below (lK BK214.out) hb); have n2_ := Aside0.mk (blk_below (lK BK215.out) hb); have n3_ := Aside0.mk (below_step lB hb); clear BK213; clear BK214; clear BK215; clear HB; have BK213 := n0_; have BK214 := n1_; have BK215 := n2_; have HB := n3_; clear n0_ n1_ n2_ n3_; (try clear hb); (try clear hb2); (try clear hk); (try clear hi); obtain ⟨hcz38_0, hfz38_0, hcz38_1, hfz38_1⟩ := bk2 BK213.out; obtain ⟨hcz39_0, hfz39_0, hcz39_1, hfz39_1, hcz39_2, hfz39_2, hcz39_3, hfz39_3, hcz39_4, hfz39_4, hcz39_5, hfz39_5⟩ := bk6 BK214.out) | ((with_reducible refine gate_callee (f := 76) rfl ?_); refine gl_ (some 31) (Try.func76) #[.agg #[.slice A0_0 l0_0.length c0_0, .int .i64 a0_1], .agg #[.int .i64 a1_0, .int .i64 a1_1, .slice A1_2 l1_2.length c1_2, .int .i64 a1_3, .int .i64 a1_4, .int .i64 a1_5], .int .i64 a2, .int .i64 t218] ?_; (with_reducible refine (spec_l12Call.calls kj3 _ _ l0_0 a0_1 a1_0 a1_1 _ _ l1_2 a1_3 a1_4 a1_5 a2 t218 t219 t220 t221 t224 t225 t226 _ ?side1 ?side2 ?side3 ?side4 A30.out).mono ?_); (case side1 => exact lC (Kd.C_below HR0_0.out HB.out)); (case side2 => exact HC0_0.out); (case side3 => exact lC (Kd.C_below HR1_2.out HB.out)); (case side4 => exact HC1_2.out); rintro e w40 ⟨v222, rfl, ho0, hb⟩; refine ⟨_, rfl, ?_⟩; have n0_ := Aside0.mk (Kd.R_lower ho0 (below_size lB)); have n1_ := Aside0.mk (blk_below (lK BK213.out) hb); have n2_ := Aside0.mk (blk_below (lK BK214.out) hb); have n3_ := Aside0.mk (blk_below (lK BK215.out) hb); have n4_ := Aside0.mk (below_step lB hb); clear BK213; clear BK214; clear BK215; clear HB; have HO223 := n0_; have BK213 := n1_; have BK214 := n2_; have BK215 := n3_; have HB := n4_; clear n0_ n1_ n2_ n3_ n4_; (try clear hb); (try clear hb2); (try clear hk); (try clear hi); (try clear ho0)) | ((with_reducible refine gate_dst (N := 10) rfl ?_); refine bxe 10 #[.int .i64 0, .int .i64 0, .slice none 0 0, .int .i64 0, .int .i64 0, .int .i64 0] 44 ?_; intro gb227 hg w41 hbox hb; have n0_ := Aside0.mk (Kd.R_below (lR HO223.out) hb); have n1_ := Aside0.mk (blk_below (lK BK213.out) hb); have n2_ := Aside0.mk (blk_below (lK BK214.out) hb); have n3_ := Aside0.mk (blk_below (lK BK215.out) hb); have n4_ := Aside0.mk (below_step lB hb); have n5_ := Aside0.mk (hbox); have n6_ := lG w hg; have n7_ := lG w hg; have n8_ := Aside0.mk ((by rw [hg]; exact Nat.ne_of_lt (blk_lt (lK BK213.out)) : gb213 ≠ gb227)); have n9_ := Aside0.mk ((by rw [hg]; exact Nat.ne_of_gt (blk_lt (lK BK213.out)) : gb227 ≠ gb213)); have n10_ := Aside0.mk ((by rw [hg]; exact Nat.ne_of_lt (blk_lt (lK BK214.out)) : gb214 ≠ gb227)); have n11_ := Aside0.mk ((by rw [hg]; exact Nat.ne_of_gt (blk_lt (lK BK214.out)) : gb227 ≠ gb214)); have n12_ := Aside0.mk ((by rw [hg]; exact Nat.ne_of_lt (blk_lt (lK BK215.out)) : gb215 ≠ gb227)); have n13_ := Aside0.mk ((by rw [hg]; exact Nat.ne_of_gt (blk_lt (lK BK215.out)) : gb227 ≠ gb215)); clear HO223; clear BK213; clear BK214; clear BK215; clear HB; have HO223 := n0_; have BK213 := n1_; have BK214 := n2_; have BK215 := n3_; have HB := n4_; have BK227 := n5_; have GW227 := n6_; have GE227 := n7_; have NB213_227 := n8_; have NB227_213 := n9_; have NB214_227 := n10_; have NB227_214 := n11_; have NB215_227 := n12_; have NB227_215 := n13_; clear n0_ n1_ n2_ n3_ n4_ n5_ n6_ n7_ n8_ n9_ n10_ n11_ n12_ n13_; clear hb hbox hg; have hnb42 := NB227_213.out; have hnc42 := NB213_227.out; have hnb43 := NB227_214.out; have hnc43 := NB214_227.out; have hnb44 := NB227_215.out; have hnc44 := NB215_227.out; obtain ⟨hcz45_0, hfz45_0, hcz45_1, hfz45_1, hcz45_2, hfz45_2, hcz45_3, hfz45_3, hcz45_4, hfz45_4, hcz45_5, hfz45_5⟩ := bk6 BK227.out; obtain ⟨Ao46, co46, eo46⟩ := Kd.R_slice HO223.out; subst eo46; obtain ⟨hcz47_0, hfz47_0, hcz47_1, hfz47_1, hcz47_2, hfz47_2, hcz47_3, hfz47_3, hcz47_4, hfz47_4, hcz47_5, hfz47_5⟩ := bk6 BK215.out))
     refine bodyPost_ret (results_ctt rfl _ _ gb215 44 #[.int .i64 0, .int .i64 0, .slice none 0 0, .int .i64 0, .int .i64 0, .int .i64 0] (0, 0) _ rfl (by (with_reducible repeat first | apply bN | apply bD | apply bA); refine blk_put (cs := #[.int .i64 0, .int .i64 0, .slice none 0 0, .int .i64 0, .int .i64 0, .int .i64 0]) ?_ 5 _ rfl; (with_reducible repeat first | apply bN | apply bD | apply bA); refine blk_put (cs := #[.int .i64 0, .int .i64 0, .slice none 0 0, .int .i64 0, .int .i64 0, .int .i64 0]) ?_ 4 _ rfl; (with_reducible repeat first | apply bN | apply bD | apply bA); refine blk_put (cs := #[.int .i64 0, .int .i64 0, .slice none 0 0, .int .i64 0, .int .i64 0, .int .i64 0]) ?_ 3 _ rfl; (with_reducible repeat first | apply bN | apply bD | apply bA); refine blk_put (cs := #[.int .i64 0, .int .i64 0, .slice none 0 0, .int .i64 0, .int .i64 0, .int .i64 0]) ?_ 2 _ rfl; (with_reducible repeat first | apply bN | apply bD | apply bA); refine blk_put (cs := #[.int .i64 0, .int .i64 0, .slice none 0 0, .int .i64 0, .int .i64 0, .int .i64 0]) ?_ 1 _ rfl; (with_reducible repeat first | apply bN | apply bD | apply bA); refine blk_put (cs := #[.int .i64 0, .int .i64 0, .slice none 0 0, .int .i64 0, .int .i64 0, .int .i64 0]) ?_ 0 _ rfl; (with_reducible repeat first | apply bN | apply bD | apply bA); refine blk_far ?_ NB215_227.out _; (with_reducible repeat first | apply bN | apply bD | apply bA); refine blk_far ?_ NB215_227.out _; (with_reducible repeat first | apply bN | apply bD | apply bA); refine blk_far ?_ NB215_227.out _; (with_reducible repeat first | apply bN | apply bD | apply bA); refine blk_far ?_ NB215_227.out _; (with_reducible repeat first | apply bN | apply bD | apply bA); refine blk_far ?_ NB215_227.out _; (with_reducible repeat first | apply bN | apply bD | apply bA); refine blk_far ?_ NB215_227.out _; (with_reducible repeat first | apply bN | apply bD | apply bA); exact BK215.out) Try.underlying44 rfl (by kernel_rfl)) rfl ?_
     exact ⟨_, lE, by first | exact Kd.R_nil _ _ _ _ _ | exact Kd.N_nil _ _ _ _ _ | exact Kd.V_nil _ _ _ _ _ | exact Kd.Q_nil _ _ _ _ _ | exact Kd.S_nil _ _ _ _ _, lB⟩
    ·rw [if_neg c31] at H
     have c31b0 : (t218 == 0) = false := beq_eq_false_iff_ne.mpr c31
     have c31b1 : (t218 != 0) = true := bne_iff_ne.mpr c31
     replace H := lO H
     obtain ⟨t228, A48, H⟩ := H
     by_cases c49 : t228 = true
     ·subst c49
      rw [if_pos rfl] at H
      simp only [Option.some.injEq, Prod.mk.injEq] at H
      obtain ⟨rfl, rfl, rfl, rfl, rfl, rfl, rfl, rfl⟩ := H
      have hnb50 := NB213_214.out
      have hnc50 := NB214_213.out
      have hnb51 := NB213_215.out
      have hnc51 := NB215_213.out
      obtain ⟨hcz52_0, hfz52_0, hcz52_1, hfz52_1⟩ := bk2 BK213.out
      have hnb53 := NB214_215.out
      have hnc53 := NB215_214.out
      obtain ⟨hcz54_0, hfz54_0, hcz54_1, hfz54_1, hcz54_2, hfz54_2, hcz54_3, hfz54_3, hcz54_4, hfz54_4, hcz54_5, hfz54_5⟩ := bk6 BK214.out
      go_wp2_with (first | ((with_reducible refine gate_callee (f := 61) rfl ?_); refine gl_ (some 26) (Try.func61) #[.agg #[.slice A0_0 l0_0.length c0_0, .int .i64 a0_1], .int .i64 a2, .int .i64 a1_0] ?_; (with_reducible refine (spec_l12Find.calls kj3 _ _ l0_0 a0_1 a2 a1_0 t218 _ ?side1 ?side2 A29.out).mono ?_); (case side1 => exact lC (Kd.C_below HR0_0.out HB.out)); (case side2 => exact HC0_0.out); rintro e w55 ⟨rfl, hb⟩; refine ⟨_, rfl, ?_⟩; have n0_ := Aside0.mk (blk_below (lK BK213.out) hb); have n1_ := Aside0.mk (blk_below (lK BK214.out) hb); have n2_ := Aside0.mk (blk_below (lK BK215.out) hb); have n3_ := Aside0.mk (below_step lB hb); clear BK213; clear BK214; clear BK215; clear HB; have BK213 := n0_; have BK214 := n1_; have BK215 := n2_; have HB := n3_; clear n0_ n1_ n2_ n3_; (try clear hb); (try clear hb2); (try clear hk); (try clear hi); obtain ⟨hcz56_0, hfz56_0, hcz56_1, hfz56_1⟩ := bk2 BK213.out; obtain ⟨hcz57_0, hfz57_0, hcz57_1, hfz57_1, hcz57_2, hfz57_2, hcz57_3, hfz57_3, hcz57_4, hfz57_4, hcz57_5, hfz57_5⟩ := bk6 BK214.out) | ((with_reducible refine gate_callee (f := 76) rfl ?_); refine gl_ (some 31) (Try.func76) #[.agg #[.slice A0_0 l0_0.length c0_0, .int .i64 a0_1], .agg #[.int .i64 a1_0, .int .i64 a1_1, .slice A1_2 l1_2.length c1_2, .int .i64 a1_3, .int .i64 a1_4, .int .i64 a1_5], .int .i64 a2, .int .i64 t218] ?_; (with_reducible refine (spec_l12Call.calls kj3 _ _ l0_0 a0_1 a1_0 a1_1 _ _ l1_2 a1_3 a1_4 a1_5 a2 t218 t219 t220 t221 t224 t225 t226 _ ?side1 ?side2 ?side3 ?side4 A30.out).mono ?_); (case side1 => exact lC (Kd.C_below HR0_0.out HB.out)); (case side2 => exact HC0_0.out); (case side3 => exact lC (Kd.C_below HR1_2.out HB.out)); (case side4 => exact HC1_2.out); rintro e w58 ⟨v222, rfl, ho0, hb⟩; refine ⟨_, rfl, ?_⟩; have n0_ := Aside0.mk (Kd.R_lower ho0 (below_size lB)); have n1_ := Aside0.mk (blk_below (lK BK213.out) hb); have n2_ := Aside0.mk (blk_below (lK BK214.out) hb); have n3_ := Aside0.mk (blk_below (lK BK215.out) hb); have n4_ := Aside0.mk (below_step lB hb); clear BK213; clear BK214; clear BK215; clear HB; have HO223 := n0_; have BK213 := n1_; have BK214 := n2_; have BK215 := n3_; have HB := n4_; clear n0_ n1_ n2_ n3_ n4_; (try clear hb); (try clear hb2); (try clear hk); (try clear hi); (try clear ho0)) | ((with_reducible refine gate_dst (N := 10) rfl ?_); refine bxe 10 #[.int .i64 0, .int .i64 0, .slice none 0 0, .int .i64 0, .int .i64 0, .int .i64 0] 44 ?_; intro gb227 hg w59 hbox hb; have n0_ := Aside0.mk (Kd.R_below (lR HO223.out) hb); have n1_ := Aside0.mk (blk_below (lK BK213.out) hb); have n2_ := Aside0.mk (blk_below (lK BK214.out) hb); have n3_ := Aside0.mk (blk_below (lK BK215.out) hb); have n4_ := Aside0.mk (below_step lB hb); have n5_ := Aside0.mk (hbox); have n6_ := lG w hg; have n7_ := lG w hg; have n8_ := Aside0.mk ((by rw [hg]; exact Nat.ne_of_lt (blk_lt (lK BK213.out)) : gb213 ≠ gb227)); have n9_ := Aside0.mk ((by rw [hg]; exact Nat.ne_of_gt (blk_lt (lK BK213.out)) : gb227 ≠ gb213)); have n10_ := Aside0.mk ((by rw [hg]; exact Nat.ne_of_lt (blk_lt (lK BK214.out)) : gb214 ≠ gb227)); have n11_ := Aside0.mk ((by rw [hg]; exact Nat.ne_of_gt (blk_lt (lK BK214.out)) : gb227 ≠ gb214)); have n12_ := Aside0.mk ((by rw [hg]; exact Nat.ne_of_lt (blk_lt (lK BK215.out)) : gb215 ≠ gb227)); have n13_ := Aside0.mk ((by rw [hg]; exact Nat.ne_of_gt (blk_lt (lK BK215.out)) : gb227 ≠ gb215)); clear HO223; clear BK213; clear BK214; clear BK215; clear HB; have HO223 := n0_; have BK213 := n1_; have BK214 := n2_; have BK215 := n3_; have HB := n4_; have BK227 := n5_; have GW227 := n6_; have GE227 := n7_; have NB213_227 := n8_; have NB227_213 := n9_; have NB214_227 := n10_; have NB227_214 := n11_; have NB215_227 := n12_; have NB227_215 := n13_; clear n0_ n1_ n2_ n3_ n4_ n5_ n6_ n7_ n8_ n9_ n10_ n11_ n12_ n13_; clear hb hbox hg; have hnb60 := NB227_213.out; have hnc60 := NB213_227.out; have hnb61 := NB227_214.out; have hnc61 := NB214_227.out; have hnb62 := NB227_215.out; have hnc62 := NB215_227.out; obtain ⟨hcz63_0, hfz63_0, hcz63_1, hfz63_1, hcz63_2, hfz63_2, hcz63_3, hfz63_3, hcz63_4, hfz63_4, hcz63_5, hfz63_5⟩ := bk6 BK227.out; obtain ⟨Ao64, co64, eo64⟩ := Kd.R_slice HO223.out; subst eo64; obtain ⟨hcz65_0, hfz65_0, hcz65_1, hfz65_1⟩ := bk2 BK213.out) | (go_at_call 32; (with_reducible refine (spec_GoodCache.calls kj3 _ _ l0_0 a0_1 t219 t220 _ _ t221 t224 t225 t226 true _ ?side1 ?side2 ?side3 ?side4 A48.out).mono ?_); (case side1 => exact Kd.C_below HR0_0.out lB); (case side2 => exact HC0_0.out); (case side3 => refine (Kd.R_reads' (e := 97) (base := w.heap.size) (ok := fun k_ => True) (n := t221.length) (c := co64) ?_).2.2; exact (by (with_reducible repeat (first | apply Kd.R_alloc | apply Kd.R_drewN | apply Kd.R_drew)); exact (Kd.R_mono (Kd.R_far (p := ⟨gb227, 5, none⟩) (Kd.R_far (p := ⟨gb227, 4, none⟩) (Kd.R_far (p := ⟨gb227, 3, none⟩) (Kd.R_far (p := ⟨gb227, 2, none⟩) (Kd.R_far (p := ⟨gb227, 1, none⟩) (Kd.R_far (p := ⟨gb227, 0, none⟩) (Kd.R_types HO223.out BK227.out (by decide)) (fun _ hk => hk.2) (.int .i64 t219)) (fun _ hk => hk.2) (.int .i64 t220)) (fun _ hk => hk.2) (.slice Ao64 t221.length co64)) (fun _ hk => hk.2) (.int .i64 t224)) (fun _ hk => hk.2) (.int .i64 t225)) (fun _ hk => hk.2) (.int .i64 t226)) (fun _ h_ => h_.1)))); (case side4 => exact (Kd.R_reads' HO223.out).2.1); rintro e w66 ⟨rfl, hb⟩; have n0_ := Aside0.mk (Kd.R_below (by (with_reducible repeat (first | apply Kd.R_alloc | apply Kd.R_drewN | apply Kd.R_drew)); exact (Kd.R_mono (Kd.R_far (p := ⟨gb227, 5, none⟩) (Kd.R_far (p := ⟨gb227, 4, none⟩) (Kd.R_far (p := ⟨gb227, 3, none⟩) (Kd.R_far (p := ⟨gb227, 2, none⟩) (Kd.R_far (p := ⟨gb227, 1, none⟩) (Kd.R_far (p := ⟨gb227, 0, none⟩) (Kd.R_types HO223.out BK227.out (by decide)) (fun _ hk => hk.2) (.int .i64 t219)) (fun _ hk => hk.2) (.int .i64 t220)) (fun _ hk => hk.2) (.slice Ao64 t221.length co64)) (fun _ hk => hk.2) (.int .i64 t224)) (fun _ hk => hk.2) (.int .i64 t225)) (fun _ hk => hk.2) (.int .i64 t226)) (fun _ h_ => h_.1))) hb); have n1_ := Aside0.mk (blk_below (lJ BK213.out) hb); have n2_ := Aside0.mk (blk_below (lJ BK214.out) hb); have n3_ := Aside0.mk (blk_below (lJ BK215.out) hb); have n4_ := Aside0.mk (blk_below (g := gb227) (o := .cells #[.int .i64 t219, .int .i64 t220, .slice Ao64 t221.length co64, .int .i64 t224, .int .i64 t225, .int .i64 t226] 44 (0, 0)) (by (with_reducible repeat first | apply bN | apply bD | apply bA); refine blk_put (cs := #[.int .i64 t219, .int .i64 t220, .slice Ao64 t221.length co64, .int .i64 t224, .int .i64 t225, .int .i64 0]) ?_ 5 _ rfl; (with_reducible repeat first | apply bN | apply bD | apply bA); refine blk_put (cs := #[.int .i64 t219, .int .i64 t220, .slice Ao64 t221.length co64, .int .i64 t224, .int .i64 0, .int .i64 0]) ?_ 4 _ rfl; (with_reducible repeat first | apply bN | apply bD | apply bA); refine blk_put (cs := #[.int .i64 t219, .int .i64 t220, .slice Ao64 t221.length co64, .int .i64 0, .int .i64 0, .int .i64 0]) ?_ 3 _ rfl; (with_reducible repeat first | apply bN | apply bD | apply bA); refine blk_put (cs := #[.int .i64 t219, .int .i64 t220, .slice none 0 0, .int .i64 0, .int .i64 0, .int .i64 0]) ?_ 2 _ rfl; (with_reducible repeat first | apply bN | apply bD | apply bA); refine blk_put (cs := #[.int .i64 t219, .int .i64 0, .slice none 0 0, .int .i64 0, .int .i64 0, .int .i64 0]) ?_ 1 _ rfl; (with_reducible repeat first | apply bN | apply bD | apply bA); refine blk_put (cs := #[.int .i64 0, .int .i64 0, .slice none 0 0, .int .i64 0, .int .i64 0, .int .i64 0]) ?_ 0 _ rfl; (with_reducible repeat first | apply bN | apply bD | apply bA); exact BK227.out) hb); have n5_ := Aside0.mk (below_step lB hb); clear HO223; clear BK213; clear BK214; clear BK215; clear BK227; clear HB; have HO223 := n0_; have BK213 := n1_; have BK214 := n2_; have BK215 := n3_; have BK227 := n4_; have HB := n5_; clear n0_ n1_ n2_ n3_ n4_ n5_; (try clear hb); (try clear hb2); (try clear hk); (try clear hi); obtain ⟨hcz67_0, hfz67_0, hcz67_1, hfz67_1, hcz67_2, hfz67_2, hcz67_3, hfz67_3, hcz67_4, hfz67_4, hcz67_5, hfz67_5⟩ := bk6 BK227.out; obtain ⟨hcz68_0, hfz68_0, hcz68_1, hfz68_1, hcz68_2, hfz68_2, hcz68_3, hfz68_3, hcz68_4, hfz68_4, hcz68_5, hfz68_5⟩ := bk6 BK215.out))
      refine bodyPost_ret (results_ctt rfl _ _ gb215 44 #[.int .i64 t219, .int .i64 t220, .slice Ao64 t221.length co64, .int .i64 t224, .int .i64 t225, .int .i64 t226] (0, 0) _ rfl (by (with_reducible repeat first | apply bN | apply bD | apply bA); refine blk_put (cs := #[.int .i64 t219, .int .i64 t220, .slice Ao64 t221.length co64, .int .i64 t224, .int .i64 t225, .int .i64 0]) ?_ 5 _ rfl; (with_reducible repeat first | apply bN | apply bD | apply bA); refine blk_put (cs := #[.int .i64 t219, .int .i64 t220, .slice Ao64 t221.length co64, .int .i64 t224, .int .i64 0, .int .i64 0]) ?_ 4 _ rfl; (with_reducible repeat first | apply bN | apply bD | apply bA); refine blk_put (cs := #[.int .i64 t219, .int .i64 t220, .slice Ao64 t221.length co64, .int .i64 0, .int .i64 0, .int .i64 0]) ?_ 3 _ rfl; (with_reducible repeat first | apply bN | apply bD | apply bA); refine blk_put (cs := #[.int .i64 t219, .int .i64 t220, .slice none 0 0, .int .i64 0, .int .i64 0, .int .i64 0]) ?_ 2 _ rfl; (with_reducible repeat first | apply bN | apply bD | apply bA); refine blk_put (cs := #[.int .i64 t219, .int .i64 0, .slice none 0 0, .int .i64 0, .int .i64 0, .int .i64 0]) ?_ 1 _ rfl; (with_reducible repeat first | apply bN | apply bD | apply bA); refine blk_put (cs := #[.int .i64 0, .int .i64 0, .slice none 0 0, .int .i64 0, .int .i64 0, .int .i64 0]) ?_ 0 _ rfl; (with_reducible repeat first | apply bN | apply bD | apply bA); exact BK215.out) Try.underlying44 rfl (by kernel_rfl)) rfl ?_
      exact ⟨_, lE, by (with_reducible repeat (first | apply Kd.R_alloc | apply Kd.R_drewN | apply Kd.R_drew)); exact Kd.R_mono (Kd.R_far (p := ⟨gb215, 5, none⟩) (Kd.R_far (p := ⟨gb215, 4, none⟩) (Kd.R_far (p := ⟨gb215, 3, none⟩) (Kd.R_far (p := ⟨gb215, 2, none⟩) (Kd.R_far (p := ⟨gb215, 1, none⟩) (Kd.R_far (p := ⟨gb215, 0, none⟩) (Kd.R_types HO223.out BK215.out (by decide)) (fun _ hk => hk.2) (.int .i64 t219)) (fun _ hk => hk.2) (.int .i64 t220)) (fun _ hk => hk.2) (.slice Ao64 t221.length co64)) (fun _ hk => hk.2) (.int .i64 t224)) (fun _ hk => hk.2) (.int .i64 t225)) (fun _ hk => hk.2) (.int .i64 t226)) (fun _ hk => trivial), lB⟩
     ·replace c49 := Bool.eq_false_iff.mpr c49
      subst c49
      rw [if_neg (show ¬ (false = true) by decide)] at H
      simp only [Option.some.injEq, Prod.mk.injEq] at H
      obtain ⟨rfl, rfl, rfl, rfl, rfl, rfl, rfl, rfl⟩ := H
      have hnb69 := NB213_214.out
      have hnc69 := NB214_213.out
      have hnb70 := NB213_215.out
      have hnc70 := NB215_213.out
      obtain ⟨hcz71_0, hfz71_0, hcz71_1, hfz71_1⟩ := bk2 BK213.out
      have hnb72 := NB214_215.out
      have hnc72 := NB215_214.out
      obtain ⟨hcz73_0, hfz73_0, hcz73_1, hfz73_1, hcz73_2, hfz73_2, hcz73_3, hfz73_3, hcz73_4, hfz73_4, hcz73_5, hfz73_5⟩ := bk6 BK214.out
      go_wp2_with (first | ((with_reducible refine gate_callee (f := 61) rfl ?_); refine gl_ (some 26) (Try.func61) #[.agg #[.slice A0_0 l0_0.length c0_0, .int .i64 a0_1], .int .i64 a2, .int .i64 a1_0] ?_; (with_reducible refine (spec_l12Find.calls kj3 _ _ l0_0 a0_1 a2 a1_0 t218 _ ?side1 ?side2 A29.out).mono ?_); (case side1 => exact lC (Kd.C_below HR0_0.out HB.out)); (case side2 => exact HC0_0.out); rintro e w74 ⟨rfl, hb⟩; refine ⟨_, rfl, ?_⟩; have n0_ := Aside0.mk (blk_below (lK BK213.out) hb); have n1_ := Aside0.mk (blk_below (lK BK214.out) hb); have n2_ := Aside0.mk (blk_below (lK BK215.out) hb); have n3_ := Aside0.mk (below_step lB hb); clear BK213; clear BK214; clear BK215; clear HB; have BK213 := n0_; have BK214 := n1_; have BK215 := n2_; have HB := n3_; clear n0_ n1_ n2_ n3_; (try clear hb); (try clear hb2); (try clear hk); (try clear hi); obtain ⟨hcz75_0, hfz75_0, hcz75_1, hfz75_1⟩ := bk2 BK213.out; obtain ⟨hcz76_0, hfz76_0, hcz76_1, hfz76_1, hcz76_2, hfz76_2, hcz76_3, hfz76_3, hcz76_4, hfz76_4, hcz76_5, hfz76_5⟩ := bk6 BK214.out) | ((with_reducible refine gate_callee (f := 76) rfl ?_); refine gl_ (some 31) (Try.func76) #[.agg #[.slice A0_0 l0_0.length c0_0, .int .i64 a0_1], .agg #[.int .i64 a1_0, .int .i64 a1_1, .slice A1_2 l1_2.length c1_2, .int .i64 a1_3, .int .i64 a1_4, .int .i64 a1_5], .int .i64 a2, .int .i64 t218] ?_; (with_reducible refine (spec_l12Call.calls kj3 _ _ l0_0 a0_1 a1_0 a1_1 _ _ l1_2 a1_3 a1_4 a1_5 a2 t218 t219 t220 t221 t224 t225 t226 _ ?side1 ?side2 ?side3 ?side4 A30.out).mono ?_); (case side1 => exact lC (Kd.C_below HR0_0.out HB.out)); (case side2 => exact HC0_0.out); (case side3 => exact lC (Kd.C_below HR1_2.out HB.out)); (case side4 => exact HC1_2.out); rintro e w77 ⟨v222, rfl, ho0, hb⟩; refine ⟨_, rfl, ?_⟩; have n0_ := Aside0.mk (Kd.R_lower ho0 (below_size lB)); have n1_ := Aside0.mk (blk_below (lK BK213.out) hb); have n2_ := Aside0.mk (blk_below (lK BK214.out) hb); have n3_ := Aside0.mk (blk_below (lK BK215.out) hb); have n4_ := Aside0.mk (below_step lB hb); clear BK213; clear BK214; clear BK215; clear HB; have HO223 := n0_; have BK213 := n1_; have BK214 := n2_; have BK215 := n3_; have HB := n4_; clear n0_ n1_ n2_ n3_ n4_; (try clear hb); (try clear hb2); (try clear hk); (try clear hi); (try clear ho0)) | ((with_reducible refine gate_dst (N := 10) rfl ?_); refine bxe 10 #[.int .i64 0, .int .i64 0, .slice none 0 0, .int .i64 0, .int .i64 0, .int .i64 0] 44 ?_; intro gb227 hg w78 hbox hb; have n0_ := Aside0.mk (Kd.R_below (lR HO223.out) hb); have n1_ := Aside0.mk (blk_below (lK BK213.out) hb); have n2_ := Aside0.mk (blk_below (lK BK214.out) hb); have n3_ := Aside0.mk (blk_below (lK BK215.out) hb); have n4_ := Aside0.mk (below_step lB hb); have n5_ := Aside0.mk (hbox); have n6_ := lG w hg; have n7_ := lG w hg; have n8_ := Aside0.mk ((by rw [hg]; exact Nat.ne_of_lt (blk_lt (lK BK213.out)) : gb213 ≠ gb227)); have n9_ := Aside0.mk ((by rw [hg]; exact Nat.ne_of_gt (blk_lt (lK BK213.out)) : gb227 ≠ gb213)); have n10_ := Aside0.mk ((by rw [hg]; exact Nat.ne_of_lt (blk_lt (lK BK214.out)) : gb214 ≠ gb227)); have n11_ := Aside0.mk ((by rw [hg]; exact Nat.ne_of_gt (blk_lt (lK BK214.out)) : gb227 ≠ gb214)); have n12_ := Aside0.mk ((by rw [hg]; exact Nat.ne_of_lt (blk_lt (lK BK215.out)) : gb215 ≠ gb227)); have n13_ := Aside0.mk ((by rw [hg]; exact Nat.ne_of_gt (blk_lt (lK BK215.out)) : gb227 ≠ gb215)); clear HO223; clear BK213; clear BK214; clear BK215; clear HB; have HO223 := n0_; have BK213 := n1_; have BK214 := n2_; have BK215 := n3_; have HB := n4_; have BK227 := n5_; have GW227 := n6_; have GE227 := n7_; have NB213_227 := n8_; have NB227_213 := n9_; have NB214_227 := n10_; have NB227_214 := n11_; have NB215_227 := n12_; have NB227_215 := n13_; clear n0_ n1_ n2_ n3_ n4_ n5_ n6_ n7_ n8_ n9_ n10_ n11_ n12_ n13_; clear hb hbox hg; have hnb79 := NB227_213.out; have hnc79 := NB213_227.out; have hnb80 := NB227_214.out; have hnc80 := NB214_227.out; have hnb81 := NB227_215.out; have hnc81 := NB215_227.out; obtain ⟨hcz82_0, hfz82_0, hcz82_1, hfz82_1, hcz82_2, hfz82_2, hcz82_3, hfz82_3, hcz82_4, hfz82_4, hcz82_5, hfz82_5⟩ := bk6 BK227.out; obtain ⟨Ao83, co83, eo83⟩ := Kd.R_slice HO223.out; subst eo83; obtain ⟨hcz84_0, hfz84_0, hcz84_1, hfz84_1⟩ := bk2 BK213.out) | (go_at_call 32; (with_reducible refine (spec_GoodCache.calls kj3 _ _ l0_0 a0_1 t219 t220 _ _ t221 t224 t225 t226 false _ ?side1 ?side2 ?side3 ?side4 A48.out).mono ?_); (case side1 => exact Kd.C_below HR0_0.out lB); (case side2 => exact HC0_0.out); (case side3 => refine (Kd.R_reads' (e := 97) (base := w.heap.size) (ok := fun k_ => True) (n := t221.length) (c := co83) ?_).2.2; exact (by (with_reducible repeat (first | apply Kd.R_alloc | apply Kd.R_drewN | apply Kd.R_drew)); exact (Kd.R_mono (Kd.R_far (p := ⟨gb227, 5, none⟩) (Kd.R_far (p := ⟨gb227, 4, none⟩) (Kd.R_far (p := ⟨gb227, 3, none⟩) (Kd.R_far (p := ⟨gb227, 2, none⟩) (Kd.R_far (p := ⟨gb227, 1, none⟩) (Kd.R_far (p := ⟨gb227, 0, none⟩) (Kd.R_types HO223.out BK227.out (by decide)) (fun _ hk => hk.2) (.int .i64 t219)) (fun _ hk => hk.2) (.int .i64 t220)) (fun _ hk => hk.2) (.slice Ao83 t221.length co83)) (fun _ hk => hk.2) (.int .i64 t224)) (fun _ hk => hk.2) (.int .i64 t225)) (fun _ hk => hk.2) (.int .i64 t226)) (fun _ h_ => h_.1)))); (case side4 => exact (Kd.R_reads' HO223.out).2.1); rintro e w85 ⟨rfl, hb⟩; have n0_ := Aside0.mk (Kd.R_below (by (with_reducible repeat (first | apply Kd.R_alloc | apply Kd.R_drewN | apply Kd.R_drew)); exact (Kd.R_mono (Kd.R_far (p := ⟨gb227, 5, none⟩) (Kd.R_far (p := ⟨gb227, 4, none⟩) (Kd.R_far (p := ⟨gb227, 3, none⟩) (Kd.R_far (p := ⟨gb227, 2, none⟩) (Kd.R_far (p := ⟨gb227, 1, none⟩) (Kd.R_far (p := ⟨gb227, 0, none⟩) (Kd.R_types HO223.out BK227.out (by decide)) (fun _ hk => hk.2) (.int .i64 t219)) (fun _ hk => hk.2) (.int .i64 t220)) (fun _ hk => hk.2) (.slice Ao83 t221.length co83)) (fun _ hk => hk.2) (.int .i64 t224)) (fun _ hk => hk.2) (.int .i64 t225)) (fun _ hk => hk.2) (.int .i64 t226)) (fun _ h_ => h_.1))) hb); have n1_ := Aside0.mk (blk_below (lJ BK213.out) hb); have n2_ := Aside0.mk (blk_below (lJ BK214.out) hb); have n3_ := Aside0.mk (blk_below (lJ BK215.out) hb); have n4_ := Aside0.mk (blk_below (g := gb227) (o := .cells #[.int .i64 t219, .int .i64 t220, .slice Ao83 t221.length co83, .int .i64 t224, .int .i64 t225, .int .i64 t226] 44 (0, 0)) (by (with_reducible repeat first | apply bN | apply bD | apply bA); refine blk_put (cs := #[.int .i64 t219, .int .i64 t220, .slice Ao83 t221.length co83, .int .i64 t224, .int .i64 t225, .int .i64 0]) ?_ 5 _ rfl; (with_reducible repeat first | apply bN | apply bD | apply bA); refine blk_put (cs := #[.int .i64 t219, .int .i64 t220, .slice Ao83 t221.length co83, .int .i64 t224, .int .i64 0, .int .i64 0]) ?_ 4 _ rfl; (with_reducible repeat first | apply bN | apply bD | apply bA); refine blk_put (cs := #[.int .i64 t219, .int .i64 t220, .slice Ao83 t221.length co83, .int .i64 0, .int .i64 0, .int .i64 0]) ?_ 3 _ rfl; (with_reducible repeat first | apply bN | apply bD | apply bA); refine blk_put (cs := #[.int .i64 t219, .int .i64 t220, .slice none 0 0, .int .i64 0, .int .i64 0, .int .i64 0]) ?_ 2 _ rfl; (with_reducible repeat first | apply bN | apply bD | apply bA); refine blk_put (cs := #[.int .i64 t219, .int .i64 0, .slice none 0 0, .int .i64 0, .int .i64 0, .int .i64 0]) ?_ 1 _ rfl; (with_reducible repeat first | apply bN | apply bD | apply bA); refine blk_put (cs := #[.int .i64 0, .int .i64 0, .slice none 0 0, .int .i64 0, .int .i64 0, .int .i64 0]) ?_ 0 _ rfl; (with_reducible repeat first | apply bN | apply bD | apply bA); exact BK227.out) hb); have n5_ := Aside0.mk (below_step lB hb); clear HO223; clear BK213; clear BK214; clear BK215; clear BK227; clear HB; have HO223 := n0_; have BK213 := n1_; have BK214 := n2_; have BK215 := n3_; have BK227 := n4_; have HB := n5_; clear n0_ n1_ n2_ n3_ n4_ n5_; (try clear hb); (try clear hb2); (try clear hk); (try clear hi); obtain ⟨hcz86_0, hfz86_0, hcz86_1, hfz86_1, hcz86_2, hfz86_2, hcz86_3, hfz86_3, hcz86_4, hfz86_4, hcz86_5, hfz86_5⟩ := bk6 BK215.out))
      refine bodyPost_ret (results_ctt rfl _ _ gb215 44 #[.int .i64 0, .int .i64 0, .slice none 0 0, .int .i64 0, .int .i64 0, .int .i64 0] (0, 0) _ rfl (by (with_reducible repeat first | apply bN | apply bD | apply bA); refine blk_put (cs := #[.int .i64 0, .int .i64 0, .slice none 0 0, .int .i64 0, .int .i64 0, .int .i64 0]) ?_ 5 _ rfl; (with_reducible repeat first | apply bN | apply bD | apply bA); refine blk_put (cs := #[.int .i64 0, .int .i64 0, .slice none 0 0, .int .i64 0, .int .i64 0, .int .i64 0]) ?_ 4 _ rfl; (with_reducible repeat first | apply bN | apply bD | apply bA); refine blk_put (cs := #[.int .i64 0, .int .i64 0, .slice none 0 0, .int .i64 0, .int .i64 0, .int .i64 0]) ?_ 3 _ rfl; (with_reducible repeat first | apply bN | apply bD | apply bA); refine blk_put (cs := #[.int .i64 0, .int .i64 0, .slice none 0 0, .int .i64 0, .int .i64 0, .int .i64 0]) ?_ 2 _ rfl; (with_reducible repeat first | apply bN | apply bD | apply bA); refine blk_put (cs := #[.int .i64 0, .int .i64 0, .slice none 0 0, .int .i64 0, .int .i64 0, .int .i64 0]) ?_ 1 _ rfl; (with_reducible repeat first | apply bN | apply bD | apply bA); refine blk_put (cs := #[.int .i64 0, .int .i64 0, .slice none 0 0, .int .i64 0, .int .i64 0, .int .i64 0]) ?_ 0 _ rfl; (with_reducible repeat first | apply bN | apply bD | apply bA); exact BK215.out) Try.underlying44 rfl (by kernel_rfl)) rfl ?_
      exact ⟨_, lE, by first | exact Kd.R_nil _ _ _ _ _ | exact Kd.N_nil _ _ _ _ _ | exact Kd.V_nil _ _ _ _ _ | exact Kd.Q_nil _ _ _ _ _ | exact Kd.S_nil _ _ _ _ _, lB⟩

/-! ### spec_PlayCalls: function 43 -/
mutual
def spec_PlayCalls.j0 : Nat → List Int → Bool → List (S82) → Int → Int → Int → List (S97) → Int → Int → Int → Option (Int × Int × (List (S97)) × Int × Int × Int × List Int × Bool)
 | 0, _, _, _, _, _, _, _, _, _, _ => none
 | k + 1, x2, x29, x230000, x230001, x241000, x241001, x241002, x241003, x241004, x241005 => if x29 = true then (some (0, 0, ([] : List (S97)), 0, 0, 0, ([] : List Int), false)) else (spec_PlayCalls.l0 k ([] : List Int) x2 (x2.length : Int) 0 x230000 x230001 x241000 x241001 x241002 x241003 x241004 x241005)
def spec_PlayCalls.l0 : Nat → List Int → List Int → Int → Int → List (S82) → Int → Int → Int → List (S97) → Int → Int → Int → Option (Int × Int × (List (S97)) × Int × Int × Int × List Int × Bool)
 | 0, _, _, _, _, _, _, _, _, _, _, _, _ => none
 | k + 1, x11, x31, x32, x33, x230000, x230001, x241000, x241001, x241002, x241003, x241004, x241005 => if x33 < x32 then (if 0 ≤ x33 then (if x33 < (x31.length : Int) then ((spec_CallBy.f k x230000 x230001 x241000 x241001 x241002 x241003 x241004 x241005 (rd x31 x33)).bind fun bt242 => (if bt242.2.2.2.2.2.2.2 = true then (if x11.length < 17592186044416 then (spec_PlayCalls.l0 k (x11 ++ [bt242.2.2.2.2.2.2.1]) x31 x32 (wrap64 (x33 + 1)) x230000 x230001 bt242.1 bt242.2.1 bt242.2.2.1 bt242.2.2.2.1 bt242.2.2.2.2.1 bt242.2.2.2.2.2.1) else (none)) else (some (0, 0, ([] : List (S97)), 0, 0, 0, ([] : List Int), false)))) else (none)) else (none)) else (some (x241000, x241001, x241002, x241003, x241004, x241005, x11, true))
end
def spec_PlayCalls.f (k : Nat) (l0_0 : List (S82)) (a0_1 : Int) (a1 : Int) (l2 : List Int) : Option (Int × Int × (List (S97)) × Int × Int × Int × List Int × Bool) := (spec_NewCache.f k l0_0 a0_1 a1).bind fun bt231 => (if bt231.2.2.2.2.2.2 = true then (spec_PlayCalls.j0 k l2 (decide ((l2.length : Int) > 100)) l0_0 a0_1 bt231.1 bt231.2.1 bt231.2.2.1 bt231.2.2.2.1 bt231.2.2.2.2.1 bt231.2.2.2.2.2.1) else (spec_PlayCalls.j0 k l2 true l0_0 a0_1 bt231.1 bt231.2.1 bt231.2.2.1 bt231.2.2.2.1 bt231.2.2.2.2.1 bt231.2.2.2.2.2.1))
theorem spec_PlayCalls.mono_l : ∀ k, (∀ y0 y1 y2 y3 y4 y5 y6 y7 y8 y9, LeO (spec_PlayCalls.j0 k y0 y1 y2 y3 y4 y5 y6 y7 y8 y9) (spec_PlayCalls.j0 (k + 1) y0 y1 y2 y3 y4 y5 y6 y7 y8 y9)) ∧ (∀ y0 y1 y2 y3 y4 y5 y6 y7 y8 y9 y10 y11, LeO (spec_PlayCalls.l0 k y0 y1 y2 y3 y4 y5 y6 y7 y8 y9 y10 y11) (spec_PlayCalls.l0 (k + 1) y0 y1 y2 y3 y4 y5 y6 y7 y8 y9 y10 y11))
 | 0 => ⟨fun _ _ _ _ _ _ _ _ _ _ r h => by simp [spec_PlayCalls.j0] at h, fun _ _ _ _ _ _ _ _ _ _ _ _ r h => by simp [spec_PlayCalls.l0] at h⟩
 | k + 1 => by
  obtain ⟨ih0, ih1⟩ := spec_PlayCalls.mono_l k
  refine ⟨?_, ?_⟩
  ·intro y0 y1 y2 y3 y4 y5 y6 y7 y8 y9
   unfold spec_PlayCalls.j0
   repeat' first
   | with_reducible apply ih0
   | with_reducible apply ih1
   | with_reducible apply spec_CallBy.mono
   | with_reducible apply spec_NewCache.mono
   | (with_reducible exact LeO.refl _)
   | (with_reducible exact LeO.none _)
   | (with_reducible refine LeO.ite ?_ ?_)
   | (with_reducible refine LeO.bind ?_ (fun _ => ?_))
   | apply ih0
   | apply ih1
   | apply spec_CallBy.mono
   | apply spec_NewCache.mono
   | exact LeO.none _
   | refine LeO.ite ?_ ?_
   | refine LeO.bind ?_ (fun _ => ?_)
  ·intro y0 y1 y2 y3 y4 y5 y6 y7 y8 y9 y10 y11
   unfold spec_PlayCalls.l0
   repeat' first
   | with_reducible apply ih0
   | with_reducible apply ih1
   | with_reducible apply spec_CallBy.mono
   | with_reducible apply spec_NewCache.mono
   | (with_reducible exact LeO.refl _)
   | (with_reducible exact LeO.none _)
   | (with_reducible refine LeO.ite ?_ ?_)
   | (with_reducible refine LeO.bind ?_ (fun _ => ?_))
   | apply ih0
   | apply ih1
   | apply spec_CallBy.mono
   | apply spec_NewCache.mono
   | exact LeO.none _
   | refine LeO.ite ?_ ?_
   | refine LeO.bind ?_ (fun _ => ?_)
theorem spec_PlayCalls.mono : ∀ a0 a1 a2 a3 k, LeO (spec_PlayCalls.f k a0 a1 a2 a3) (spec_PlayCalls.f (k + 1) a0 a1 a2 a3) := by
 intro a0 a1 a2 a3 k
 obtain ⟨ih0, ih1⟩ := spec_PlayCalls.mono_l k
 unfold spec_PlayCalls.f
 repeat' first
   | with_reducible apply ih0
   | with_reducible apply ih1
   | with_reducible apply spec_CallBy.mono
   | with_reducible apply spec_NewCache.mono
   | (with_reducible exact LeO.refl _)
   | (with_reducible exact LeO.none _)
   | (with_reducible refine LeO.ite ?_ ?_)
   | (with_reducible refine LeO.bind ?_ (fun _ => ?_))
   | apply ih0
   | apply ih1
   | apply spec_CallBy.mono
   | apply spec_NewCache.mono
   | exact LeO.none _
   | refine LeO.ite ?_ ?_
   | refine LeO.bind ?_ (fun _ => ?_)
set_option maxHeartbeats 8000000 in
set_option maxRecDepth 100000 in
theorem spec_PlayCalls.calls (k : Nat) (A0_0 : Option Addr) (c0_0 : Nat) (l0_0 : List (S82)) (a0_1 : Int) (a1 : Int) (A2 : Option Addr) (c2 : Nat) (l2 : List Int) (r1 : Int) (r2 : Int) (r3 : List (S97)) (r4 : Int) (r5 : Int) (r6 : Int) (r7 : List Int) (r8 : Bool) (w : World) (hr0_0 : Kd.C k82 w A0_0 l0_0.length l0_0) (hc0_0 : l0_0.length ≤ c0_0) (hr2 : Kd.C (Kd.int .i64) w A2 l2.length l2) (hc2 : l2.length ≤ c2) (h : spec_PlayCalls.f k l0_0 a0_1 a1 l2 = some (r1, r2, r3, r4, r5, r6, r7, r8)) :
  Calls Try.prog 43 #[.agg #[.slice A0_0 l0_0.length c0_0, .int .i64 a0_1], .int .i64 a1, .slice A2 l2.length c2] w fun e w' => ∃ v2_ v6_ : Value, e = .returned (.tuple #[.agg #[.int .i64 r1, .int .i64 r2, v2_, .int .i64 r4, .int .i64 r5, .int .i64 r6], v6_, .bool r8]) ∧ Kd.R k97 97 w' w.heap.size (fun _ => True) v2_ r3 ∧ Kd.R (Kd.int .i64) 3 w' w.heap.size (fun _ => True) v6_ r7 ∧ Below w.heap.size w w' := by
 have hu29 := Try.underlying29
 have hu44 := Try.underlying44
 have HR0_0 := Aside0.mk hr0_0
 have HC0_0 := Aside0.mk hc0_0
 clear hr0_0 hc0_0
 have HR2 := Aside0.mk hr2
 have HC2 := Aside0.mk hc2
 clear hr2 hc2
 have HB := Aside0.mk (Below.refl w.heap.size w)
 have H : ((spec_NewCache.f k l0_0 a0_1 a1).bind fun bt231 => (if bt231.2.2.2.2.2.2 = true then (spec_PlayCalls.j0 k l2 (decide ((l2.length : Int) > 100)) l0_0 a0_1 bt231.1 bt231.2.1 bt231.2.2.1 bt231.2.2.2.1 bt231.2.2.2.2.1 bt231.2.2.2.2.2.1) else (spec_PlayCalls.j0 k l2 true l0_0 a0_1 bt231.1 bt231.2.1 bt231.2.2.1 bt231.2.2.2.1 bt231.2.2.2.2.1 bt231.2.2.2.2.2.1))) = some (r1, r2, r3, r4, r5, r6, r7, r8) := h
 clear h
 replace H := Option.bind_eq_some_iff.mp H
 obtain ⟨⟨t231, t232, t233, t236, t237, t238, t239⟩, A40, H⟩ := H
 replace H : (if t239 = true then (spec_PlayCalls.j0 k l2 (decide ((l2.length : Int) > 100)) l0_0 a0_1 t231 t232 t233 t236 t237 t238) else (spec_PlayCalls.j0 k l2 true l0_0 a0_1 t231 t232 t233 t236 t237 t238)) = some (r1, r2, r3, r4, r5, r6, r7, r8) := H
 have A4 := Aside0.mk A40
 clear A40
 have HC5 := Aside0.mk H
 clear H
 go_enter Try.func43, Try.ntmps43
 go_upto_region 2 with (first | ((with_reducible refine gate_dst (N := 3) rfl ?_); (try (refine gate_guard (by rfl) ?_; dsimp only)); refine bxe 3 #[.slice A0_0 l0_0.length c0_0, .int .i64 a0_1] 29 ?_; intro gb229 hg w6 hbox hb; have n0_ := Aside0.mk (below_step lB hb); have n1_ := Aside0.mk (hbox); have n2_ := lG w hg; have n3_ := lG w hg; clear HB; have HB := n0_; have BK229 := n1_; have GW229 := n2_; have GE229 := n3_; clear n0_ n1_ n2_ n3_; clear hb hbox hg) | ((with_reducible refine gate_dst (N := 6) rfl ?_); (try (refine gate_guard (by rfl) ?_; dsimp only)); refine bxe 6 #[.int .i64 0, .int .i64 0, .slice none 0 0, .int .i64 0, .int .i64 0, .int .i64 0] 44 ?_; intro gb230 hg w7 hbox hb; have n0_ := Aside0.mk (blk_below (lK BK229.out) hb); have n1_ := Aside0.mk (below_step lB hb); have n2_ := Aside0.mk (hbox); have n3_ := lG w hg; have n4_ := lG w hg; have n5_ := Aside0.mk ((by rw [hg]; exact Nat.ne_of_lt (blk_lt (lK BK229.out)) : gb229 ≠ gb230)); have n6_ := Aside0.mk ((by rw [hg]; exact Nat.ne_of_gt (blk_lt (lK BK229.out)) : gb230 ≠ gb229)); clear BK229; clear HB; have BK229 := n0_; have HB := n1_; have BK230 := n2_; have GW230 := n3_; have GE230 := n4_; have NB229_230 := n5_; have NB230_229 := n6_; clear n0_ n1_ n2_ n3_ n4_ n5_ n6_; clear hb hbox hg; have hnb8 := NB229_230.out; have hnc8 := NB230_229.out; obtain ⟨hcz9_0, hfz9_0, hcz9_1, hfz9_1⟩ := bk2 BK229.out) | ((with_reducible refine gate_callee (f := 26) rfl ?_); refine gl_ (some 20) (Try.func26) #[.agg #[.slice A0_0 l0_0.length c0_0, .int .i64 a0_1], .int .i64 a1] ?_; (with_reducible refine (spec_NewCache.calls k _ _ l0_0 a0_1 a1 t231 t232 t233 t236 t237 t238 t239 _ ?side1 ?side2 A4.out).mono ?_); (case side1 => exact lC (Kd.C_below HR0_0.out HB.out)); (case side2 => exact HC0_0.out); rintro e w10 ⟨v234, rfl, ho0, hb⟩; refine ⟨_, rfl, ?_⟩; have n0_ := Aside0.mk (Kd.R_lower ho0 (below_size lB)); have n1_ := Aside0.mk (blk_below (lK BK229.out) hb); have n2_ := Aside0.mk (blk_below (lK BK230.out) hb); have n3_ := Aside0.mk (below_step lB hb); clear BK229; clear BK230; clear HB; have HO235 := n0_; have BK229 := n1_; have BK230 := n2_; have HB := n3_; clear n0_ n1_ n2_ n3_; (try clear hb); (try clear hb2); (try clear hk); (try clear hi); (try clear ho0)) | ((with_reducible refine gate_dst (N := 9) rfl ?_); (try (refine gate_guard (by rfl) ?_; dsimp only)); refine bxe 9 #[.int .i64 0, .int .i64 0, .slice none 0 0, .int .i64 0, .int .i64 0, .int .i64 0] 44 ?_; intro gb240 hg w11 hbox hb; have n0_ := Aside0.mk (Kd.R_below (lR HO235.out) hb); have n1_ := Aside0.mk (blk_below (lK BK229.out) hb); have n2_ := Aside0.mk (blk_below (lK BK230.out) hb); have n3_ := Aside0.mk (below_step lB hb); have n4_ := Aside0.mk (hbox); have n5_ := lG w hg; have n6_ := lG w hg; have n7_ := Aside0.mk ((by rw [hg]; exact Nat.ne_of_lt (blk_lt (lK BK229.out)) : gb229 ≠ gb240)); have n8_ := Aside0.mk ((by rw [hg]; exact Nat.ne_of_gt (blk_lt (lK BK229.out)) : gb240 ≠ gb229)); have n9_ := Aside0.mk ((by rw [hg]; exact Nat.ne_of_lt (blk_lt (lK BK230.out)) : gb230 ≠ gb240)); have n10_ := Aside0.mk ((by rw [hg]; exact Nat.ne_of_gt (blk_lt (lK BK230.out)) : gb240 ≠ gb230)); clear HO235; clear BK229; clear BK230; clear HB; have HO235 := n0_; have BK229 := n1_; have BK230 := n2_; have HB := n3_; have BK240 := n4_; have GW240 := n5_; have GE240 := n6_; have NB229_240 := n7_; have NB240_229 := n8_; have NB230_240 := n9_; have NB240_230 := n10_; clear n0_ n1_ n2_ n3_ n4_ n5_ n6_ n7_ n8_ n9_ n10_; clear hb hbox hg; have hnb12 := NB240_229.out; have hnc12 := NB229_240.out; have hnb13 := NB240_230.out; have hnc13 := NB230_240.out; obtain ⟨hcz14_0, hfz14_0, hcz14_1, hfz14_1, hcz14_2, hfz14_2, hcz14_3, hfz14_3, hcz14_4, hfz14_4, hcz14_5, hfz14_5⟩ := bk6 BK240.out; obtain ⟨Ao15, co15, eo15⟩ := Kd.R_slice HO235.out; subst eo15))
 (try simp only [Act.put, List.setIfInBounds_toArray, List.set_cons_zero, List.set_cons_succ])
 go_cut [29] (fun v29 wc => ∃ (kq : Nat) (x29_4 : Bool), v29 = .bool x29_4 ∧ Aside0 (spec_PlayCalls.j0 kq l2 x29_4 l0_0 a0_1 t231 t232 t233 t236 t237 t238 = some (r1, r2, r3, r4, r5, r6, r7, r8)) ∧ Aside0 (kq ≤ k) ∧ Aside0 (Kd.R k97 97 wc w.heap.size (fun _ => True) (.slice Ao15 t233.length co15) t233) ∧ Aside0 (wc.heap[gb229]? = some (.cells #[(.slice A0_0 l0_0.length c0_0), .int .i64 a0_1] 29 (0, 0))) ∧ Aside0 (wc.heap[gb230]? = some (.cells #[.int .i64 0, .int .i64 0, (.slice none 0 0), .int .i64 0, .int .i64 0, .int .i64 0] 44 (0, 0))) ∧ Aside0 (wc.heap[gb240]? = some (.cells #[.int .i64 t231, .int .i64 t232, (.slice Ao15 t233.length co15), .int .i64 t236, .int .i64 t237, .int .i64 t238] 44 (0, 0))) ∧ Aside0 (Below w.heap.size w wc))
 case first =>
  have H := HC5.out
  clear HC5
  by_cases c16 : t239 = true
  ·subst c16
   rw [if_pos rfl] at H
   have H' := Aside0.mk H
   clear H
   go_wp2
   go_meet
   case rel => exact ⟨_, (decide ((l2.length : Int) > 100)), lF, H', ⟨lN⟩, ⟨by (with_reducible repeat (first | apply Kd.R_alloc | apply Kd.R_drewN | apply Kd.R_drew)); exact Kd.R_mono (Kd.R_far (p := ⟨gb240, 5, none⟩) (Kd.R_far (p := ⟨gb240, 4, none⟩) (Kd.R_far (p := ⟨gb240, 3, none⟩) (Kd.R_far (p := ⟨gb240, 2, none⟩) (Kd.R_far (p := ⟨gb240, 1, none⟩) (Kd.R_far (p := ⟨gb240, 0, none⟩) (Kd.R_types HO235.out BK240.out (by decide)) (fun _ hk => hk.2) (.int .i64 t231)) (fun _ hk => hk.2) (.int .i64 t232)) (fun _ hk => hk.2) (.slice Ao15 t233.length co15)) (fun _ hk => hk.2) (.int .i64 t236)) (fun _ hk => hk.2) (.int .i64 t237)) (fun _ hk => hk.2) (.int .i64 t238)) (fun _ hk => trivial)⟩, ⟨lJ BK229.out⟩, ⟨lJ BK230.out⟩, ⟨by (with_reducible repeat first | apply bN | apply bD | apply bA); refine blk_put (cs := #[.int .i64 t231, .int .i64 t232, .slice Ao15 t233.length co15, .int .i64 t236, .int .i64 t237, .int .i64 0]) ?_ 5 _ rfl; (with_reducible repeat first | apply bN | apply bD | apply bA); refine blk_put (cs := #[.int .i64 t231, .int .i64 t232, .slice Ao15 t233.length co15, .int .i64 t236, .int .i64 0, .int .i64 0]) ?_ 4 _ rfl; (with_reducible repeat first | apply bN | apply bD | apply bA); refine blk_put (cs := #[.int .i64 t231, .int .i64 t232, .slice Ao15 t233.length co15, .int .i64 0, .int .i64 0, .int .i64 0]) ?_ 3 _ rfl; (with_reducible repeat first | apply bN | apply bD | apply bA); refine blk_put (cs := #[.int .i64 t231, .int .i64 t232, .slice none 0 0, .int .i64 0, .int .i64 0, .int .i64 0]) ?_ 2 _ rfl; (with_reducible repeat first | apply bN | apply bD | apply bA); refine blk_put (cs := #[.int .i64 t231, .int .i64 0, .slice none 0 0, .int .i64 0, .int .i64 0, .int .i64 0]) ?_ 1 _ rfl; (with_reducible repeat first | apply bN | apply bD | apply bA); refine blk_put (cs := #[.int .i64 0, .int .i64 0, .slice none 0 0, .int .i64 0, .int .i64 0, .int .i64 0]) ?_ 0 _ rfl; (with_reducible repeat first | apply bN | apply bD | apply bA); exact BK240.out⟩, ⟨lB⟩⟩
  ·replace c16 := Bool.eq_false_iff.mpr c16
   subst c16
   rw [if_neg (show ¬ (false = true) by decide)] at H
   have H' := Aside0.mk H
   clear H
   go_wp2
   go_meet
   case rel => exact ⟨_, (true), lF, H', ⟨lN⟩, ⟨by (with_reducible repeat (first | apply Kd.R_alloc | apply Kd.R_drewN | apply Kd.R_drew)); exact Kd.R_mono (Kd.R_far (p := ⟨gb240, 5, none⟩) (Kd.R_far (p := ⟨gb240, 4, none⟩) (Kd.R_far (p := ⟨gb240, 3, none⟩) (Kd.R_far (p := ⟨gb240, 2, none⟩) (Kd.R_far (p := ⟨gb240, 1, none⟩) (Kd.R_far (p := ⟨gb240, 0, none⟩) (Kd.R_types HO235.out BK240.out (by decide)) (fun _ hk => hk.2) (.int .i64 t231)) (fun _ hk => hk.2) (.int .i64 t232)) (fun _ hk => hk.2) (.slice Ao15 t233.length co15)) (fun _ hk => hk.2) (.int .i64 t236)) (fun _ hk => hk.2) (.int .i64 t237)) (fun _ hk => hk.2) (.int .i64 t238)) (fun _ hk => trivial)⟩, ⟨lJ BK229.out⟩, ⟨lJ BK230.out⟩, ⟨by (with_reducible repeat first | apply bN | apply bD | apply bA); refine blk_put (cs := #[.int .i64 t231, .int .i64 t232, .slice Ao15 t233.length co15, .int .i64 t236, .int .i64 t237, .int .i64 0]) ?_ 5 _ rfl; (with_reducible repeat first | apply bN | apply bD | apply bA); refine blk_put (cs := #[.int .i64 t231, .int .i64 t232, .slice Ao15 t233.length co15, .int .i64 t236, .int .i64 0, .int .i64 0]) ?_ 4 _ rfl; (with_reducible repeat first | apply bN | apply bD | apply bA); refine blk_put (cs := #[.int .i64 t231, .int .i64 t232, .slice Ao15 t233.length co15, .int .i64 0, .int .i64 0, .int .i64 0]) ?_ 3 _ rfl; (with_reducible repeat first | apply bN | apply bD | apply bA); refine blk_put (cs := #[.int .i64 t231, .int .i64 t232, .slice none 0 0, .int .i64 0, .int .i64 0, .int .i64 0]) ?_ 2 _ rfl; (with_reducible repeat first | apply bN | apply bD | apply bA); refine blk_put (cs := #[.int .i64 t231, .int .i64 0, .slice none 0 0, .int .i64 0, .int .i64 0, .int .i64 0]) ?_ 1 _ rfl; (with_reducible repeat first | apply bN | apply bD | apply bA); refine blk_put (cs := #[.int .i64 0, .int .i64 0, .slice none 0 0, .int .i64 0, .int .i64 0, .int .i64 0]) ?_ 0 _ rfl; (with_reducible repeat first | apply bN | apply bD | apply bA); exact BK240.out⟩, ⟨lB⟩⟩
 case rest =>
  clear HC5
  try clear c1
  try clear c2
  try clear p2
  try clear c4
  try clear c8
  try clear c12
  try clear c13
  try clear c16
  try clear hcz14_0 hcz14_1 hcz14_2 hcz14_3 hcz14_4 hcz14_5
  try clear hcz9_0 hcz9_1
  try clear hfz14_0 hfz14_1 hfz14_2 hfz14_3 hfz14_4 hfz14_5
  try clear hfz9_0 hfz9_1
  obtain ⟨kq, x29_4, rfl, HA, HJ4, HO_241002, BK229, BK230, BK240, HB⟩ := hcut
  cases kq with
  | zero => exact absurd HA.out (by simp [spec_PlayCalls.j0])
  | succ kj4 =>
   have H := HA.out
   clear HA
   simp only [spec_PlayCalls.j0] at H
   by_cases c17 : x29_4 = true
   ·subst c17
    rw [if_pos rfl] at H
    simp only [Option.some.injEq, Prod.mk.injEq] at H
    obtain ⟨rfl, rfl, rfl, rfl, rfl, rfl, rfl, rfl⟩ := H
    have hnb18 := NB230_229.out
    have hnc18 := NB229_230.out
    have hnb19 := NB230_240.out
    have hnc19 := NB240_230.out
    obtain ⟨hcz20_0, hfz20_0, hcz20_1, hfz20_1, hcz20_2, hfz20_2, hcz20_3, hfz20_3, hcz20_4, hfz20_4, hcz20_5, hfz20_5⟩ := bk6 BK230.out
    go_wp2
    refine bodyPost_ret (results_ctt rfl _ _ gb230 44 #[.int .i64 0, .int .i64 0, .slice none 0 0, .int .i64 0, .int .i64 0, .int .i64 0] (0, 0) _ rfl (by (with_reducible repeat first | apply bN | apply bD | apply bA); refine blk_put (cs := #[.int .i64 0, .int .i64 0, .slice none 0 0, .int .i64 0, .int .i64 0, .int .i64 0]) ?_ 5 _ rfl; (with_reducible repeat first | apply bN | apply bD | apply bA); refine blk_put (cs := #[.int .i64 0, .int .i64 0, .slice none 0 0, .int .i64 0, .int .i64 0, .int .i64 0]) ?_ 4 _ rfl; (with_reducible repeat first | apply bN | apply bD | apply bA); refine blk_put (cs := #[.int .i64 0, .int .i64 0, .slice none 0 0, .int .i64 0, .int .i64 0, .int .i64 0]) ?_ 3 _ rfl; (with_reducible repeat first | apply bN | apply bD | apply bA); refine blk_put (cs := #[.int .i64 0, .int .i64 0, .slice none 0 0, .int .i64 0, .int .i64 0, .int .i64 0]) ?_ 2 _ rfl; (with_reducible repeat first | apply bN | apply bD | apply bA); refine blk_put (cs := #[.int .i64 0, .int .i64 0, .slice none 0 0, .int .i64 0, .int .i64 0, .int .i64 0]) ?_ 1 _ rfl; (with_reducible repeat first | apply bN | apply bD | apply bA); refine blk_put (cs := #[.int .i64 0, .int .i64 0, .slice none 0 0, .int .i64 0, .int .i64 0, .int .i64 0]) ?_ 0 _ rfl; (with_reducible repeat first | apply bN | apply bD | apply bA); exact BK230.out) Try.underlying44 rfl (by kernel_rfl)) rfl ?_
    exact ⟨_, _, lE, by first | exact Kd.R_nil _ _ _ _ _ | exact Kd.N_nil _ _ _ _ _ | exact Kd.V_nil _ _ _ _ _ | exact Kd.Q_nil _ _ _ _ _ | exact Kd.S_nil _ _ _ _ _, by first | exact Kd.R_nil _ _ _ _ _ | exact Kd.N_nil _ _ _ _ _ | exact Kd.V_nil _ _ _ _ _ | exact Kd.Q_nil _ _ _ _ _ | exact Kd.S_nil _ _ _ _ _, lB⟩
   ·replace c17 := Bool.eq_false_iff.mpr c17
    subst c17
    rw [if_neg (show ¬ (false = true) by decide)] at H
    have H' := Aside0.mk H
    clear H
    go_wp2
    go_loopg [11, 33] kj4 (fun kq v11 v33 w' => ∃ (x11_2 : List Int) (x33_2 : Int) (x231000_2 : Int) (x231001_2 : Int) (x231003_2 : Int) (x231004_2 : Int) (x231005_2 : Int) (x241000_2 : Int) (x241001_2 : Int) (x241002_2 : List (S97)) (x241003_2 : Int) (x241004_2 : Int) (x241005_2 : Int) (u241002 : Value), v33 = .int .i64 x33_2 ∧ Aside0 (spec_PlayCalls.l0 kq x11_2 l2 (l2.length : Int) x33_2 l0_0 a0_1 x241000_2 x241001_2 x241002_2 x241003_2 x241004_2 x241005_2 = some (r1, r2, r3, r4, r5, r6, r7, r8)) ∧ Aside0 (kq ≤ kj4) ∧ Aside0 (Kd.R (Kd.int .i64) 3 w' w.heap.size (fun _ => True) v11 x11_2) ∧ Aside0 (Kd.R k97 97 w' w.heap.size (fun _ => True) u241002 x241002_2) ∧ Aside0 (w'.heap[gb229]? = some (.cells #[(.slice A0_0 l0_0.length c0_0), .int .i64 a0_1] 29 (0, 0))) ∧ Aside0 (w'.heap[gb230]? = some (.cells #[.int .i64 x231000_2, .int .i64 x231001_2, (.slice none 0 0), .int .i64 x231003_2, .int .i64 x231004_2, .int .i64 x231005_2] 44 (0, 0))) ∧ Aside0 (w'.heap[gb240]? = some (.cells #[.int .i64 x241000_2, .int .i64 x241001_2, u241002, .int .i64 x241003_2, .int .i64 x241004_2, .int .i64 x241005_2] 44 (0, 0))) ∧ Aside0 (Below w.heap.size w w'))
    case atStart => exact ⟨(([] : List Int)), (0), (0), (0), (0), (0), (0), (t231), (t232), (t233), (t236), (t237), (t238), (.slice Ao15 t233.length co15), lF, H', ⟨Nat.le_refl _⟩, ⟨by first | exact Kd.R_nil _ _ _ _ _ | exact Kd.N_nil _ _ _ _ _ | exact Kd.V_nil _ _ _ _ _ | exact Kd.Q_nil _ _ _ _ _ | exact Kd.S_nil _ _ _ _ _⟩, ⟨lR HO_241002.out⟩, ⟨lK BK229.out⟩, ⟨lK BK230.out⟩, ⟨lK BK240.out⟩, ⟨lB⟩⟩
    case round =>
     clear H'
     try clear c1
     try clear c2
     try clear p2
     try clear c4
     try clear c8
     try clear c12
     try clear c13
     try clear c16
     try clear c17
     try clear c18
     try clear c19
     try clear hcz14_0 hcz14_1 hcz14_2 hcz14_3 hcz14_4 hcz14_5
     try clear hcz20_0 hcz20_1 hcz20_2 hcz20_3 hcz20_4 hcz20_5
     try clear hcz9_0 hcz9_1
     try clear hfz14_0 hfz14_1 hfz14_2 hfz14_3 hfz14_4 hfz14_5
     try clear hfz20_0 hfz20_1 hfz20_2 hfz20_3 hfz20_4 hfz20_5
     try clear hfz9_0 hfz9_1
     try clear p2
     obtain ⟨x11_2, x33_2, x231000_2, x231001_2, x231003_2, x231004_2, x231005_2, x241000_2, x241001_2, x241002_2, x241003_2, x241004_2, x241005_2, u241002, rfl, HA, HK2, HO_11, HO_241002, BK229, BK230, BK240, HB⟩ := hrel
     cases gk with
     | zero => exact absurd HA.out (by simp [spec_PlayCalls.l0])
     | succ k2 =>
      have H := HA.out
      clear HA
      simp only [spec_PlayCalls.l0] at H
      by_cases c21 : x33_2 < (l2.length : Int)
      ·rw [if_pos c21] at H
       have c21b0 : decide (x33_2 < (l2.length : Int)) = true := decide_eq_true c21
       clear c21
       by_cases c22 : 0 ≤ x33_2
       ·rw [if_pos c22] at H
        have c22b0 : decide (0 ≤ x33_2) = true := decide_eq_true c22
        clear c22
        by_cases c23 : x33_2 < (l2.length : Int)
        ·rw [if_pos c23] at H
         have c23b0 : decide (x33_2 < (l2.length : Int)) = true := decide_eq_true c23
         clear c23
         replace H := Option.bind_eq_some_iff.mp H
         obtain ⟨⟨t242, t243, t244, t247, t248, t249, t250, t251⟩, A240, H⟩ := H
         replace H : (if t251 = true then (if x11_2.length < 17592186044416 then (spec_PlayCalls.l0 k2 (x11_2 ++ [t250]) l2 (l2.length : Int) (wrap64 (x33_2 + 1)) l0_0 a0_1 t242 t243 t244 t247 t248 t249) else (none)) else (some (0, 0, ([] : List (S97)), 0, 0, 0, ([] : List Int), false))) = some (r1, r2, r3, r4, r5, r6, r7, r8) := H
         have A24 := Aside0.mk A240
         clear A240
         by_cases c25 : t251 = true
         ·subst c25
          rw [if_pos rfl] at H
          by_cases c26 : x11_2.length < 17592186044416
          ·rw [if_pos c26] at H
           have LMc26 := Aside0.mk c26
           clear c26
           obtain ⟨y253, hy253⟩ : ∃ y_ : List Int, y_ = (x11_2 ++ [t250]) := ⟨_, rfl⟩
           replace H : (spec_PlayCalls.l0 k2 y253 l2 (l2.length : Int) (wrap64 (x33_2 + 1)) l0_0 a0_1 t242 t243 t244 t247 t248 t249) = some (r1, r2, r3, r4, r5, r6, r7, r8) := by first | (rw [hy253]; with_reducible exact H) | (have H2_ := (Option.bind_some _ _).symm.trans H; rw [hy253]; with_reducible exact H2_) | (have H2_ := (Option.bind_some _ _).symm.trans H; with_reducible exact H2_) | with_reducible exact H | (rw [hy253]; exact H) | exact H
           have Ny253 := Aside0.mk hy253
           clear hy253
           have H' := Aside0.mk H
           clear H
           have p241 : 0 ≤ (x33_2 : Int) := lD
           have q241 : x33_2 < (l2.length : Int) := lD
           obtain ⟨ad241, e241, hx241_0⟩ := Kd.at_int HR2.out x33_2 p241 q241
           cases e241
           replace hx241_0 := pw_cell_below HB.out hx241_0
           replace p241 := eq_true p241
           replace q241 := eq_true q241
           have hnb27 := NB229_230.out
           have hnc27 := NB230_229.out
           have hnb28 := NB229_240.out
           have hnc28 := NB240_229.out
           obtain ⟨hcz29_0, hfz29_0, hcz29_1, hfz29_1⟩ := bk2 BK229.out
           have hnb30 := NB240_230.out
           have hnc30 := NB230_240.out
           obtain ⟨hcz31_0, hfz31_0, hcz31_1, hfz31_1, hcz31_2, hfz31_2, hcz31_3, hfz31_3, hcz31_4, hfz31_4, hcz31_5, hfz31_5⟩ := bk6 BK240.out
           obtain ⟨Ao32, co32, eo32⟩ := Kd.R_slice HO_241002.out
           subst eo32
           go_wp2_with (first | ((with_reducible refine gate_callee (f := 41) rfl ?_); refine gl_ (some 41) (Try.func41) #[.agg #[.slice A0_0 l0_0.length c0_0, .int .i64 a0_1], .agg #[.int .i64 x241000_2, .int .i64 x241001_2, .slice Ao32 x241002_2.length co32, .int .i64 x241003_2, .int .i64 x241004_2, .int .i64 x241005_2], .int .i64 (rd l2 x33_2)] ?_; (with_reducible refine (spec_CallBy.calls k2 _ _ l0_0 a0_1 x241000_2 x241001_2 _ _ x241002_2 x241003_2 x241004_2 x241005_2 (rd l2 x33_2) t242 t243 t244 t247 t248 t249 t250 true _ ?side1 ?side2 ?side3 ?side4 A24.out).mono ?_); (case side1 => exact lC (Kd.C_below HR0_0.out HB.out)); (case side2 => exact HC0_0.out); (case side3 => repeat (first | exact (Kd.R_reads' HO_241002.out).2.2 | (with_reducible refine Kd.C_alloc ?_ _) | (with_reducible refine Kd.C_drewN ?_ _) | (with_reducible refine Kd.C_drew ?_))); (case side4 => exact (Kd.R_reads' HO_241002.out).2.1); rintro e w33 ⟨v245, rfl, ho0, hb⟩; refine ⟨_, rfl, ?_⟩; have n0_ := Aside0.mk (Kd.R_below (lR HO_11.out) hb); have n1_ := Aside0.mk (Kd.R_elder' (lR HO_241002.out) (Kd.R_base ho0) hb); have n2_ := Aside0.mk (Kd.R_lower (Kd.R_new' ho0 (Kd.R_lt (lR HO_241002.out))) (below_size lB)); have n3_ := Aside0.mk (blk_below (lK BK229.out) hb); have n4_ := Aside0.mk (blk_below (lK BK230.out) hb); have n5_ := Aside0.mk (blk_below (lK BK240.out) hb); have n6_ := Aside0.mk (below_step lB hb); clear HO_11; clear HO_241002; clear BK229; clear BK230; clear BK240; clear HB; have HO_11 := n0_; have HO_241002 := n1_; have HO246 := n2_; have BK229 := n3_; have BK230 := n4_; have BK240 := n5_; have HB := n6_; clear n0_ n1_ n2_ n3_ n4_ n5_ n6_; (try clear hb); (try clear hb2); (try clear hk); (try clear hi); (try clear ho0)) | ((with_reducible refine gate_dst (N := 14) rfl ?_); (try (refine gate_guard (by rfl) ?_; dsimp only)); refine bxe 14 #[.int .i64 0, .int .i64 0, .slice none 0 0, .int .i64 0, .int .i64 0, .int .i64 0] 44 ?_; intro gb252 hg w34 hbox hb; have n0_ := Aside0.mk (Kd.R_below (lR HO_11.out) hb); have n1_ := Aside0.mk (Kd.R_below (lR HO_241002.out) hb); have n2_ := Aside0.mk (Kd.R_below (lR HO246.out) hb); have n3_ := Aside0.mk (blk_below (lK BK229.out) hb); have n4_ := Aside0.mk (blk_below (lK BK230.out) hb); have n5_ := Aside0.mk (blk_below (lK BK240.out) hb); have n6_ := Aside0.mk (below_step lB hb); have n7_ := Aside0.mk (hbox); have n8_ := lG w hg; have n9_ := lG w hg; have n10_ := Aside0.mk ((by rw [hg]; exact Nat.ne_of_lt (blk_lt (lK BK229.out)) : gb229 ≠ gb252)); have n11_ := Aside0.mk ((by rw [hg]; exact Nat.ne_of_gt (blk_lt (lK BK229.out)) : gb252 ≠ gb229)); have n12_ := Aside0.mk ((by rw [hg]; exact Nat.ne_of_lt (blk_lt (lK BK230.out)) : gb230 ≠ gb252)); have n13_ := Aside0.mk ((by rw [hg]; exact Nat.ne_of_gt (blk_lt (lK BK230.out)) : gb252 ≠ gb230)); have n14_ := Aside0.mk ((by rw [hg]; exact Nat.ne_of_lt (blk_lt (lK BK240.out)) : gb240 ≠ gb252)); have n15_ := Aside0.mk ((by rw [hg]; exact Nat.ne_of_gt (blk_lt (lK BK240.out)) : gb252 ≠ gb240)); clear HO_11; clear HO_241002; clear HO246; clear BK229; clear BK230; clear BK240; clear HB; have HO_11 := n0_; have HO_241002 := n1_; have HO246 := n2_; have BK229 := n3_; have BK230 := n4_; have BK240 := n5_; have HB := n6_; have BK252 := n7_; have GW252 := n8_; have GE252 := n9_; have NB229_252 := n10_; have NB252_229 := n11_; have NB230_252 := n12_; have NB252_230 := n13_; have NB240_252 := n14_; have NB252_240 := n15_; clear n0_ n1_ n2_ n3_ n4_ n5_ n6_ n7_ n8_ n9_ n10_ n11_ n12_ n13_ n14_ n15_; clear hb hbox hg; have hnb35 := NB252_229.out; have hnc35 := NB229_252.out; have hnb36 := NB252_230.out; have hnc36 := NB230_252.out; have hnb37 := NB252_240.out; have hnc37 := NB240_252.out; obtain ⟨hcz38_0, hfz38_0, hcz38_1, hfz38_1, hcz38_2, hfz38_2, hcz38_3, hfz38_3, hcz38_4, hfz38_4, hcz38_5, hfz38_5⟩ := bk6 BK252.out; obtain ⟨Ao39, co39, eo39⟩ := Kd.R_slice HO246.out; subst eo39; obtain ⟨hcz40_0, hfz40_0, hcz40_1, hfz40_1, hcz40_2, hfz40_2, hcz40_3, hfz40_3, hcz40_4, hfz40_4, hcz40_5, hfz40_5⟩ := bk6 BK240.out) | ((with_reducible refine gate_builtin (b := .append) (xs := #[.tmp 49, .tmp 51]) rfl ?_); (try (refine gate_guard (by rfl) ?_; dsimp only)); at_builtin; refine Kd.R_append (Kd.int .i64) (w0 := w) w.heap.size rfl (.tmp 49) (.tmp 51) 68 3 (.int .i64 0) 8 rfl Try.underlying68 info3 rfl (by decide) (by omega) u11 x11_2 t250 [.int .i64 t250] (fun _ => True) (fun _ => False) rfl (by first | (go_simp; done) | (go_simp; rfl)) ?aP (fun _ hk => hk.elim) ?aF ?aO ?aB ?aS ?aL ?_; (case aP => exact rfl); (case aB => exact lB); (case aF => exact (fun _ _ => trivial)); (case aO => exact (by (with_reducible repeat (first | apply Kd.R_alloc | apply Kd.R_drewN | apply Kd.R_drew)); exact Kd.R_mono (Kd.R_far (p := ⟨gb240, 5, none⟩) (Kd.R_far (p := ⟨gb240, 4, none⟩) (Kd.R_far (p := ⟨gb240, 3, none⟩) (Kd.R_far (p := ⟨gb240, 2, none⟩) (Kd.R_far (p := ⟨gb240, 1, none⟩) (Kd.R_far (p := ⟨gb240, 0, none⟩) (Kd.R_far (p := ⟨gb252, 5, none⟩) (Kd.R_far (p := ⟨gb252, 4, none⟩) (Kd.R_far (p := ⟨gb252, 3, none⟩) (Kd.R_far (p := ⟨gb252, 2, none⟩) (Kd.R_far (p := ⟨gb252, 1, none⟩) (Kd.R_far (p := ⟨gb252, 0, none⟩) (Kd.R_types (Kd.R_types HO_11.out BK252.out (by decide)) BK240.out (by decide)) (fun _ hk => hk.1.2) (.int .i64 t242)) (fun _ hk => hk.1.2) (.int .i64 t243)) (fun _ hk => hk.1.2) (.slice Ao39 t244.length co39)) (fun _ hk => hk.1.2) (.int .i64 t247)) (fun _ hk => hk.1.2) (.int .i64 t248)) (fun _ hk => hk.1.2) (.int .i64 t249)) (fun _ hk => hk.2) (.int .i64 t242)) (fun _ hk => hk.2) (.int .i64 t243)) (fun _ hk => hk.2) (.slice Ao39 t244.length co39)) (fun _ hk => hk.2) (.int .i64 t247)) (fun _ hk => hk.2) (.int .i64 t248)) (fun _ hk => hk.2) (.int .i64 t249)) (fun _ hk => trivial))); (case aS => exact (below_size lB)); (case aL => have := LMc26.out; omega); intro v254 w41 ho hb hg hat; rw [← Ny253.out] at ho; have n0_ := Aside0.mk (Kd.R_over' (by (with_reducible repeat (first | apply Kd.R_alloc | apply Kd.R_drewN | apply Kd.R_drew)); exact (Kd.R_mono (Kd.R_mono (Kd.R_far (p := ⟨gb240, 5, none⟩) (Kd.R_far (p := ⟨gb240, 4, none⟩) (Kd.R_far (p := ⟨gb240, 3, none⟩) (Kd.R_far (p := ⟨gb240, 2, none⟩) (Kd.R_far (p := ⟨gb240, 1, none⟩) (Kd.R_far (p := ⟨gb240, 0, none⟩) (Kd.R_far (p := ⟨gb252, 5, none⟩) (Kd.R_far (p := ⟨gb252, 4, none⟩) (Kd.R_far (p := ⟨gb252, 3, none⟩) (Kd.R_far (p := ⟨gb252, 2, none⟩) (Kd.R_far (p := ⟨gb252, 1, none⟩) (Kd.R_far (p := ⟨gb252, 0, none⟩) (Kd.R_types (Kd.R_types HO_241002.out BK252.out (by decide)) BK240.out (by decide)) (fun _ hk => hk.1.2) (.int .i64 t242)) (fun _ hk => hk.1.2) (.int .i64 t243)) (fun _ hk => hk.1.2) (.slice Ao39 t244.length co39)) (fun _ hk => hk.1.2) (.int .i64 t247)) (fun _ hk => hk.1.2) (.int .i64 t248)) (fun _ hk => hk.1.2) (.int .i64 t249)) (fun _ hk => hk.2) (.int .i64 t242)) (fun _ hk => hk.2) (.int .i64 t243)) (fun _ hk => hk.2) (.slice Ao39 t244.length co39)) (fun _ hk => hk.2) (.int .i64 t247)) (fun _ hk => hk.2) (.int .i64 t248)) (fun _ hk => hk.2) (.int .i64 t249)) (fun _ h_ => h_.1)) (fun _ h_ => h_.1))) (Kd.R_typed (by (with_reducible repeat (first | apply Kd.R_alloc | apply Kd.R_drewN | apply Kd.R_drew)); exact (Kd.R_mono (Kd.R_mono (Kd.R_far (p := ⟨gb240, 5, none⟩) (Kd.R_far (p := ⟨gb240, 4, none⟩) (Kd.R_far (p := ⟨gb240, 3, none⟩) (Kd.R_far (p := ⟨gb240, 2, none⟩) (Kd.R_far (p := ⟨gb240, 1, none⟩) (Kd.R_far (p := ⟨gb240, 0, none⟩) (Kd.R_far (p := ⟨gb252, 5, none⟩) (Kd.R_far (p := ⟨gb252, 4, none⟩) (Kd.R_far (p := ⟨gb252, 3, none⟩) (Kd.R_far (p := ⟨gb252, 2, none⟩) (Kd.R_far (p := ⟨gb252, 1, none⟩) (Kd.R_far (p := ⟨gb252, 0, none⟩) (Kd.R_types (Kd.R_types HO_11.out BK252.out (by decide)) BK240.out (by decide)) (fun _ hk => hk.1.2) (.int .i64 t242)) (fun _ hk => hk.1.2) (.int .i64 t243)) (fun _ hk => hk.1.2) (.slice Ao39 t244.length co39)) (fun _ hk => hk.1.2) (.int .i64 t247)) (fun _ hk => hk.1.2) (.int .i64 t248)) (fun _ hk => hk.1.2) (.int .i64 t249)) (fun _ hk => hk.2) (.int .i64 t242)) (fun _ hk => hk.2) (.int .i64 t243)) (fun _ hk => hk.2) (.slice Ao39 t244.length co39)) (fun _ hk => hk.2) (.int .i64 t247)) (fun _ hk => hk.2) (.int .i64 t248)) (fun _ hk => hk.2) (.int .i64 t249)) (fun _ h_ => h_.1)) (fun _ h_ => h_.1)))) (by decide) hg); have n1_ := Aside0.mk (blk_grown (lJ BK229.out) hg (Kd.R_ne HO_11.out BK229.out (by decide))); have n2_ := Aside0.mk (blk_grown (lJ BK230.out) hg (Kd.R_ne HO_11.out BK230.out (by decide))); have n3_ := Aside0.mk (blk_grown (g := gb240) (o := .cells #[.int .i64 t242, .int .i64 t243, .slice Ao39 t244.length co39, .int .i64 t247, .int .i64 t248, .int .i64 t249] 44 (0, 0)) (by (with_reducible repeat first | apply bN | apply bD | apply bA); refine blk_put (cs := #[.int .i64 t242, .int .i64 t243, .slice Ao39 t244.length co39, .int .i64 t247, .int .i64 t248, .int .i64 x241005_2]) ?_ 5 _ rfl; (with_reducible repeat first | apply bN | apply bD | apply bA); refine blk_put (cs := #[.int .i64 t242, .int .i64 t243, .slice Ao39 t244.length co39, .int .i64 t247, .int .i64 x241004_2, .int .i64 x241005_2]) ?_ 4 _ rfl; (with_reducible repeat first | apply bN | apply bD | apply bA); refine blk_put (cs := #[.int .i64 t242, .int .i64 t243, .slice Ao39 t244.length co39, .int .i64 x241003_2, .int .i64 x241004_2, .int .i64 x241005_2]) ?_ 3 _ rfl; (with_reducible repeat first | apply bN | apply bD | apply bA); refine blk_put (cs := #[.int .i64 t242, .int .i64 t243, .slice Ao32 x241002_2.length co32, .int .i64 x241003_2, .int .i64 x241004_2, .int .i64 x241005_2]) ?_ 2 _ rfl; (with_reducible repeat first | apply bN | apply bD | apply bA); refine blk_put (cs := #[.int .i64 t242, .int .i64 x241001_2, .slice Ao32 x241002_2.length co32, .int .i64 x241003_2, .int .i64 x241004_2, .int .i64 x241005_2]) ?_ 1 _ rfl; (with_reducible repeat first | apply bN | apply bD | apply bA); refine blk_put (cs := #[.int .i64 x241000_2, .int .i64 x241001_2, .slice Ao32 x241002_2.length co32, .int .i64 x241003_2, .int .i64 x241004_2, .int .i64 x241005_2]) ?_ 0 _ rfl; (with_reducible repeat first | apply bN | apply bD | apply bA); refine blk_far ?_ NB240_252.out _; (with_reducible repeat first | apply bN | apply bD | apply bA); refine blk_far ?_ NB240_252.out _; (with_reducible repeat first | apply bN | apply bD | apply bA); refine blk_far ?_ NB240_252.out _; (with_reducible repeat first | apply bN | apply bD | apply bA); refine blk_far ?_ NB240_252.out _; (with_reducible repeat first | apply bN | apply bD | apply bA); refine blk_far ?_ NB240_252.out _; (with_reducible repeat first | apply bN | apply bD | apply bA); refine blk_far ?_ NB240_252.out _; (with_reducible repeat first | apply bN | apply bD | apply bA); exact BK240.out) hg (Kd.R_ne HO_11.out BK240.out (by decide))); have n4_ := Aside0.mk (Kd.R_over' (by (with_reducible repeat (first | apply Kd.R_alloc | apply Kd.R_drewN | apply Kd.R_drew)); exact (Kd.R_mono (Kd.R_mono (Kd.R_far (p := ⟨gb240, 5, none⟩) (Kd.R_far (p := ⟨gb240, 4, none⟩) (Kd.R_far (p := ⟨gb240, 3, none⟩) (Kd.R_far (p := ⟨gb240, 2, none⟩) (Kd.R_far (p := ⟨gb240, 1, none⟩) (Kd.R_far (p := ⟨gb240, 0, none⟩) (Kd.R_far (p := ⟨gb252, 5, none⟩) (Kd.R_far (p := ⟨gb252, 4, none⟩) (Kd.R_far (p := ⟨gb252, 3, none⟩) (Kd.R_far (p := ⟨gb252, 2, none⟩) (Kd.R_far (p := ⟨gb252, 1, none⟩) (Kd.R_far (p := ⟨gb252, 0, none⟩) (Kd.R_types (Kd.R_types HO246.out BK252.out (by decide)) BK240.out (by decide)) (fun _ hk => hk.1.2) (.int .i64 t242)) (fun _ hk => hk.1.2) (.int .i64 t243)) (fun _ hk => hk.1.2) (.slice Ao39 t244.length co39)) (fun _ hk => hk.1.2) (.int .i64 t247)) (fun _ hk => hk.1.2) (.int .i64 t248)) (fun _ hk => hk.1.2) (.int .i64 t249)) (fun _ hk => hk.2) (.int .i64 t242)) (fun _ hk => hk.2) (.int .i64 t243)) (fun _ hk => hk.2) (.slice Ao39 t244.length co39)) (fun _ hk => hk.2) (.int .i64 t247)) (fun _ hk => hk.2) (.int .i64 t248)) (fun _ hk => hk.2) (.int .i64 t249)) (fun _ h_ => h_.1)) (fun _ h_ => h_.1))) (Kd.R_typed (by (with_reducible repeat (first | apply Kd.R_alloc | apply Kd.R_drewN | apply Kd.R_drew)); exact (Kd.R_mono (Kd.R_mono (Kd.R_far (p := ⟨gb240, 5, none⟩) (Kd.R_far (p := ⟨gb240, 4, none⟩) (Kd.R_far (p := ⟨gb240, 3, none⟩) (Kd.R_far (p := ⟨gb240, 2, none⟩) (Kd.R_far (p := ⟨gb240, 1, none⟩) (Kd.R_far (p := ⟨gb240, 0, none⟩) (Kd.R_far (p := ⟨gb252, 5, none⟩) (Kd.R_far (p := ⟨gb252, 4, none⟩) (Kd.R_far (p := ⟨gb252, 3, none⟩) (Kd.R_far (p := ⟨gb252, 2, none⟩) (Kd.R_far (p := ⟨gb252, 1, none⟩) (Kd.R_far (p := ⟨gb252, 0, none⟩) (Kd.R_types (Kd.R_types HO_11.out BK252.out (by decide)) BK240.out (by decide)) (fun _ hk => hk.1.2) (.int .i64 t242)) (fun _ hk => hk.1.2) (.int .i64 t243)) (fun _ hk => hk.1.2) (.slice Ao39 t244.length co39)) (fun _ hk => hk.1.2) (.int .i64 t247)) (fun _ hk => hk.1.2) (.int .i64 t248)) (fun _ hk => hk.1.2) (.int .i64 t249)) (fun _ hk => hk.2) (.int .i64 t242)) (fun _ hk => hk.2) (.int .i64 t243)) (fun _ hk => hk.2) (.slice Ao39 t244.length co39)) (fun _ hk => hk.2) (.int .i64 t247)) (fun _ hk => hk.2) (.int .i64 t248)) (fun _ hk => hk.2) (.int .i64 t249)) (fun _ h_ => h_.1)) (fun _ h_ => h_.1)))) (by decide) hg); have n5_ := Aside0.mk (blk_grown (g := gb252) (o := .cells #[.int .i64 t242, .int .i64 t243, .slice Ao39 t244.length co39, .int .i64 t247, .int .i64 t248, .int .i64 t249] 44 (0, 0)) (by (with_reducible repeat first | apply bN | apply bD | apply bA); refine blk_far ?_ NB252_240.out _; (with_reducible repeat first | apply bN | apply bD | apply bA); refine blk_far ?_ NB252_240.out _; (with_reducible repeat first | apply bN | apply bD | apply bA); refine blk_far ?_ NB252_240.out _; (with_reducible repeat first | apply bN | apply bD | apply bA); refine blk_far ?_ NB252_240.out _; (with_reducible repeat first | apply bN | apply bD | apply bA); refine blk_far ?_ NB252_240.out _; (with_reducible repeat first | apply bN | apply bD | apply bA); refine blk_far ?_ NB252_240.out _; (with_reducible repeat first | apply bN | apply bD | apply bA); refine blk_put (cs := #[.int .i64 t242, .int .i64 t243, .slice Ao39 t244.length co39, .int .i64 t247, .int .i64 t248, .int .i64 0]) ?_ 5 _ rfl; (with_reducible repeat first | apply bN | apply bD | apply bA); refine blk_put (cs := #[.int .i64 t242, .int .i64 t243, .slice Ao39 t244.length co39, .int .i64 t247, .int .i64 0, .int .i64 0]) ?_ 4 _ rfl; (with_reducible repeat first | apply bN | apply bD | apply bA); refine blk_put (cs := #[.int .i64 t242, .int .i64 t243, .slice Ao39 t244.length co39, .int .i64 0, .int .i64 0, .int .i64 0]) ?_ 3 _ rfl; (with_reducible repeat first | apply bN | apply bD | apply bA); refine blk_put (cs := #[.int .i64 t242, .int .i64 t243, .slice none 0 0, .int .i64 0, .int .i64 0, .int .i64 0]) ?_ 2 _ rfl; (with_reducible repeat first | apply bN | apply bD | apply bA); refine blk_put (cs := #[.int .i64 t242, .int .i64 0, .slice none 0 0, .int .i64 0, .int .i64 0, .int .i64 0]) ?_ 1 _ rfl; (with_reducible repeat first | apply bN | apply bD | apply bA); refine blk_put (cs := #[.int .i64 0, .int .i64 0, .slice none 0 0, .int .i64 0, .int .i64 0, .int .i64 0]) ?_ 0 _ rfl; (with_reducible repeat first | apply bN | apply bD | apply bA); exact BK252.out) hg (Kd.R_ne HO_11.out BK252.out (by decide))); have n6_ := Aside0.mk (hb); have n7_ := Aside0.mk (ho); clear HO_241002; clear BK229; clear BK230; clear BK240; clear HO246; clear BK252; clear HB; clear HO_11; have HO_241002 := n0_; have BK229 := n1_; have BK230 := n2_; have BK240 := n3_; have HO246 := n4_; have BK252 := n5_; have HB := n6_; have HO255 := n7_; clear n0_ n1_ n2_ n3_ n4_ n5_ n6_ n7_; clear ho hb hg hat))
           go_roundg k2
           case measure => have := HJ4.out; have := HK2.out; omega
           case rel => exact ⟨(y253), (wrap64 (x33_2 + 1)), (x231000_2), (x231001_2), (x231003_2), (x231004_2), (x231005_2), (t242), (t243), (t244), (t247), (t248), (t249), (.slice Ao39 t244.length co39), lF, H', ⟨by have := HJ4.out; have := HK2.out; omega⟩, ⟨lR HO255.out⟩, ⟨by (with_reducible repeat (first | apply Kd.R_alloc | apply Kd.R_drewN | apply Kd.R_drew)); exact Kd.R_mono HO246.out (fun _ hk => trivial)⟩, ⟨lK BK229.out⟩, ⟨lK BK230.out⟩, ⟨lK BK240.out⟩, ⟨lB⟩⟩
          ·rw [if_neg c26] at H
           exact absurd H (by simp)
         ·replace c25 := Bool.eq_false_iff.mpr c25
          subst c25
          rw [if_neg (show ¬ (false = true) by decide)] at H
          simp only [Option.some.injEq, Prod.mk.injEq] at H
          obtain ⟨rfl, rfl, rfl, rfl, rfl, rfl, rfl, rfl⟩ := H
          have p241 : 0 ≤ (x33_2 : Int) := lD
          have q241 : x33_2 < (l2.length : Int) := lD
          obtain ⟨ad241, e241, hx241_0⟩ := Kd.at_int HR2.out x33_2 p241 q241
          cases e241
          replace hx241_0 := pw_cell_below HB.out hx241_0
          replace p241 := eq_true p241
          replace q241 := eq_true q241
          have hnb42 := NB229_230.out
          have hnc42 := NB230_229.out
          have hnb43 := NB229_240.out
          have hnc43 := NB240_229.out
          obtain ⟨hcz44_0, hfz44_0, hcz44_1, hfz44_1⟩ := bk2 BK229.out
          have hnb45 := NB240_230.out
          have hnc45 := NB230_240.out
          obtain ⟨hcz46_0, hfz46_0, hcz46_1, hfz46_1, hcz46_2, hfz46_2, hcz46_3, hfz46_3, hcz46_4, hfz46_4, hcz46_5, hfz46_5⟩ := bk6 BK240.out
          obtain ⟨Ao47, co47, eo47⟩ := Kd.R_slice HO_241002.out
          subst eo47
          go_wp2_with (first | ((with_reducible refine gate_callee (f := 41) rfl ?_); refine gl_ (some 41) (Try.func41) #[.agg #[.slice A0_0 l0_0.length c0_0, .int .i64 a0_1], .agg #[.int .i64 x241000_2, .int .i64 x241001_2, .slice Ao47 x241002_2.length co47, .int .i64 x241003_2, .int .i64 x241004_2, .int .i64 x241005_2], .int .i64 (rd l2 x33_2)] ?_; (with_reducible refine (spec_CallBy.calls k2 _ _ l0_0 a0_1 x241000_2 x241001_2 _ _ x241002_2 x241003_2 x241004_2 x241005_2 (rd l2 x33_2) t242 t243 t244 t247 t248 t249 t250 false _ ?side1 ?side2 ?side3 ?side4 A24.out).mono ?_); (case side1 => exact lC (Kd.C_below HR0_0.out HB.out)); (case side2 => exact HC0_0.out); (case side3 => repeat (first | exact (Kd.R_reads' HO_241002.out).2.2 | (with_reducible refine Kd.C_alloc ?_ _) | (with_reducible refine Kd.C_drewN ?_ _) | (with_reducible refine Kd.C_drew ?_))); (case side4 => exact (Kd.R_reads' HO_241002.out).2.1); rintro e w48 ⟨v245, rfl, ho0, hb⟩; refine ⟨_, rfl, ?_⟩; have n0_ := Aside0.mk (Kd.R_below (lR HO_11.out) hb); have n1_ := Aside0.mk (Kd.R_elder' (lR HO_241002.out) (Kd.R_base ho0) hb); have n2_ := Aside0.mk (Kd.R_lower (Kd.R_new' ho0 (Kd.R_lt (lR HO_241002.out))) (below_size lB)); have n3_ := Aside0.mk (blk_below (lK BK229.out) hb); have n4_ := Aside0.mk (blk_below (lK BK230.out) hb); have n5_ := Aside0.mk (blk_below (lK BK240.out) hb); have n6_ := Aside0.mk (below_step lB hb); clear HO_11; clear HO_241002; clear BK229; clear BK230; clear BK240; clear HB; have HO_11 := n0_; have HO_241002 := n1_; have HO246 := n2_; have BK229 := n3_; have BK230 := n4_; have BK240 := n5_; have HB := n6_; clear n0_ n1_ n2_ n3_ n4_ n5_ n6_; (try clear hb); (try clear hb2); (try clear hk); (try clear hi); (try clear ho0)) | ((with_reducible refine gate_dst (N := 14) rfl ?_); (try (refine gate_guard (by rfl) ?_; dsimp only)); refine bxe 14 #[.int .i64 0, .int .i64 0, .slice none 0 0, .int .i64 0, .int .i64 0, .int .i64 0] 44 ?_; intro gb252 hg w49 hbox hb; have n0_ := Aside0.mk (Kd.R_below (lR HO_11.out) hb); have n1_ := Aside0.mk (Kd.R_below (lR HO_241002.out) hb); have n2_ := Aside0.mk (Kd.R_below (lR HO246.out) hb); have n3_ := Aside0.mk (blk_below (lK BK229.out) hb); have n4_ := Aside0.mk (blk_below (lK BK230.out) hb); have n5_ := Aside0.mk (blk_below (lK BK240.out) hb); have n6_ := Aside0.mk (below_step lB hb); have n7_ := Aside0.mk (hbox); have n8_ := lG w hg; have n9_ := lG w hg; have n10_ := Aside0.mk ((by rw [hg]; exact Nat.ne_of_lt (blk_lt (lK BK229.out)) : gb229 ≠ gb252)); have n11_ := Aside0.mk ((by rw [hg]; exact Nat.ne_of_gt (blk_lt (lK BK229.out)) : gb252 ≠ gb229)); have n12_ := Aside0.mk ((by rw [hg]; exact Nat.ne_of_lt (blk_lt (lK BK230.out)) : gb230 ≠ gb252)); have n13_ := Aside0.mk ((by rw [hg]; exact Nat.ne_of_gt (blk_lt (lK BK230.out)) : gb252 ≠ gb230)); have n14_ := Aside0.mk ((by rw [hg]; exact Nat.ne_of_lt (blk_lt (lK BK240.out)) : gb240 ≠ gb252)); have n15_ := Aside0.mk ((by rw [hg]; exact Nat.ne_of_gt (blk_lt (lK BK240.out)) : gb252 ≠ gb240)); clear HO_11; clear HO_241002; clear HO246; clear BK229; clear BK230; clear BK240; clear HB; have HO_11 := n0_; have HO_241002 := n1_; have HO246 := n2_; have BK229 := n3_; have BK230 := n4_; have BK240 := n5_; have HB := n6_; have BK252 := n7_; have GW252 := n8_; have GE252 := n9_; have NB229_252 := n10_; have NB252_229 := n11_; have NB230_252 := n12_; have NB252_230 := n13_; have NB240_252 := n14_; have NB252_240 := n15_; clear n0_ n1_ n2_ n3_ n4_ n5_ n6_ n7_ n8_ n9_ n10_ n11_ n12_ n13_ n14_ n15_; clear hb hbox hg; have hnb50 := NB252_229.out; have hnc50 := NB229_252.out; have hnb51 := NB252_230.out; have hnc51 := NB230_252.out; have hnb52 := NB252_240.out; have hnc52 := NB240_252.out; obtain ⟨hcz53_0, hfz53_0, hcz53_1, hfz53_1, hcz53_2, hfz53_2, hcz53_3, hfz53_3, hcz53_4, hfz53_4, hcz53_5, hfz53_5⟩ := bk6 BK252.out; obtain ⟨Ao54, co54, eo54⟩ := Kd.R_slice HO246.out; subst eo54; obtain ⟨hcz55_0, hfz55_0, hcz55_1, hfz55_1, hcz55_2, hfz55_2, hcz55_3, hfz55_3, hcz55_4, hfz55_4, hcz55_5, hfz55_5⟩ := bk6 BK230.out))
          refine bodyPost_ret (results_ctt rfl _ _ gb230 44 #[.int .i64 0, .int .i64 0, .slice none 0 0, .int .i64 0, .int .i64 0, .int .i64 0] (0, 0) _ rfl (by (with_reducible repeat first | apply bN | apply bD | apply bA); refine blk_put (cs := #[.int .i64 0, .int .i64 0, .slice none 0 0, .int .i64 0, .int .i64 0, .int .i64 x231005_2]) ?_ 5 _ rfl; (with_reducible repeat first | apply bN | apply bD | apply bA); refine blk_put (cs := #[.int .i64 0, .int .i64 0, .slice none 0 0, .int .i64 0, .int .i64 x231004_2, .int .i64 x231005_2]) ?_ 4 _ rfl; (with_reducible repeat first | apply bN | apply bD | apply bA); refine blk_put (cs := #[.int .i64 0, .int .i64 0, .slice none 0 0, .int .i64 x231003_2, .int .i64 x231004_2, .int .i64 x231005_2]) ?_ 3 _ rfl; (with_reducible repeat first | apply bN | apply bD | apply bA); refine blk_put (cs := #[.int .i64 0, .int .i64 0, .slice none 0 0, .int .i64 x231003_2, .int .i64 x231004_2, .int .i64 x231005_2]) ?_ 2 _ rfl; (with_reducible repeat first | apply bN | apply bD | apply bA); refine blk_put (cs := #[.int .i64 0, .int .i64 x231001_2, .slice none 0 0, .int .i64 x231003_2, .int .i64 x231004_2, .int .i64 x231005_2]) ?_ 1 _ rfl; (with_reducible repeat first | apply bN | apply bD | apply bA); refine blk_put (cs := #[.int .i64 x231000_2, .int .i64 x231001_2, .slice none 0 0, .int .i64 x231003_2, .int .i64 x231004_2, .int .i64 x231005_2]) ?_ 0 _ rfl; (with_reducible repeat first | apply bN | apply bD | apply bA); refine blk_far ?_ NB230_252.out _; (with_reducible repeat first | apply bN | apply bD | apply bA); refine blk_far ?_ NB230_252.out _; (with_reducible repeat first | apply bN | apply bD | apply bA); refine blk_far ?_ NB230_252.out _; (with_reducible repeat first | apply bN | apply bD | apply bA); refine blk_far ?_ NB230_252.out _; (with_reducible repeat first | apply bN | apply bD | apply bA); refine blk_far ?_ NB230_252.out _; (with_reducible repeat first | apply bN | apply bD | apply bA); refine blk_far ?_ NB230_252.out _; (with_reducible repeat first | apply bN | apply bD | apply bA); exact BK230.out) Try.underlying44 rfl (by kernel_rfl)) rfl ?_
          exact ⟨_, _, lE, by first | exact Kd.R_nil _ _ _ _ _ | exact Kd.N_nil _ _ _ _ _ | exact Kd.V_nil _ _ _ _ _ | exact Kd.Q_nil _ _ _ _ _ | exact Kd.S_nil _ _ _ _ _, by first | exact Kd.R_nil _ _ _ _ _ | exact Kd.N_nil _ _ _ _ _ | exact Kd.V_nil _ _ _ _ _ | exact Kd.Q_nil _ _ _ _ _ | exact Kd.S_nil _ _ _ _ _, lB⟩
        ·rw [if_neg c23] at H
         exact absurd H (by simp)
       ·rw [if_neg c22] at H
        exact absurd H (by simp)
      ·rw [if_neg c21] at H
       have c21b0 : decide (x33_2 < (l2.length : Int)) = false := decide_eq_false c21
       clear c21
       simp only [Option.some.injEq, Prod.mk.injEq] at H
       obtain ⟨rfl, rfl, rfl, rfl, rfl, rfl, rfl, rfl⟩ := H
       have hnb56 := NB240_229.out
       have hnc56 := NB229_240.out
       have hnb57 := NB240_230.out
       have hnc57 := NB230_240.out
       obtain ⟨hcz58_0, hfz58_0, hcz58_1, hfz58_1, hcz58_2, hfz58_2, hcz58_3, hfz58_3, hcz58_4, hfz58_4, hcz58_5, hfz58_5⟩ := bk6 BK240.out
       have hnb59 := NB230_229.out
       have hnc59 := NB229_230.out
       obtain ⟨hcz60_0, hfz60_0, hcz60_1, hfz60_1, hcz60_2, hfz60_2, hcz60_3, hfz60_3, hcz60_4, hfz60_4, hcz60_5, hfz60_5⟩ := bk6 BK230.out
       obtain ⟨Ao61, co61, eo61⟩ := Kd.R_slice HO_241002.out
       subst eo61
       go_wp2
       refine bodyPost_ret (results_ctt rfl _ _ gb230 44 #[.int .i64 x241000_2, .int .i64 x241001_2, .slice Ao61 x241002_2.length co61, .int .i64 x241003_2, .int .i64 x241004_2, .int .i64 x241005_2] (0, 0) _ rfl (by (with_reducible repeat first | apply bN | apply bD | apply bA); refine blk_put (cs := #[.int .i64 x241000_2, .int .i64 x241001_2, .slice Ao61 x241002_2.length co61, .int .i64 x241003_2, .int .i64 x241004_2, .int .i64 x231005_2]) ?_ 5 _ rfl; (with_reducible repeat first | apply bN | apply bD | apply bA); refine blk_put (cs := #[.int .i64 x241000_2, .int .i64 x241001_2, .slice Ao61 x241002_2.length co61, .int .i64 x241003_2, .int .i64 x231004_2, .int .i64 x231005_2]) ?_ 4 _ rfl; (with_reducible repeat first | apply bN | apply bD | apply bA); refine blk_put (cs := #[.int .i64 x241000_2, .int .i64 x241001_2, .slice Ao61 x241002_2.length co61, .int .i64 x231003_2, .int .i64 x231004_2, .int .i64 x231005_2]) ?_ 3 _ rfl; (with_reducible repeat first | apply bN | apply bD | apply bA); refine blk_put (cs := #[.int .i64 x241000_2, .int .i64 x241001_2, .slice none 0 0, .int .i64 x231003_2, .int .i64 x231004_2, .int .i64 x231005_2]) ?_ 2 _ rfl; (with_reducible repeat first | apply bN | apply bD | apply bA); refine blk_put (cs := #[.int .i64 x241000_2, .int .i64 x231001_2, .slice none 0 0, .int .i64 x231003_2, .int .i64 x231004_2, .int .i64 x231005_2]) ?_ 1 _ rfl; (with_reducible repeat first | apply bN | apply bD | apply bA); refine blk_put (cs := #[.int .i64 x231000_2, .int .i64 x231001_2, .slice none 0 0, .int .i64 x231003_2, .int .i64 x231004_2, .int .i64 x231005_2]) ?_ 0 _ rfl; (with_reducible repeat first | apply bN | apply bD | apply bA); exact BK230.out) Try.underlying44 rfl (by kernel_rfl)) rfl ?_
       exact ⟨_, _, lE, by (with_reducible repeat (first | apply Kd.R_alloc | apply Kd.R_drewN | apply Kd.R_drew)); exact Kd.R_mono (Kd.R_far (p := ⟨gb230, 5, none⟩) (Kd.R_far (p := ⟨gb230, 4, none⟩) (Kd.R_far (p := ⟨gb230, 3, none⟩) (Kd.R_far (p := ⟨gb230, 2, none⟩) (Kd.R_far (p := ⟨gb230, 1, none⟩) (Kd.R_far (p := ⟨gb230, 0, none⟩) (Kd.R_types HO_241002.out BK230.out (by decide)) (fun _ hk => hk.2) (.int .i64 x241000_2)) (fun _ hk => hk.2) (.int .i64 x241001_2)) (fun _ hk => hk.2) (.slice Ao61 x241002_2.length co61)) (fun _ hk => hk.2) (.int .i64 x241003_2)) (fun _ hk => hk.2) (.int .i64 x241004_2)) (fun _ hk => hk.2) (.int .i64 x241005_2)) (fun _ hk => trivial), by (with_reducible repeat (first | apply Kd.R_alloc | apply Kd.R_drewN | apply Kd.R_drew)); exact Kd.R_mono (Kd.R_far (p := ⟨gb230, 5, none⟩) (Kd.R_far (p := ⟨gb230, 4, none⟩) (Kd.R_far (p := ⟨gb230, 3, none⟩) (Kd.R_far (p := ⟨gb230, 2, none⟩) (Kd.R_far (p := ⟨gb230, 1, none⟩) (Kd.R_far (p := ⟨gb230, 0, none⟩) (Kd.R_types HO_11.out BK230.out (by decide)) (fun _ hk => hk.2) (.int .i64 x241000_2)) (fun _ hk => hk.2) (.int .i64 x241001_2)) (fun _ hk => hk.2) (.slice Ao61 x241002_2.length co61)) (fun _ hk => hk.2) (.int .i64 x241003_2)) (fun _ hk => hk.2) (.int .i64 x241004_2)) (fun _ hk => hk.2) (.int .i64 x241005_2)) (fun _ hk => trivial), lB⟩

/-! ### impl_in: function 59 -/
def impl_in.f (a0 : Int) (a1 : Int) (a2 : Int) : Option (Bool) := if a0 ≥ a1 then (some (decide (a0 ≤ a2))) else (some false)
set_option maxHeartbeats 8000000 in
set_option maxRecDepth 100000 in
theorem impl_in.calls (a0 : Int) (a1 : Int) (a2 : Int) (r : Bool) (w : World) (h : impl_in.f a0 a1 a2 = some r) :
  Calls Try.prog 59 #[.int .i64 a0, .int .i64 a1, .int .i64 a2] w fun e w' => e = .returned (.bool r) ∧ Drawn0 w w' := by
 have H : (if a0 ≥ a1 then (some (decide (a0 ≤ a2))) else (some false)) = some r := h
 clear h
 by_cases c4 : a0 ≥ a1
 ·rw [if_pos c4] at H
  have c4b0 : decide (a1 ≤ a0) = true := decide_eq_true c4
  clear c4
  obtain rfl := Option.some.inj H
  go_enter Try.func59, Try.ntmps59
  first | (go_wp2; go_ret; exact ⟨by first | rfl | (simp; done) | (simp [*]; done), by repeat (first | exact Drawn0.refl _ | apply Drawn0.step)⟩) | (exfalso; simp only [decide_eq_false_iff_not, decide_eq_true_eq] at *; omega)
 ·rw [if_neg c4] at H
  have c4b0 : decide (a1 ≤ a0) = false := decide_eq_false c4
  clear c4
  obtain rfl := Option.some.inj H
  go_enter Try.func59, Try.ntmps59
  first | (go_wp2; go_ret; exact ⟨by first | rfl | (simp; done) | (simp [*]; done), by repeat (first | exact Drawn0.refl _ | apply Drawn0.step)⟩) | (exfalso; simp only [decide_eq_false_iff_not, decide_eq_true_eq] at *; omega)

/-! ### impl_isWorld_1: function 83 -/
def impl_isWorld_1.f (a0 : Int) : Option (Bool) := (impl_in.f a0 0 1000).bind fun t256 => (some (!t256))
set_option maxHeartbeats 8000000 in
set_option maxRecDepth 100000 in
theorem impl_isWorld_1.calls (a0 : Int) (r : Bool) (w : World) (h : impl_isWorld_1.f a0 = some r) :
  Calls Try.prog 83 #[.int .i64 a0] w fun e w' => e = .returned (.bool r) ∧ Drawn0 w w' := by
 have H : ((impl_in.f a0 0 1000).bind fun t256 => (some (!t256))) = some r := h
 clear h
 replace H := lO H
 obtain ⟨t256, A2, H⟩ := H
 obtain rfl := Option.some.inj H
 go_enter Try.func83, Try.ntmps83
 go_wp2_with (first | ((with_reducible refine gate_callee (f := 59) rfl ?_); refine gl_ (some 4) (Try.func59) #[.int .i64 a0, .int .i64 0, .int .i64 1000] ?_; (with_reducible refine (impl_in.calls a0 0 1000 t256 _ A2.out).mono ?_); rintro e w' ⟨rfl, ⟨nd, rfl⟩⟩; refine ⟨_, rfl, ?_⟩))
 go_ret
 exact ⟨by first | rfl | (simp; done) | (simp [*]; done), by repeat (first | exact Drawn0.refl _ | apply Drawn0.step)⟩

end Go.Proofs.Ytjmgleomljfieaa.Q
