-- Written by the program wip/tools/pr.py of this claim's session, over the kit's print.py.
import Derived.Test.YtjmgleomljfieaaQx0
import Derived.Test.YtjmgleomljfieaaQx4
import Derived.Test.YtjmgleomljfieaaQx5
namespace Go.Proofs.Ytjmgleomljfieaa.Q
open Go.RowKit Go.Proofs.YtjmgleomljfieaaW.PrintWords Go.Proofs.YtjmgleomljfieaaW.PrintLast Go.Proofs.YtjmgleomljfieaaW.PrintMore
attribute [local go_sem] max2_int min2_int max_two min_two max_three min_three max_four min_four   -- for this text's walks alone
set_option linter.unusedVariables false
set_option linter.unusedSimpArgs false

/-! ### spec_l12Call: function 76 -/
mutual
def spec_l12Call.j0 : Nat → Int → Int → Int → Int → List (S97) → Int → Int → Int → Option (Int × Int × (List (S97)) × Int × Int × Int)
 | 0, _, _, _, _, _, _, _, _ => none
 | k + 1, x2, x3, x215000, x215001, x215002, x215003, x215004, x215005 => spec_l12Call.l0 k x2 x3 x215002 (x215002.length : Int) 0 x215000 x215001 x215002 x215003 x215004 x215005
def spec_l12Call.l0 : Nat → Int → Int → List (S97) → Int → Int → Int → Int → List (S97) → Int → Int → Int → Option (Int × Int × (List (S97)) × Int × Int × Int)
 | 0, _, _, _, _, _, _, _, _, _, _, _ => none
 | k + 1, x2, x3, x27, x28, x29, x215000, x215001, x215002, x215003, x215004, x215005 => if x29 < x28 then (if 0 ≤ x29 then (if x29 < (x27.length : Int) then (if ((rd_T97 x27 x29).f0) = x2 then (some (x215000, x215001, x215002, x215003, wrap64 (x215004 + 1), x215005)) else (spec_l12Call.l0 k x2 x3 x27 x28 (wrap64 (x29 + 1)) x215000 x215001 x215002 x215003 x215004 x215005)) else (none)) else (none)) else (if x215001 = 3 then (some (x215000, x215001, x215002, x215003, x215004, wrap64 (x215005 + 1))) else (if (x215002.length : Int) = 4 then (some (x215000, 3, ([] : List (S97)), x215003, x215004, wrap64 (x215005 + 1))) else (if x215002.length < 8796093022208 then ((some (x215002 ++ [(⟨x2, x3⟩ : S97)] : List (S97))).bind fun y224 => (if (y224.length : Int) = 1 then (some (x215000, 1, y224, x215003, x215004, wrap64 (x215005 + 1))) else (some (x215000, 2, y224, x215003, x215004, wrap64 (x215005 + 1))))) else (none))))
end
def spec_l12Call.f (k : Nat) (l0_0 : List (S82)) (a0_1 : Int) (a1_0 : Int) (a1_1 : Int) (l1_2 : List (S97)) (a1_3 : Int) (a1_4 : Int) (a1_5 : Int) (a2 : Int) (a3 : Int) : Option (Int × Int × (List (S97)) × Int × Int × Int) := (some (([] : List (S97)) : List (S97))).bind fun y216 => (if y216.length + l1_2.length < 8796093022208 then (if a1_3 = a0_1 then (spec_l12Call.j0 k a2 a3 a1_0 a1_1 (y216 ++ l1_2) a1_3 a1_4 a1_5) else (spec_l12Call.j0 k a2 a3 a1_0 0 ([] : List (S97)) a0_1 a1_4 a1_5)) else (none))
theorem spec_l12Call.mono_l : ∀ k, (∀ y0 y1 y2 y3 y4 y5 y6 y7, LeO (spec_l12Call.j0 k y0 y1 y2 y3 y4 y5 y6 y7) (spec_l12Call.j0 (k + 1) y0 y1 y2 y3 y4 y5 y6 y7)) ∧ (∀ y0 y1 y2 y3 y4 y5 y6 y7 y8 y9 y10, LeO (spec_l12Call.l0 k y0 y1 y2 y3 y4 y5 y6 y7 y8 y9 y10) (spec_l12Call.l0 (k + 1) y0 y1 y2 y3 y4 y5 y6 y7 y8 y9 y10))
 | 0 => ⟨fun _ _ _ _ _ _ _ _ r h => by simp [spec_l12Call.j0] at h, fun _ _ _ _ _ _ _ _ _ _ _ r h => by simp [spec_l12Call.l0] at h⟩
 | k + 1 => by
  obtain ⟨ih0, ih1⟩ := spec_l12Call.mono_l k
  refine ⟨?_, ?_⟩
  ·intro y0 y1 y2 y3 y4 y5 y6 y7
   unfold spec_l12Call.j0
   repeat' first
   | with_reducible apply ih0
   | with_reducible apply ih1
   | (with_reducible exact LeO.refl _)
   | (with_reducible exact LeO.none _)
   | (with_reducible refine LeO.ite ?_ ?_)
   | (with_reducible refine LeO.bind ?_ (fun _ => ?_))
   | apply ih0
   | apply ih1
   | exact LeO.none _
   | refine LeO.ite ?_ ?_
   | refine LeO.bind ?_ (fun _ => ?_)
  ·intro y0 y1 y2 y3 y4 y5 y6 y7 y8 y9 y10
   unfold spec_l12Call.l0
   repeat' first
   | with_reducible apply ih0
   | with_reducible apply ih1
   | (with_reducible exact LeO.refl _)
   | (with_reducible exact LeO.none _)
   | (with_reducible refine LeO.ite ?_ ?_)
   | (with_reducible refine LeO.bind ?_ (fun _ => ?_))
   | apply ih0
   | apply ih1
   | exact LeO.none _
   | refine LeO.ite ?_ ?_
   | refine LeO.bind ?_ (fun _ => ?_)
theorem spec_l12Call.mono : ∀ a0 a1 a2 a3 a4 a5 a6 a7 a8 a9 k, LeO (spec_l12Call.f k a0 a1 a2 a3 a4 a5 a6 a7 a8 a9) (spec_l12Call.f (k + 1) a0 a1 a2 a3 a4 a5 a6 a7 a8 a9) := by
 intro a0 a1 a2 a3 a4 a5 a6 a7 a8 a9 k
 obtain ⟨ih0, ih1⟩ := spec_l12Call.mono_l k
 unfold spec_l12Call.f
 repeat' first
   | with_reducible apply ih0
   | with_reducible apply ih1
   | (with_reducible exact LeO.refl _)
   | (with_reducible exact LeO.none _)
   | (with_reducible refine LeO.ite ?_ ?_)
   | (with_reducible refine LeO.bind ?_ (fun _ => ?_))
   | apply ih0
   | apply ih1
   | exact LeO.none _
   | refine LeO.ite ?_ ?_
   | refine LeO.bind ?_ (fun _ => ?_)
set_option maxHeartbeats 8000000 in
set_option maxRecDepth 100000 in
theorem spec_l12Call.calls (k : Nat) (A0_0 : Option Addr) (c0_0 : Nat) (l0_0 : List (S82)) (a0_1 : Int) (a1_0 : Int) (a1_1 : Int) (A1_2 : Option Addr) (c1_2 : Nat) (l1_2 : List (S97)) (a1_3 : Int) (a1_4 : Int) (a1_5 : Int) (a2 : Int) (a3 : Int) (r1 : Int) (r2 : Int) (r3 : List (S97)) (r4 : Int) (r5 : Int) (r6 : Int) (w : World) (hr0_0 : Kd.C k82 w A0_0 l0_0.length l0_0) (hc0_0 : l0_0.length ≤ c0_0) (hr1_2 : Kd.C k97 w A1_2 l1_2.length l1_2) (hc1_2 : l1_2.length ≤ c1_2) (h : spec_l12Call.f k l0_0 a0_1 a1_0 a1_1 l1_2 a1_3 a1_4 a1_5 a2 a3 = some (r1, r2, r3, r4, r5, r6)) :
  Calls Try.prog 76 #[.agg #[.slice A0_0 l0_0.length c0_0, .int .i64 a0_1], .agg #[.int .i64 a1_0, .int .i64 a1_1, .slice A1_2 l1_2.length c1_2, .int .i64 a1_3, .int .i64 a1_4, .int .i64 a1_5], .int .i64 a2, .int .i64 a3] w fun e w' => ∃ v2_ : Value, e = .returned (.agg #[.int .i64 r1, .int .i64 r2, v2_, .int .i64 r4, .int .i64 r5, .int .i64 r6]) ∧ Kd.R k97 97 w' w.heap.size (fun _ => True) v2_ r3 ∧ Below w.heap.size w w' := by
 have hu29 := Try.underlying29
 have hu44 := Try.underlying44
 have hu97 := Try.underlying97
 have HR0_0 := Aside0.mk hr0_0
 have HC0_0 := Aside0.mk hc0_0
 clear hr0_0 hc0_0
 have HR1_2 := Aside0.mk hr1_2
 have HC1_2 := Aside0.mk hc1_2
 clear hr1_2 hc1_2
 have HB := Aside0.mk (Below.refl w.heap.size w)
 have H : ((some (([] : List (S97)) : List (S97))).bind fun y216 => (if y216.length + l1_2.length < 8796093022208 then (if a1_3 = a0_1 then (spec_l12Call.j0 k a2 a3 a1_0 a1_1 (y216 ++ l1_2) a1_3 a1_4 a1_5) else (spec_l12Call.j0 k a2 a3 a1_0 0 ([] : List (S97)) a0_1 a1_4 a1_5)) else (none))) = some (r1, r2, r3, r4, r5, r6) := h
 clear h
 obtain ⟨y216, hy216⟩ : ∃ y_ : List (S97), y_ = (([] : List (S97))) := ⟨_, rfl⟩
 replace H : (if y216.length + l1_2.length < 8796093022208 then (if a1_3 = a0_1 then (spec_l12Call.j0 k a2 a3 a1_0 a1_1 (y216 ++ l1_2) a1_3 a1_4 a1_5) else (spec_l12Call.j0 k a2 a3 a1_0 0 ([] : List (S97)) a0_1 a1_4 a1_5)) else (none)) = some (r1, r2, r3, r4, r5, r6) := by first | (rw [hy216]; with_reducible exact H) | (have H2_ := (Option.bind_some _ _).symm.trans H; rw [hy216]; with_reducible exact H2_) | (have H2_ := (Option.bind_some _ _).symm.trans H; with_reducible exact H2_) | with_reducible exact H | (rw [hy216]; exact H) | exact H
 have Ny216 := Aside0.mk hy216
 clear hy216
 by_cases c5 : y216.length + l1_2.length < 8796093022208
 ·rw [if_pos c5] at H
  have LMc5 := Aside0.mk c5
  clear c5
  obtain ⟨y219, hy219⟩ : ∃ y_ : List (S97), y_ = (y216 ++ l1_2) := ⟨_, rfl⟩
  replace H : (if a1_3 = a0_1 then (spec_l12Call.j0 k a2 a3 a1_0 a1_1 y219 a1_3 a1_4 a1_5) else (spec_l12Call.j0 k a2 a3 a1_0 0 ([] : List (S97)) a0_1 a1_4 a1_5)) = some (r1, r2, r3, r4, r5, r6) := by first | (rw [hy219]; with_reducible exact H) | (have H2_ := (Option.bind_some _ _).symm.trans H; rw [hy219]; with_reducible exact H2_) | (have H2_ := (Option.bind_some _ _).symm.trans H; with_reducible exact H2_) | with_reducible exact H | (rw [hy219]; exact H) | exact H
  have Ny219 := Aside0.mk hy219
  clear hy219
  have HC6 := Aside0.mk H
  clear H
  go_enter Try.func76, Try.ntmps76
  go_upto_if 20 with (first | ((with_reducible refine gate_dst (N := 4) rfl ?_); refine bxe 4 #[.slice A0_0 l0_0.length c0_0, .int .i64 a0_1] 29 ?_; intro gb213 hg w7 hbox hb; have n0_ := Aside0.mk (below_step lB hb); have n1_ := Aside0.mk (hbox); have n2_ := lG w hg; have n3_ := lG w hg; clear HB; have HB := n0_; have BK213 := n1_; have GW213 := n2_; have GE213 := n3_; clear n0_ n1_ n2_ n3_; clear hb hbox hg) | ((with_reducible refine gate_dst (N := 5) rfl ?_); refine bxe 5 #[.int .i64 a1_0, .int .i64 a1_1, .slice A1_2 l1_2.length c1_2, .int .i64 a1_3, .int .i64 a1_4, .int .i64 a1_5] 44 ?_; intro gb214 hg w8 hbox hb; have n0_ := Aside0.mk (blk_below (lK BK213.out) hb); have n1_ := Aside0.mk (below_step lB hb); have n2_ := Aside0.mk (hbox); have n3_ := lG w hg; have n4_ := lG w hg; have n5_ := Aside0.mk ((by rw [hg]; exact Nat.ne_of_lt (blk_lt (lK BK213.out)) : gb213 ≠ gb214)); have n6_ := Aside0.mk ((by rw [hg]; exact Nat.ne_of_gt (blk_lt (lK BK213.out)) : gb214 ≠ gb213)); clear BK213; clear HB; have BK213 := n0_; have HB := n1_; have BK214 := n2_; have GW214 := n3_; have GE214 := n4_; have NB213_214 := n5_; have NB214_213 := n6_; clear n0_ n1_ n2_ n3_ n4_ n5_ n6_; clear hb hbox hg) | ((with_reducible refine gate_dst (N := 8) rfl ?_); refine bxe 8 #[.int .i64 0, .int .i64 0, .slice none 0 0, .int .i64 0, .int .i64 0, .int .i64 0] 44 ?_; intro gb215 hg w9 hbox hb; have n0_ := Aside0.mk (blk_below (lK BK213.out) hb); have n1_ := Aside0.mk (blk_below (lK BK214.out) hb); have n2_ := Aside0.mk (below_step lB hb); have n3_ := Aside0.mk (hbox); have n4_ := lG w hg; have n5_ := lG w hg; have n6_ := Aside0.mk ((by rw [hg]; exact Nat.ne_of_lt (blk_lt (lK BK213.out)) : gb213 ≠ gb215)); have n7_ := Aside0.mk ((by rw [hg]; exact Nat.ne_of_gt (blk_lt (lK BK213.out)) : gb215 ≠ gb213)); have n8_ := Aside0.mk ((by rw [hg]; exact Nat.ne_of_lt (blk_lt (lK BK214.out)) : gb214 ≠ gb215)); have n9_ := Aside0.mk ((by rw [hg]; exact Nat.ne_of_gt (blk_lt (lK BK214.out)) : gb215 ≠ gb214)); clear BK213; clear BK214; clear HB; have BK213 := n0_; have BK214 := n1_; have HB := n2_; have BK215 := n3_; have GW215 := n4_; have GE215 := n5_; have NB213_215 := n6_; have NB215_213 := n7_; have NB214_215 := n8_; have NB215_214 := n9_; clear n0_ n1_ n2_ n3_ n4_ n5_ n6_ n7_ n8_ n9_; clear hb hbox hg) | ((with_reducible refine gate_dst (N := 11) rfl ?_); refine Kd.R_lit k97 _ 97 ?hg (N := 11) ?hd (xs := ([] : List (S97))) (inner := []) (ok := fun _ => True) (okp := fun _ => True) ?hr ?hp (fun _ hk => hk) trivial (Below.refl _ _) (Nat.le_refl _) (by simp) ?_; (case hd => rfl); (case hg => rfl); (case hr => first | (go_simp; done) | (go_simp; rfl)); (case hp => exact (Reps.none _ _)); intro v217 w10 ho11 hb hg_ hnew_; clear hg_ hnew_; (first | rw [← Ny216.out] at ho11 | (simp only [Int.reduceToNat] at ho11; rw [← Ny216.out] at ho11)); have n0_ := Aside0.mk (Kd.R_lower ho11 (below_size lB)); have n1_ := Aside0.mk (blk_below (lK BK213.out) hb); have n2_ := Aside0.mk (blk_below (lK BK214.out) hb); have n3_ := Aside0.mk (blk_below (lK BK215.out) hb); have n4_ := Aside0.mk (below_step lB hb); clear BK213; clear BK214; clear BK215; clear HB; have HO218 := n0_; have BK213 := n1_; have BK214 := n2_; have BK215 := n3_; have HB := n4_; clear n0_ n1_ n2_ n3_ n4_; clear hb ho11; have hnb12 := NB214_213.out; have hnc12 := NB213_214.out; have hnb13 := NB214_215.out; have hnc13 := NB215_214.out; obtain ⟨hcz14_0, hfz14_0, hcz14_1, hfz14_1, hcz14_2, hfz14_2, hcz14_3, hfz14_3, hcz14_4, hfz14_4, hcz14_5, hfz14_5⟩ := bk6 BK214.out) | ((with_reducible refine gate_builtin (b := .append) (xs := #[.tmp 11, .tmp 13]) rfl ?_); at_builtin; refine Kd.R_append_rows k97 (w0 := w) w.heap.size rfl (.tmp 11) (.tmp 13) 42 97 (.agg #[(.int .i64 0), (.int .i64 0)]) 16 rfl Try.underlying42 info97 rfl (by decide) (by omega) v217 y216 l1_2 _ _ _ (fun _ => True) (fun _ => False) rfl rfl ?aO ?aR (fun _ _ h => h) (fun _ h => h.elim) ?aF ?aB ?aS ?aL ?_; (case aR => exact lC (Kd.C_below HR1_2.out HB.out)); (case aB => exact lB); (case aF => exact (fun _ _ => trivial)); (case aO => exact (lR HO218.out)); (case aS => exact (below_size lB)); (case aL => have := LMc5.out; omega); intro v220 w15 ho hb hg hat; rw [← Ny219.out] at ho; have n0_ := Aside0.mk (blk_grown (lK BK213.out) hg (Kd.R_ne HO218.out BK213.out (by decide))); have n1_ := Aside0.mk (blk_grown (lK BK214.out) hg (Kd.R_ne HO218.out BK214.out (by decide))); have n2_ := Aside0.mk (blk_grown (lK BK215.out) hg (Kd.R_ne HO218.out BK215.out (by decide))); have n3_ := Aside0.mk (hb); have n4_ := Aside0.mk (ho); clear BK213; clear BK214; clear BK215; clear HB; clear HO218; have BK213 := n0_; have BK214 := n1_; have BK215 := n2_; have HB := n3_; have HO221 := n4_; clear n0_ n1_ n2_ n3_ n4_; clear ho hb hg hat; obtain ⟨Ao16, co16, eo16⟩ := Kd.R_slice HO221.out; subst eo16; obtain ⟨hcz17_0, hfz17_0, hcz17_1, hfz17_1, hcz17_2, hfz17_2, hcz17_3, hfz17_3, hcz17_4, hfz17_4, hcz17_5, hfz17_5⟩ := bk6 BK214.out; have hnb18 := NB213_215.out; have hnc18 := NB215_213.out; obtain ⟨hcz19_0, hfz19_0, hcz19_1, hfz19_1⟩ := bk2 BK213.out))
  (try simp only [Act.put, List.setIfInBounds_toArray, List.set_cons_zero, List.set_cons_succ])
  go_cut [] (fun wc => ∃ (kq : Nat) (x215001_5 : Int) (x215002_5 : List (S97)) (x215003_5 : Int) (u215002 : Value), Aside0 (spec_l12Call.j0 kq a2 a3 a1_0 x215001_5 x215002_5 x215003_5 a1_4 a1_5 = some (r1, r2, r3, r4, r5, r6)) ∧ Aside0 (kq ≤ k) ∧ Aside0 (Kd.R k97 97 wc w.heap.size (fun _ => True) u215002 x215002_5) ∧ Aside0 (wc.heap[gb213]? = some (.cells #[(.slice A0_0 l0_0.length c0_0), .int .i64 a0_1] 29 (0, 0))) ∧ Aside0 (wc.heap[gb214]? = some (.cells #[.int .i64 a1_0, .int .i64 x215001_5, u215002, .int .i64 x215003_5, .int .i64 a1_4, .int .i64 a1_5] 44 (0, 0))) ∧ Aside0 (wc.heap[gb215]? = some (.cells #[.int .i64 0, .int .i64 0, (.slice none 0 0), .int .i64 0, .int .i64 0, .int .i64 0] 44 (0, 0))) ∧ Aside0 (Below w.heap.size w wc))
  case first =>
   have H := HC6.out
   clear HC6
   by_cases c20 : a1_3 = a0_1
   ·rw [if_pos c20] at H
    have c20b0 : (a1_3 == a0_1) = true := beq_iff_eq.mpr c20
    have c20b1 : (a1_3 != a0_1) = false := bne_eq_false_iff_eq.mpr c20
    clear c20
    (first | rw [c20b0] | (simp only [i64_w, i32_w]; rw [c20b0]) | skip)
    have H' := Aside0.mk H
    clear H
    go_wp2
    go_meet
    case rel => exact ⟨_, (a1_1), (y219), (a1_3), (.slice Ao16 y219.length co16), H', ⟨lN⟩, ⟨by (with_reducible repeat (first | apply Kd.R_alloc | apply Kd.R_drewN | apply Kd.R_drew)); exact Kd.R_mono (Kd.R_far (p := ⟨gb214, 2, none⟩) (Kd.R_types HO221.out BK214.out (by decide)) (fun _ hk => hk.2) (.slice Ao16 y219.length co16)) (fun _ hk => trivial)⟩, ⟨lJ BK213.out⟩, ⟨by (with_reducible repeat first | apply bN | apply bD | apply bA); refine blk_put (cs := #[.int .i64 a1_0, .int .i64 a1_1, .slice A1_2 l1_2.length c1_2, .int .i64 a1_3, .int .i64 a1_4, .int .i64 a1_5]) ?_ 2 _ rfl; (with_reducible repeat first | apply bN | apply bD | apply bA); exact BK214.out⟩, ⟨lJ BK215.out⟩, ⟨lB⟩⟩
   ·rw [if_neg c20] at H
    have c20b0 : (a1_3 == a0_1) = false := beq_eq_false_iff_ne.mpr c20
    have c20b1 : (a1_3 != a0_1) = true := bne_iff_ne.mpr c20
    (first | rw [c20b0] | (simp only [i64_w, i32_w]; rw [c20b0]) | skip)
    have H' := Aside0.mk H
    clear H
    have hnb21 := NB214_213.out
    have hnc21 := NB213_214.out
    have hnb22 := NB214_215.out
    have hnc22 := NB215_214.out
    obtain ⟨hcz23_0, hfz23_0, hcz23_1, hfz23_1, hcz23_2, hfz23_2, hcz23_3, hfz23_3, hcz23_4, hfz23_4, hcz23_5, hfz23_5⟩ := bk6 BK214.out
    have hnb24 := NB213_215.out
    have hnc24 := NB215_213.out
    obtain ⟨hcz25_0, hfz25_0, hcz25_1, hfz25_1⟩ := bk2 BK213.out
    go_wp2
    go_meet
    case rel => exact ⟨_, (0), (([] : List (S97))), (a0_1), (.slice none 0 0), H', ⟨lN⟩, ⟨by first | exact Kd.R_nil _ _ _ _ _ | exact Kd.N_nil _ _ _ _ _ | exact Kd.V_nil _ _ _ _ _ | exact Kd.Q_nil _ _ _ _ _ | exact Kd.S_nil _ _ _ _ _⟩, ⟨lJ BK213.out⟩, ⟨by (with_reducible repeat first | apply bN | apply bD | apply bA); refine blk_put (cs := #[.int .i64 a1_0, .int .i64 0, .slice none 0 0, .int .i64 a1_3, .int .i64 a1_4, .int .i64 a1_5]) ?_ 3 _ rfl; (with_reducible repeat first | apply bN | apply bD | apply bA); refine blk_put (cs := #[.int .i64 a1_0, .int .i64 0, .slice Ao16 y219.length co16, .int .i64 a1_3, .int .i64 a1_4, .int .i64 a1_5]) ?_ 2 _ rfl; (with_reducible repeat first | apply bN | apply bD | apply bA); refine blk_put (cs := #[.int .i64 a1_0, .int .i64 a1_1, .slice Ao16 y219.length co16, .int .i64 a1_3, .int .i64 a1_4, .int .i64 a1_5]) ?_ 1 _ rfl; (with_reducible repeat first | apply bN | apply bD | apply bA); refine blk_put (cs := #[.int .i64 a1_0, .int .i64 a1_1, .slice A1_2 l1_2.length c1_2, .int .i64 a1_3, .int .i64 a1_4, .int .i64 a1_5]) ?_ 2 _ rfl; (with_reducible repeat first | apply bN | apply bD | apply bA); exact BK214.out⟩, ⟨lJ BK215.out⟩, ⟨lB⟩⟩
  case rest =>
   clear HC6
   try clear c1
   try clear c2
   try clear p2
   try clear c5
   try clear c7
   try clear c12
   try clear c13
   try clear c18
   try clear c20
   try clear c20b0
   try clear c20b1
   try clear c21
   try clear c22
   try clear c24
   try clear hcz14_0 hcz14_1 hcz14_2 hcz14_3 hcz14_4 hcz14_5
   try clear hcz17_0 hcz17_1 hcz17_2 hcz17_3 hcz17_4 hcz17_5
   try clear hcz19_0 hcz19_1
   try clear hcz23_0 hcz23_1 hcz23_2 hcz23_3 hcz23_4 hcz23_5
   try clear hcz25_0 hcz25_1
   try clear hfz14_0 hfz14_1 hfz14_2 hfz14_3 hfz14_4 hfz14_5
   try clear hfz17_0 hfz17_1 hfz17_2 hfz17_3 hfz17_4 hfz17_5
   try clear hfz19_0 hfz19_1
   try clear hfz23_0 hfz23_1 hfz23_2 hfz23_3 hfz23_4 hfz23_5
   try clear hfz25_0 hfz25_1
   obtain ⟨kq, x215001_5, x215002_5, x215003_5, u215002, HA, HJ5, HO_215002, BK213, BK214, BK215, HB⟩ := hcut
   cases kq with
   | zero => exact absurd HA.out (by simp [spec_l12Call.j0])
   | succ kj5 =>
    have H := HA.out
    clear HA
    simp only [spec_l12Call.j0] at H
    have H' := Aside0.mk H
    clear H
    have hnb26 := NB214_213.out
    have hnc26 := NB213_214.out
    have hnb27 := NB214_215.out
    have hnc27 := NB215_214.out
    obtain ⟨hcz28_0, hfz28_0, hcz28_1, hfz28_1, hcz28_2, hfz28_2, hcz28_3, hfz28_3, hcz28_4, hfz28_4, hcz28_5, hfz28_5⟩ := bk6 BK214.out
    obtain ⟨Ao29, co29, eo29⟩ := Kd.R_slice HO_215002.out
    subst eo29
    go_wp2
    go_loopg [29] kj5 (fun kq v29 w' => ∃ (x29_2 : Int) (x215004_2 : Int) (x216000_2 : Int) (x216001_2 : Int) (x216003_2 : Int) (x216004_2 : Int) (x216005_2 : Int), v29 = .int .i64 x29_2 ∧ Aside0 (spec_l12Call.l0 kq a2 a3 x215002_5 (x215002_5.length : Int) x29_2 a1_0 x215001_5 x215002_5 x215003_5 x215004_2 a1_5 = some (r1, r2, r3, r4, r5, r6)) ∧ Aside0 (kq ≤ kj5) ∧ Aside0 (Kd.R k97 97 w' w.heap.size (fun _ => True) (.slice Ao29 x215002_5.length co29) x215002_5) ∧ Aside0 (Kd.R k97 97 w' w.heap.size (fun _ => True) (.slice Ao29 x215002_5.length co29) x215002_5) ∧ Aside0 (w'.heap[gb213]? = some (.cells #[(.slice A0_0 l0_0.length c0_0), .int .i64 a0_1] 29 (0, 0))) ∧ Aside0 (w'.heap[gb214]? = some (.cells #[.int .i64 a1_0, .int .i64 x215001_5, (.slice Ao29 x215002_5.length co29), .int .i64 x215003_5, .int .i64 x215004_2, .int .i64 a1_5] 44 (0, 0))) ∧ Aside0 (w'.heap[gb215]? = some (.cells #[.int .i64 x216000_2, .int .i64 x216001_2, (.slice none 0 0), .int .i64 x216003_2, .int .i64 x216004_2, .int .i64 x216005_2] 44 (0, 0))) ∧ Aside0 (Below w.heap.size w w'))
    case atStart => exact ⟨(0), (a1_4), (0), (0), (0), (0), (0), lF, H', ⟨Nat.le_refl _⟩, ⟨lR HO_215002.out⟩, ⟨lR HO_215002.out⟩, ⟨lK BK213.out⟩, ⟨lK BK214.out⟩, ⟨lK BK215.out⟩, ⟨lB⟩⟩
    case round =>
     clear H'
     try clear c1
     try clear c2
     try clear p2
     try clear c5
     try clear c7
     try clear c12
     try clear c13
     try clear c18
     try clear c20
     try clear c20b0
     try clear c20b1
     try clear c21
     try clear c22
     try clear c24
     try clear c26
     try clear c27
     try clear hcz14_0 hcz14_1 hcz14_2 hcz14_3 hcz14_4 hcz14_5
     try clear hcz17_0 hcz17_1 hcz17_2 hcz17_3 hcz17_4 hcz17_5
     try clear hcz19_0 hcz19_1
     try clear hcz23_0 hcz23_1 hcz23_2 hcz23_3 hcz23_4 hcz23_5
     try clear hcz25_0 hcz25_1
     try clear hcz28_0 hcz28_1 hcz28_2 hcz28_3 hcz28_4 hcz28_5
     try clear hfz14_0 hfz14_1 hfz14_2 hfz14_3 hfz14_4 hfz14_5
     try clear hfz17_0 hfz17_1 hfz17_2 hfz17_3 hfz17_4 hfz17_5
     try clear hfz19_0 hfz19_1
     try clear hfz23_0 hfz23_1 hfz23_2 hfz23_3 hfz23_4 hfz23_5
     try clear hfz25_0 hfz25_1
     try clear hfz28_0 hfz28_1 hfz28_2 hfz28_3 hfz28_4 hfz28_5
     try clear p2
     obtain ⟨x29_2, x215004_2, x216000_2, x216001_2, x216003_2, x216004_2, x216005_2, rfl, HA, HK2, HO_27, HO_215002, BK213, BK214, BK215, HB⟩ := hrel
     cases gk with
     | zero => exact absurd HA.out (by simp [spec_l12Call.l0])
     | succ k2 =>
      have H := HA.out
      clear HA
      simp only [spec_l12Call.l0] at H
      by_cases c30 : x29_2 < (x215002_5.length : Int)
      ·rw [if_pos c30] at H
       have c30b0 : decide (x29_2 < (x215002_5.length : Int)) = true := decide_eq_true c30
       clear c30
       by_cases c31 : 0 ≤ x29_2
       ·rw [if_pos c31] at H
        have c31b0 : decide (0 ≤ x29_2) = true := decide_eq_true c31
        clear c31
        by_cases c32 : x29_2 < (x215002_5.length : Int)
        ·rw [if_pos c32] at H
         have c32b0 : decide (x29_2 < (x215002_5.length : Int)) = true := decide_eq_true c32
         clear c32
         by_cases c33 : ((rd_T97 x215002_5 x29_2).f0) = a2
         ·rw [if_pos c33] at H
          have c33b0 : (((rd_T97 x215002_5 x29_2).f0) == a2) = true := beq_iff_eq.mpr c33
          have c33b1 : (((rd_T97 x215002_5 x29_2).f0) != a2) = false := bne_eq_false_iff_eq.mpr c33
          clear c33
          simp only [Option.some.injEq, Prod.mk.injEq] at H
          obtain ⟨rfl, rfl, rfl, rfl, rfl, rfl⟩ := H
          have p222 : 0 ≤ (x29_2 : Int) := lD
          have q222 : x29_2 < (x215002_5.length : Int) := lD
          obtain ⟨ad222, e222, hx222_0, hx222_1⟩ := at_T97 (Kd.R_reads' HO_27.out).2.2 x29_2 p222 q222
          cases e222
          replace p222 := eq_true p222
          replace q222 := eq_true q222
          go_wp2_with (first | ((with_reducible refine gate_dst (N := 10) rfl ?_); refine bxe 10 #[.int .i64 0, .int .i64 0] 97 ?_; intro gb223 hg w34 hbox hb; have n0_ := Aside0.mk (Kd.R_below (Kd.R_elderB (lR HO_27.out) gb223 (Nat.le_of_eq hg.symm)) hb); have n1_ := Aside0.mk (Kd.R_below (Kd.R_elderB (lR HO_215002.out) gb223 (Nat.le_of_eq hg.symm)) hb); have n2_ := Aside0.mk (blk_below (lK BK213.out) hb); have n3_ := Aside0.mk (blk_below (lK BK214.out) hb); have n4_ := Aside0.mk (blk_below (lK BK215.out) hb); have n5_ := Aside0.mk (below_step lB hb); have n6_ := Aside0.mk (hbox); have n7_ := lG w hg; have n8_ := lG w hg; have n9_ := Aside0.mk ((by rw [hg]; exact Nat.ne_of_lt (blk_lt (lK BK213.out)) : gb213 ≠ gb223)); have n10_ := Aside0.mk ((by rw [hg]; exact Nat.ne_of_gt (blk_lt (lK BK213.out)) : gb223 ≠ gb213)); have n11_ := Aside0.mk ((by rw [hg]; exact Nat.ne_of_lt (blk_lt (lK BK214.out)) : gb214 ≠ gb223)); have n12_ := Aside0.mk ((by rw [hg]; exact Nat.ne_of_gt (blk_lt (lK BK214.out)) : gb223 ≠ gb214)); have n13_ := Aside0.mk ((by rw [hg]; exact Nat.ne_of_lt (blk_lt (lK BK215.out)) : gb215 ≠ gb223)); have n14_ := Aside0.mk ((by rw [hg]; exact Nat.ne_of_gt (blk_lt (lK BK215.out)) : gb223 ≠ gb215)); clear HO_27; clear HO_215002; clear BK213; clear BK214; clear BK215; clear HB; have HO_27 := n0_; have HO_215002 := n1_; have BK213 := n2_; have BK214 := n3_; have BK215 := n4_; have HB := n5_; have BK223 := n6_; have GW223 := n7_; have GE223 := n8_; have NB213_223 := n9_; have NB223_213 := n10_; have NB214_223 := n11_; have NB223_214 := n12_; have NB215_223 := n13_; have NB223_215 := n14_; clear n0_ n1_ n2_ n3_ n4_ n5_ n6_ n7_ n8_ n9_ n10_ n11_ n12_ n13_ n14_; clear hb hbox hg; have hnb35 := NB223_213.out; have hnc35 := NB213_223.out; have hnb36 := NB223_214.out; have hnc36 := NB214_223.out; have hnb37 := NB223_215.out; have hnc37 := NB215_223.out; obtain ⟨hcz38_0, hfz38_0, hcz38_1, hfz38_1⟩ := bk2 BK223.out; have hnb39 := NB214_213.out; have hnc39 := NB213_214.out; have hnb40 := NB214_215.out; have hnc40 := NB215_214.out; obtain ⟨hcz41_0, hfz41_0, hcz41_1, hfz41_1, hcz41_2, hfz41_2, hcz41_3, hfz41_3, hcz41_4, hfz41_4, hcz41_5, hfz41_5⟩ := bk6 BK214.out; have hnb42 := NB215_213.out; have hnc42 := NB213_215.out; obtain ⟨hcz43_0, hfz43_0, hcz43_1, hfz43_1, hcz43_2, hfz43_2, hcz43_3, hfz43_3, hcz43_4, hfz43_4, hcz43_5, hfz43_5⟩ := bk6 BK215.out))
          refine bodyPost_ret (results_cell_row rfl _ _ gb215 44 #[.int .i64 a1_0, .int .i64 x215001_5, .slice (some ad222) x215002_5.length co29, .int .i64 x215003_5, .int .i64 (wrap64 (x215004_2 + 1)), .int .i64 a1_5] (0, 0) _ rfl (by (with_reducible repeat first | apply bN | apply bD | apply bA); refine blk_put (cs := #[.int .i64 a1_0, .int .i64 x215001_5, .slice (some ad222) x215002_5.length co29, .int .i64 x215003_5, .int .i64 (wrap64 (x215004_2 + 1)), .int .i64 x216005_2]) ?_ 5 _ rfl; (with_reducible repeat first | apply bN | apply bD | apply bA); refine blk_put (cs := #[.int .i64 a1_0, .int .i64 x215001_5, .slice (some ad222) x215002_5.length co29, .int .i64 x215003_5, .int .i64 x216004_2, .int .i64 x216005_2]) ?_ 4 _ rfl; (with_reducible repeat first | apply bN | apply bD | apply bA); refine blk_put (cs := #[.int .i64 a1_0, .int .i64 x215001_5, .slice (some ad222) x215002_5.length co29, .int .i64 x216003_2, .int .i64 x216004_2, .int .i64 x216005_2]) ?_ 3 _ rfl; (with_reducible repeat first | apply bN | apply bD | apply bA); refine blk_put (cs := #[.int .i64 a1_0, .int .i64 x215001_5, .slice none 0 0, .int .i64 x216003_2, .int .i64 x216004_2, .int .i64 x216005_2]) ?_ 2 _ rfl; (with_reducible repeat first | apply bN | apply bD | apply bA); refine blk_put (cs := #[.int .i64 a1_0, .int .i64 x216001_2, .slice none 0 0, .int .i64 x216003_2, .int .i64 x216004_2, .int .i64 x216005_2]) ?_ 1 _ rfl; (with_reducible repeat first | apply bN | apply bD | apply bA); refine blk_put (cs := #[.int .i64 x216000_2, .int .i64 x216001_2, .slice none 0 0, .int .i64 x216003_2, .int .i64 x216004_2, .int .i64 x216005_2]) ?_ 0 _ rfl; (with_reducible repeat first | apply bN | apply bD | apply bA); refine blk_far ?_ NB215_214.out _; (with_reducible repeat first | apply bN | apply bD | apply bA); refine blk_far ?_ NB215_223.out _; (with_reducible repeat first | apply bN | apply bD | apply bA); refine blk_far ?_ NB215_223.out _; (with_reducible repeat first | apply bN | apply bD | apply bA); exact BK215.out) Try.underlying44 rfl (by kernel_rfl)) rfl ?_
          exact ⟨_, lE, by (with_reducible repeat (first | apply Kd.R_alloc | apply Kd.R_drewN | apply Kd.R_drew)); exact Kd.R_mono (Kd.R_far (p := ⟨gb215, 5, none⟩) (Kd.R_far (p := ⟨gb215, 4, none⟩) (Kd.R_far (p := ⟨gb215, 3, none⟩) (Kd.R_far (p := ⟨gb215, 2, none⟩) (Kd.R_far (p := ⟨gb215, 1, none⟩) (Kd.R_far (p := ⟨gb215, 0, none⟩) (Kd.R_far (p := ⟨gb214, 4, none⟩) (Kd.R_far (p := ⟨gb223, 1, none⟩) (Kd.R_far (p := ⟨gb223, 0, none⟩) (Kd.R_types (Kd.R_types (Kd.R_mono HO_215002.out (fun k_ hk => (⟨hk, hk.2⟩ : _ ∧ k_ ≠ gb223))) BK214.out (by decide)) BK215.out (by decide)) (fun _ hk => hk.1.1.2) (.int .i64 ((rd_T97 x215002_5 x29_2).f0))) (fun _ hk => hk.1.1.2) (.int .i64 ((rd_T97 x215002_5 x29_2).f1))) (fun _ hk => hk.1.2) (.int .i64 (wrap64 (x215004_2 + 1)))) (fun _ hk => hk.2) (.int .i64 a1_0)) (fun _ hk => hk.2) (.int .i64 x215001_5)) (fun _ hk => hk.2) (.slice (some ad222) x215002_5.length co29)) (fun _ hk => hk.2) (.int .i64 x215003_5)) (fun _ hk => hk.2) (.int .i64 (wrap64 (x215004_2 + 1)))) (fun _ hk => hk.2) (.int .i64 a1_5)) (fun _ hk => trivial), lB⟩
         ·rw [if_neg c33] at H
          have c33b0 : (((rd_T97 x215002_5 x29_2).f0) == a2) = false := beq_eq_false_iff_ne.mpr c33
          have c33b1 : (((rd_T97 x215002_5 x29_2).f0) != a2) = true := bne_iff_ne.mpr c33
          have H' := Aside0.mk H
          clear H
          have p222 : 0 ≤ (x29_2 : Int) := lD
          have q222 : x29_2 < (x215002_5.length : Int) := lD
          obtain ⟨ad222, e222, hx222_0, hx222_1⟩ := at_T97 (Kd.R_reads' HO_27.out).2.2 x29_2 p222 q222
          cases e222
          replace p222 := eq_true p222
          replace q222 := eq_true q222
          go_wp2_with (first | ((with_reducible refine gate_dst (N := 10) rfl ?_); refine bxe 10 #[.int .i64 0, .int .i64 0] 97 ?_; intro gb223 hg w44 hbox hb; have n0_ := Aside0.mk (Kd.R_below (Kd.R_elderB (lR HO_27.out) gb223 (Nat.le_of_eq hg.symm)) hb); have n1_ := Aside0.mk (Kd.R_below (Kd.R_elderB (lR HO_215002.out) gb223 (Nat.le_of_eq hg.symm)) hb); have n2_ := Aside0.mk (blk_below (lK BK213.out) hb); have n3_ := Aside0.mk (blk_below (lK BK214.out) hb); have n4_ := Aside0.mk (blk_below (lK BK215.out) hb); have n5_ := Aside0.mk (below_step lB hb); have n6_ := Aside0.mk (hbox); have n7_ := lG w hg; have n8_ := lG w hg; have n9_ := Aside0.mk ((by rw [hg]; exact Nat.ne_of_lt (blk_lt (lK BK213.out)) : gb213 ≠ gb223)); have n10_ := Aside0.mk ((by rw [hg]; exact Nat.ne_of_gt (blk_lt (lK BK213.out)) : gb223 ≠ gb213)); have n11_ := Aside0.mk ((by rw [hg]; exact Nat.ne_of_lt (blk_lt (lK BK214.out)) : gb214 ≠ gb223)); have n12_ := Aside0.mk ((by rw [hg]; exact Nat.ne_of_gt (blk_lt (lK BK214.out)) : gb223 ≠ gb214)); have n13_ := Aside0.mk ((by rw [hg]; exact Nat.ne_of_lt (blk_lt (lK BK215.out)) : gb215 ≠ gb223)); have n14_ := Aside0.mk ((by rw [hg]; exact Nat.ne_of_gt (blk_lt (lK BK215.out)) : gb223 ≠ gb215)); clear HO_27; clear HO_215002; clear BK213; clear BK214; clear BK215; clear HB; have HO_27 := n0_; have HO_215002 := n1_; have BK213 := n2_; have BK214 := n3_; have BK215 := n4_; have HB := n5_; have BK223 := n6_; have GW223 := n7_; have GE223 := n8_; have NB213_223 := n9_; have NB223_213 := n10_; have NB214_223 := n11_; have NB223_214 := n12_; have NB215_223 := n13_; have NB223_215 := n14_; clear n0_ n1_ n2_ n3_ n4_ n5_ n6_ n7_ n8_ n9_ n10_ n11_ n12_ n13_ n14_; clear hb hbox hg; have hnb45 := NB223_213.out; have hnc45 := NB213_223.out; have hnb46 := NB223_214.out; have hnc46 := NB214_223.out; have hnb47 := NB223_215.out; have hnc47 := NB215_223.out; obtain ⟨hcz48_0, hfz48_0, hcz48_1, hfz48_1⟩ := bk2 BK223.out))
          go_roundg k2
          case measure => have := HJ5.out; have := HK2.out; omega
          case rel => exact ⟨(wrap64 (x29_2 + 1)), (x215004_2), (x216000_2), (x216001_2), (x216003_2), (x216004_2), (x216005_2), lF, H', ⟨by have := HJ5.out; have := HK2.out; omega⟩, ⟨by (with_reducible repeat (first | apply Kd.R_alloc | apply Kd.R_drewN | apply Kd.R_drew)); exact Kd.R_mono (Kd.R_far (p := ⟨gb223, 1, none⟩) (Kd.R_far (p := ⟨gb223, 0, none⟩) (Kd.R_mono HO_27.out (fun k_ hk => (⟨hk, hk.2⟩ : _ ∧ k_ ≠ gb223))) (fun _ hk => hk.2) (.int .i64 ((rd_T97 x215002_5 x29_2).f0))) (fun _ hk => hk.2) (.int .i64 ((rd_T97 x215002_5 x29_2).f1))) (fun _ hk => trivial)⟩, ⟨by (with_reducible repeat (first | apply Kd.R_alloc | apply Kd.R_drewN | apply Kd.R_drew)); exact Kd.R_mono (Kd.R_far (p := ⟨gb223, 1, none⟩) (Kd.R_far (p := ⟨gb223, 0, none⟩) (Kd.R_mono HO_215002.out (fun k_ hk => (⟨hk, hk.2⟩ : _ ∧ k_ ≠ gb223))) (fun _ hk => hk.2) (.int .i64 ((rd_T97 x215002_5 x29_2).f0))) (fun _ hk => hk.2) (.int .i64 ((rd_T97 x215002_5 x29_2).f1))) (fun _ hk => trivial)⟩, ⟨lJ BK213.out⟩, ⟨lJ BK214.out⟩, ⟨lJ BK215.out⟩, ⟨lB⟩⟩
        ·rw [if_neg c32] at H
         exact absurd H (by simp)
       ·rw [if_neg c31] at H
        exact absurd H (by simp)
      ·rw [if_neg c30] at H
       have c30b0 : decide (x29_2 < (x215002_5.length : Int)) = false := decide_eq_false c30
       clear c30
       by_cases c49 : x215001_5 = 3
       ·rw [if_pos c49] at H
        have c49b0 : (x215001_5 == 3) = true := beq_iff_eq.mpr c49
        have c49b1 : (x215001_5 != 3) = false := bne_eq_false_iff_eq.mpr c49
        clear c49
        simp only [Option.some.injEq, Prod.mk.injEq] at H
        obtain ⟨rfl, rfl, rfl, rfl, rfl, rfl⟩ := H
        have hnb50 := NB214_213.out
        have hnc50 := NB213_214.out
        have hnb51 := NB214_215.out
        have hnc51 := NB215_214.out
        obtain ⟨hcz52_0, hfz52_0, hcz52_1, hfz52_1, hcz52_2, hfz52_2, hcz52_3, hfz52_3, hcz52_4, hfz52_4, hcz52_5, hfz52_5⟩ := bk6 BK214.out
        have hnb53 := NB215_213.out
        have hnc53 := NB213_215.out
        obtain ⟨hcz54_0, hfz54_0, hcz54_1, hfz54_1, hcz54_2, hfz54_2, hcz54_3, hfz54_3, hcz54_4, hfz54_4, hcz54_5, hfz54_5⟩ := bk6 BK215.out
        go_wp2
        refine bodyPost_ret (results_cell_row rfl _ _ gb215 44 #[.int .i64 a1_0, .int .i64 x215001_5, .slice Ao29 x215002_5.length co29, .int .i64 x215003_5, .int .i64 x215004_2, .int .i64 (wrap64 (a1_5 + 1))] (0, 0) _ rfl (by (with_reducible repeat first | apply bN | apply bD | apply bA); refine blk_put (cs := #[.int .i64 a1_0, .int .i64 x215001_5, .slice Ao29 x215002_5.length co29, .int .i64 x215003_5, .int .i64 x215004_2, .int .i64 x216005_2]) ?_ 5 _ rfl; (with_reducible repeat first | apply bN | apply bD | apply bA); refine blk_put (cs := #[.int .i64 a1_0, .int .i64 x215001_5, .slice Ao29 x215002_5.length co29, .int .i64 x215003_5, .int .i64 x216004_2, .int .i64 x216005_2]) ?_ 4 _ rfl; (with_reducible repeat first | apply bN | apply bD | apply bA); refine blk_put (cs := #[.int .i64 a1_0, .int .i64 x215001_5, .slice Ao29 x215002_5.length co29, .int .i64 x216003_2, .int .i64 x216004_2, .int .i64 x216005_2]) ?_ 3 _ rfl; (with_reducible repeat first | apply bN | apply bD | apply bA); refine blk_put (cs := #[.int .i64 a1_0, .int .i64 x215001_5, .slice none 0 0, .int .i64 x216003_2, .int .i64 x216004_2, .int .i64 x216005_2]) ?_ 2 _ rfl; (with_reducible repeat first | apply bN | apply bD | apply bA); refine blk_put (cs := #[.int .i64 a1_0, .int .i64 x216001_2, .slice none 0 0, .int .i64 x216003_2, .int .i64 x216004_2, .int .i64 x216005_2]) ?_ 1 _ rfl; (with_reducible repeat first | apply bN | apply bD | apply bA); refine blk_put (cs := #[.int .i64 x216000_2, .int .i64 x216001_2, .slice none 0 0, .int .i64 x216003_2, .int .i64 x216004_2, .int .i64 x216005_2]) ?_ 0 _ rfl; (with_reducible repeat first | apply bN | apply bD | apply bA); refine blk_far ?_ NB215_214.out _; (with_reducible repeat first | apply bN | apply bD | apply bA); exact BK215.out) Try.underlying44 rfl (by kernel_rfl)) rfl ?_
        exact ⟨_, lE, by (with_reducible repeat (first | apply Kd.R_alloc | apply Kd.R_drewN | apply Kd.R_drew)); exact Kd.R_mono (Kd.R_far (p := ⟨gb215, 5, none⟩) (Kd.R_far (p := ⟨gb215, 4, none⟩) (Kd.R_far (p := ⟨gb215, 3, none⟩) (Kd.R_far (p := ⟨gb215, 2, none⟩) (Kd.R_far (p := ⟨gb215, 1, none⟩) (Kd.R_far (p := ⟨gb215, 0, none⟩) (Kd.R_far (p := ⟨gb214, 5, none⟩) (Kd.R_types (Kd.R_types HO_215002.out BK214.out (by decide)) BK215.out (by decide)) (fun _ hk => hk.1.2) (.int .i64 (wrap64 (a1_5 + 1)))) (fun _ hk => hk.2) (.int .i64 a1_0)) (fun _ hk => hk.2) (.int .i64 x215001_5)) (fun _ hk => hk.2) (.slice Ao29 x215002_5.length co29)) (fun _ hk => hk.2) (.int .i64 x215003_5)) (fun _ hk => hk.2) (.int .i64 x215004_2)) (fun _ hk => hk.2) (.int .i64 (wrap64 (a1_5 + 1)))) (fun _ hk => trivial), lB⟩
       ·rw [if_neg c49] at H
        have c49b0 : (x215001_5 == 3) = false := beq_eq_false_iff_ne.mpr c49
        have c49b1 : (x215001_5 != 3) = true := bne_iff_ne.mpr c49
        by_cases c55 : (x215002_5.length : Int) = 4
        ·rw [if_pos c55] at H
         have c55b0 : ((x215002_5.length : Int) == 4) = true := beq_iff_eq.mpr c55
         have c55b1 : ((x215002_5.length : Int) != 4) = false := bne_eq_false_iff_eq.mpr c55
         clear c55
         simp only [Option.some.injEq, Prod.mk.injEq] at H
         obtain ⟨rfl, rfl, rfl, rfl, rfl, rfl⟩ := H
         have hnb56 := NB214_213.out
         have hnc56 := NB213_214.out
         have hnb57 := NB214_215.out
         have hnc57 := NB215_214.out
         obtain ⟨hcz58_0, hfz58_0, hcz58_1, hfz58_1, hcz58_2, hfz58_2, hcz58_3, hfz58_3, hcz58_4, hfz58_4, hcz58_5, hfz58_5⟩ := bk6 BK214.out
         have hnb59 := NB215_213.out
         have hnc59 := NB213_215.out
         obtain ⟨hcz60_0, hfz60_0, hcz60_1, hfz60_1, hcz60_2, hfz60_2, hcz60_3, hfz60_3, hcz60_4, hfz60_4, hcz60_5, hfz60_5⟩ := bk6 BK215.out
         go_wp2
         refine bodyPost_ret (results_cell_row rfl _ _ gb215 44 #[.int .i64 a1_0, .int .i64 3, .slice none 0 0, .int .i64 x215003_5, .int .i64 x215004_2, .int .i64 (wrap64 (a1_5 + 1))] (0, 0) _ rfl (by (with_reducible repeat first | apply bN | apply bD | apply bA); refine blk_put (cs := #[.int .i64 a1_0, .int .i64 3, .slice none 0 0, .int .i64 x215003_5, .int .i64 x215004_2, .int .i64 x216005_2]) ?_ 5 _ rfl; (with_reducible repeat first | apply bN | apply bD | apply bA); refine blk_put (cs := #[.int .i64 a1_0, .int .i64 3, .slice none 0 0, .int .i64 x215003_5, .int .i64 x216004_2, .int .i64 x216005_2]) ?_ 4 _ rfl; (with_reducible repeat first | apply bN | apply bD | apply bA); refine blk_put (cs := #[.int .i64 a1_0, .int .i64 3, .slice none 0 0, .int .i64 x216003_2, .int .i64 x216004_2, .int .i64 x216005_2]) ?_ 3 _ rfl; (with_reducible repeat first | apply bN | apply bD | apply bA); refine blk_put (cs := #[.int .i64 a1_0, .int .i64 3, .slice none 0 0, .int .i64 x216003_2, .int .i64 x216004_2, .int .i64 x216005_2]) ?_ 2 _ rfl; (with_reducible repeat first | apply bN | apply bD | apply bA); refine blk_put (cs := #[.int .i64 a1_0, .int .i64 x216001_2, .slice none 0 0, .int .i64 x216003_2, .int .i64 x216004_2, .int .i64 x216005_2]) ?_ 1 _ rfl; (with_reducible repeat first | apply bN | apply bD | apply bA); refine blk_put (cs := #[.int .i64 x216000_2, .int .i64 x216001_2, .slice none 0 0, .int .i64 x216003_2, .int .i64 x216004_2, .int .i64 x216005_2]) ?_ 0 _ rfl; (with_reducible repeat first | apply bN | apply bD | apply bA); refine blk_far ?_ NB215_214.out _; (with_reducible repeat first | apply bN | apply bD | apply bA); refine blk_far ?_ NB215_214.out _; (with_reducible repeat first | apply bN | apply bD | apply bA); refine blk_far ?_ NB215_214.out _; (with_reducible repeat first | apply bN | apply bD | apply bA); exact BK215.out) Try.underlying44 rfl (by kernel_rfl)) rfl ?_
         exact ⟨_, lE, by first | exact Kd.R_nil _ _ _ _ _ | exact Kd.N_nil _ _ _ _ _ | exact Kd.V_nil _ _ _ _ _ | exact Kd.Q_nil _ _ _ _ _ | exact Kd.S_nil _ _ _ _ _, lB⟩
        ·rw [if_neg c55] at H
         have c55b0 : ((x215002_5.length : Int) == 4) = false := beq_eq_false_iff_ne.mpr c55
         have c55b1 : ((x215002_5.length : Int) != 4) = true := bne_iff_ne.mpr c55
         by_cases c61 : x215002_5.length < 8796093022208
         ·rw [if_pos c61] at H
          have LMc61 := Aside0.mk c61
          clear c61
          obtain ⟨y224, hy224⟩ : ∃ y_ : List (S97), y_ = (x215002_5 ++ [(⟨a2, a3⟩ : S97)]) := ⟨_, rfl⟩
          replace H : (if (y224.length : Int) = 1 then (some (a1_0, 1, y224, x215003_5, x215004_2, wrap64 (a1_5 + 1))) else (some (a1_0, 2, y224, x215003_5, x215004_2, wrap64 (a1_5 + 1)))) = some (r1, r2, r3, r4, r5, r6) := by first | (rw [hy224]; with_reducible exact H) | (have H2_ := (Option.bind_some _ _).symm.trans H; rw [hy224]; with_reducible exact H2_) | (have H2_ := (Option.bind_some _ _).symm.trans H; with_reducible exact H2_) | with_reducible exact H | (rw [hy224]; exact H) | exact H
          have Ny224 := Aside0.mk hy224
          clear hy224
          by_cases c62 : (y224.length : Int) = 1
          ·rw [if_pos c62] at H
           have c62b0 : ((y224.length : Int) == 1) = true := beq_iff_eq.mpr c62
           have c62b1 : ((y224.length : Int) != 1) = false := bne_eq_false_iff_eq.mpr c62
           clear c62
           simp only [Option.some.injEq, Prod.mk.injEq] at H
           obtain ⟨rfl, rfl, rfl, rfl, rfl, rfl⟩ := H
           have hnb63 := NB214_213.out
           have hnc63 := NB213_214.out
           have hnb64 := NB214_215.out
           have hnc64 := NB215_214.out
           obtain ⟨hcz65_0, hfz65_0, hcz65_1, hfz65_1, hcz65_2, hfz65_2, hcz65_3, hfz65_3, hcz65_4, hfz65_4, hcz65_5, hfz65_5⟩ := bk6 BK214.out
           go_wp2_with (first | ((with_reducible refine gate_builtin (b := .append) (xs := #[.tmp 48, .tmp 52]) rfl ?_); at_builtin; refine Kd.R_append k97 (w0 := w) w.heap.size rfl (.tmp 48) (.tmp 52) 42 97 (.agg #[(.int .i64 0), (.int .i64 0)]) 16 rfl Try.underlying42 info97 rfl (by decide) (by omega) (.slice Ao29 x215002_5.length co29) x215002_5 (⟨a2, a3⟩ : S97) [.int .i64 a2, .int .i64 a3] (fun _ => True) (fun _ => False) rfl (by first | (go_simp; done) | (go_simp; rfl)) ?aP (fun _ hk => hk.elim) ?aF ?aO ?aB ?aS ?aL ?_; (case aP => exact k97_mkM _ _ _ (⟨a2, a3⟩ : S97)); (case aB => exact lB); (case aF => exact (fun _ _ => trivial)); (case aO => exact (by (with_reducible repeat (first | apply Kd.R_alloc | apply Kd.R_drewN | apply Kd.R_drew)); exact Kd.R_mono (Kd.R_far (p := ⟨gb214, 5, none⟩) (Kd.R_types HO_215002.out BK214.out (by decide)) (fun _ hk => hk.2) (.int .i64 (wrap64 (a1_5 + 1)))) (fun _ hk => trivial))); (case aS => exact (below_size lB)); (case aL => have := LMc61.out; omega); intro v225 w66 ho hb hg hat; rw [← Ny224.out] at ho; have n0_ := Aside0.mk (blk_grown (lJ BK213.out) hg (Kd.R_ne HO_215002.out BK213.out (by decide))); have n1_ := Aside0.mk (blk_grown (g := gb214) (o := .cells #[.int .i64 a1_0, .int .i64 x215001_5, .slice Ao29 x215002_5.length co29, .int .i64 x215003_5, .int .i64 x215004_2, .int .i64 (wrap64 (a1_5 + 1))] 44 (0, 0)) (by (with_reducible repeat first | apply bN | apply bD | apply bA); refine blk_put (cs := #[.int .i64 a1_0, .int .i64 x215001_5, .slice Ao29 x215002_5.length co29, .int .i64 x215003_5, .int .i64 x215004_2, .int .i64 a1_5]) ?_ 5 _ rfl; (with_reducible repeat first | apply bN | apply bD | apply bA); exact BK214.out) hg (Kd.R_ne HO_215002.out BK214.out (by decide))); have n2_ := Aside0.mk (blk_grown (lJ BK215.out) hg (Kd.R_ne HO_215002.out BK215.out (by decide))); have n3_ := Aside0.mk (hb); have n4_ := Aside0.mk (ho); clear BK213; clear BK214; clear BK215; clear HB; clear HO_215002; have BK213 := n0_; have BK214 := n1_; have BK215 := n2_; have HB := n3_; have HO226 := n4_; clear n0_ n1_ n2_ n3_ n4_; clear ho hb hg hat; obtain ⟨Ao67, co67, eo67⟩ := Kd.R_slice HO226.out; subst eo67; have hdd_ := tw_ BK214.out 2 1 (.slice Ao67 y224.length co67) (.int .i64 2); obtain ⟨hcz68_0, hfz68_0, hcz68_1, hfz68_1, hcz68_2, hfz68_2, hcz68_3, hfz68_3, hcz68_4, hfz68_4, hcz68_5, hfz68_5⟩ := bk6 BK214.out; have hnb69 := NB215_213.out; have hnc69 := NB213_215.out; obtain ⟨hcz70_0, hfz70_0, hcz70_1, hfz70_1, hcz70_2, hfz70_2, hcz70_3, hfz70_3, hcz70_4, hfz70_4, hcz70_5, hfz70_5⟩ := bk6 BK215.out))
           refine bodyPost_ret (results_cell_row rfl _ _ gb215 44 #[.int .i64 a1_0, .int .i64 1, .slice Ao67 y224.length co67, .int .i64 x215003_5, .int .i64 x215004_2, .int .i64 (wrap64 (a1_5 + 1))] (0, 0) _ rfl (by (with_reducible repeat first | apply bN | apply bD | apply bA); refine blk_put (cs := #[.int .i64 a1_0, .int .i64 1, .slice Ao67 y224.length co67, .int .i64 x215003_5, .int .i64 x215004_2, .int .i64 x216005_2]) ?_ 5 _ rfl; (with_reducible repeat first | apply bN | apply bD | apply bA); refine blk_put (cs := #[.int .i64 a1_0, .int .i64 1, .slice Ao67 y224.length co67, .int .i64 x215003_5, .int .i64 x216004_2, .int .i64 x216005_2]) ?_ 4 _ rfl; (with_reducible repeat first | apply bN | apply bD | apply bA); refine blk_put (cs := #[.int .i64 a1_0, .int .i64 1, .slice Ao67 y224.length co67, .int .i64 x216003_2, .int .i64 x216004_2, .int .i64 x216005_2]) ?_ 3 _ rfl; (with_reducible repeat first | apply bN | apply bD | apply bA); refine blk_put (cs := #[.int .i64 a1_0, .int .i64 1, .slice none 0 0, .int .i64 x216003_2, .int .i64 x216004_2, .int .i64 x216005_2]) ?_ 2 _ rfl; (with_reducible repeat first | apply bN | apply bD | apply bA); refine blk_put (cs := #[.int .i64 a1_0, .int .i64 x216001_2, .slice none 0 0, .int .i64 x216003_2, .int .i64 x216004_2, .int .i64 x216005_2]) ?_ 1 _ rfl; (with_reducible repeat first | apply bN | apply bD | apply bA); refine blk_put (cs := #[.int .i64 x216000_2, .int .i64 x216001_2, .slice none 0 0, .int .i64 x216003_2, .int .i64 x216004_2, .int .i64 x216005_2]) ?_ 0 _ rfl; (with_reducible repeat first | apply bN | apply bD | apply bA); refine blk_far ?_ NB215_214.out _; (with_reducible repeat first | apply bN | apply bD | apply bA); refine blk_far ?_ NB215_214.out _; (with_reducible repeat first | apply bN | apply bD | apply bA); refine blk_far ?_ NB215_214.out _; (with_reducible repeat first | apply bN | apply bD | apply bA); exact BK215.out) Try.underlying44 rfl (by kernel_rfl)) rfl ?_
           exact ⟨_, lE, by (with_reducible repeat (first | apply Kd.R_alloc | apply Kd.R_drewN | apply Kd.R_drew)); exact Kd.R_mono (Kd.R_far (p := ⟨gb215, 5, none⟩) (Kd.R_far (p := ⟨gb215, 4, none⟩) (Kd.R_far (p := ⟨gb215, 3, none⟩) (Kd.R_far (p := ⟨gb215, 2, none⟩) (Kd.R_far (p := ⟨gb215, 1, none⟩) (Kd.R_far (p := ⟨gb215, 0, none⟩) (Kd.R_far (p := ⟨gb214, 1, none⟩) (Kd.R_far (p := ⟨gb214, 1, none⟩) (Kd.R_far (p := ⟨gb214, 2, none⟩) (Kd.R_types (Kd.R_types HO226.out BK214.out (by decide)) BK215.out (by decide)) (fun _ hk => hk.1.2) (.slice Ao67 y224.length co67)) (fun _ hk => hk.1.2) (.int .i64 2)) (fun _ hk => hk.1.2) (.int .i64 1)) (fun _ hk => hk.2) (.int .i64 a1_0)) (fun _ hk => hk.2) (.int .i64 1)) (fun _ hk => hk.2) (.slice Ao67 y224.length co67)) (fun _ hk => hk.2) (.int .i64 x215003_5)) (fun _ hk => hk.2) (.int .i64 x215004_2)) (fun _ hk => hk.2) (.int .i64 (wrap64 (a1_5 + 1)))) (fun _ hk => trivial), lB⟩
          ·rw [if_neg c62] at H
           have c62b0 : ((y224.length : Int) == 1) = false := beq_eq_false_iff_ne.mpr c62
           have c62b1 : ((y224.length : Int) != 1) = true := bne_iff_ne.mpr c62
           simp only [Option.some.injEq, Prod.mk.injEq] at H
           obtain ⟨rfl, rfl, rfl, rfl, rfl, rfl⟩ := H
           have hnb71 := NB214_213.out
           have hnc71 := NB213_214.out
           have hnb72 := NB214_215.out
           have hnc72 := NB215_214.out
           obtain ⟨hcz73_0, hfz73_0, hcz73_1, hfz73_1, hcz73_2, hfz73_2, hcz73_3, hfz73_3, hcz73_4, hfz73_4, hcz73_5, hfz73_5⟩ := bk6 BK214.out
           go_wp2_with (first | ((with_reducible refine gate_builtin (b := .append) (xs := #[.tmp 48, .tmp 52]) rfl ?_); at_builtin; refine Kd.R_append k97 (w0 := w) w.heap.size rfl (.tmp 48) (.tmp 52) 42 97 (.agg #[(.int .i64 0), (.int .i64 0)]) 16 rfl Try.underlying42 info97 rfl (by decide) (by omega) (.slice Ao29 x215002_5.length co29) x215002_5 (⟨a2, a3⟩ : S97) [.int .i64 a2, .int .i64 a3] (fun _ => True) (fun _ => False) rfl (by first | (go_simp; done) | (go_simp; rfl)) ?aP (fun _ hk => hk.elim) ?aF ?aO ?aB ?aS ?aL ?_; (case aP => exact k97_mkM _ _ _ (⟨a2, a3⟩ : S97)); (case aB => exact lB); (case aF => exact (fun _ _ => trivial)); (case aO => exact (by (with_reducible repeat (first | apply Kd.R_alloc | apply Kd.R_drewN | apply Kd.R_drew)); exact Kd.R_mono (Kd.R_far (p := ⟨gb214, 5, none⟩) (Kd.R_types HO_215002.out BK214.out (by decide)) (fun _ hk => hk.2) (.int .i64 (wrap64 (a1_5 + 1)))) (fun _ hk => trivial))); (case aS => exact (below_size lB)); (case aL => have := LMc61.out; omega); intro v225 w74 ho hb hg hat; rw [← Ny224.out] at ho; have n0_ := Aside0.mk (blk_grown (lJ BK213.out) hg (Kd.R_ne HO_215002.out BK213.out (by decide))); have n1_ := Aside0.mk (blk_grown (g := gb214) (o := .cells #[.int .i64 a1_0, .int .i64 x215001_5, .slice Ao29 x215002_5.length co29, .int .i64 x215003_5, .int .i64 x215004_2, .int .i64 (wrap64 (a1_5 + 1))] 44 (0, 0)) (by (with_reducible repeat first | apply bN | apply bD | apply bA); refine blk_put (cs := #[.int .i64 a1_0, .int .i64 x215001_5, .slice Ao29 x215002_5.length co29, .int .i64 x215003_5, .int .i64 x215004_2, .int .i64 a1_5]) ?_ 5 _ rfl; (with_reducible repeat first | apply bN | apply bD | apply bA); exact BK214.out) hg (Kd.R_ne HO_215002.out BK214.out (by decide))); have n2_ := Aside0.mk (blk_grown (lJ BK215.out) hg (Kd.R_ne HO_215002.out BK215.out (by decide))); have n3_ := Aside0.mk (hb); have n4_ := Aside0.mk (ho); clear BK213; clear BK214; clear BK215; clear HB; clear HO_215002; have BK213 := n0_; have BK214 := n1_; have BK215 := n2_; have HB := n3_; have HO226 := n4_; clear n0_ n1_ n2_ n3_ n4_; clear ho hb hg hat; obtain ⟨Ao75, co75, eo75⟩ := Kd.R_slice HO226.out; subst eo75; obtain ⟨hcz76_0, hfz76_0, hcz76_1, hfz76_1, hcz76_2, hfz76_2, hcz76_3, hfz76_3, hcz76_4, hfz76_4, hcz76_5, hfz76_5⟩ := bk6 BK214.out; have hnb77 := NB215_213.out; have hnc77 := NB213_215.out; obtain ⟨hcz78_0, hfz78_0, hcz78_1, hfz78_1, hcz78_2, hfz78_2, hcz78_3, hfz78_3, hcz78_4, hfz78_4, hcz78_5, hfz78_5⟩ := bk6 BK215.out))
           refine bodyPost_ret (results_cell_row rfl _ _ gb215 44 #[.int .i64 a1_0, .int .i64 2, .slice Ao75 y224.length co75, .int .i64 x215003_5, .int .i64 x215004_2, .int .i64 (wrap64 (a1_5 + 1))] (0, 0) _ rfl (by (with_reducible repeat first | apply bN | apply bD | apply bA); refine blk_put (cs := #[.int .i64 a1_0, .int .i64 2, .slice Ao75 y224.length co75, .int .i64 x215003_5, .int .i64 x215004_2, .int .i64 x216005_2]) ?_ 5 _ rfl; (with_reducible repeat first | apply bN | apply bD | apply bA); refine blk_put (cs := #[.int .i64 a1_0, .int .i64 2, .slice Ao75 y224.length co75, .int .i64 x215003_5, .int .i64 x216004_2, .int .i64 x216005_2]) ?_ 4 _ rfl; (with_reducible repeat first | apply bN | apply bD | apply bA); refine blk_put (cs := #[.int .i64 a1_0, .int .i64 2, .slice Ao75 y224.length co75, .int .i64 x216003_2, .int .i64 x216004_2, .int .i64 x216005_2]) ?_ 3 _ rfl; (with_reducible repeat first | apply bN | apply bD | apply bA); refine blk_put (cs := #[.int .i64 a1_0, .int .i64 2, .slice none 0 0, .int .i64 x216003_2, .int .i64 x216004_2, .int .i64 x216005_2]) ?_ 2 _ rfl; (with_reducible repeat first | apply bN | apply bD | apply bA); refine blk_put (cs := #[.int .i64 a1_0, .int .i64 x216001_2, .slice none 0 0, .int .i64 x216003_2, .int .i64 x216004_2, .int .i64 x216005_2]) ?_ 1 _ rfl; (with_reducible repeat first | apply bN | apply bD | apply bA); refine blk_put (cs := #[.int .i64 x216000_2, .int .i64 x216001_2, .slice none 0 0, .int .i64 x216003_2, .int .i64 x216004_2, .int .i64 x216005_2]) ?_ 0 _ rfl; (with_reducible repeat first | apply bN | apply bD | apply bA); refine blk_far ?_ NB215_214.out _; (with_reducible repeat first | apply bN | apply bD | apply bA); refine blk_far ?_ NB215_214.out _; (with_reducible repeat first | apply bN | apply bD | apply bA); exact BK215.out) Try.underlying44 rfl (by kernel_rfl)) rfl ?_
           exact ⟨_, lE, by (with_reducible repeat (first | apply Kd.R_alloc | apply Kd.R_drewN | apply Kd.R_drew)); exact Kd.R_mono (Kd.R_far (p := ⟨gb215, 5, none⟩) (Kd.R_far (p := ⟨gb215, 4, none⟩) (Kd.R_far (p := ⟨gb215, 3, none⟩) (Kd.R_far (p := ⟨gb215, 2, none⟩) (Kd.R_far (p := ⟨gb215, 1, none⟩) (Kd.R_far (p := ⟨gb215, 0, none⟩) (Kd.R_far (p := ⟨gb214, 1, none⟩) (Kd.R_far (p := ⟨gb214, 2, none⟩) (Kd.R_types (Kd.R_types HO226.out BK214.out (by decide)) BK215.out (by decide)) (fun _ hk => hk.1.2) (.slice Ao75 y224.length co75)) (fun _ hk => hk.1.2) (.int .i64 2)) (fun _ hk => hk.2) (.int .i64 a1_0)) (fun _ hk => hk.2) (.int .i64 2)) (fun _ hk => hk.2) (.slice Ao75 y224.length co75)) (fun _ hk => hk.2) (.int .i64 x215003_5)) (fun _ hk => hk.2) (.int .i64 x215004_2)) (fun _ hk => hk.2) (.int .i64 (wrap64 (a1_5 + 1)))) (fun _ hk => trivial), lB⟩
         ·rw [if_neg c61] at H
          exact absurd H (by simp)
 ·rw [if_neg c5] at H
  exact absurd H (by simp)

/-! ### spec_CallBy: function 41 -/
def spec_CallBy.j0 : Nat → Int → Bool → List (S82) → Int → Int → Int → List (S97) → Int → Int → Int → Option (Int × Int × (List (S97)) × Int × Int × Int × Int × Bool)
 | 0, _, _, _, _, _, _, _, _, _, _ => none
 | k + 1, x2, x20, x228000, x228001, x229000, x229001, x229002, x229003, x229004, x229005 => if x20 = true then (some (0, 0, ([] : List (S97)), 0, 0, 0, 0, false)) else ((spec_l12Find.f k x228000 x228001 x2 x229000).bind fun t232 => ((spec_l12Call.f k x228000 x228001 x229000 x229001 x229002 x229003 x229004 x229005 x2 t232).bind fun bt233 => (if t232 = 0 then (some (0, 0, ([] : List (S97)), 0, 0, 0, 0, false)) else ((spec_GoodCache.f k x228000 x228001 bt233.1 bt233.2.1 bt233.2.2.1 bt233.2.2.2.1 bt233.2.2.2.2.1 bt233.2.2.2.2.2).bind fun t242 => (if t242 = true then (some (bt233.1, bt233.2.1, bt233.2.2.1, bt233.2.2.2.1, bt233.2.2.2.2.1, bt233.2.2.2.2.2, t232, true)) else (some (0, 0, ([] : List (S97)), 0, 0, 0, 0, false)))))))
def spec_CallBy.f (k : Nat) (l0_0 : List (S82)) (a0_1 : Int) (a1_0 : Int) (a1_1 : Int) (l1_2 : List (S97)) (a1_3 : Int) (a1_4 : Int) (a1_5 : Int) (a2 : Int) : Option (Int × Int × (List (S97)) × Int × Int × Int × Int × Bool) := (spec_GoodCache.f k l0_0 a0_1 a1_0 a1_1 l1_2 a1_3 a1_4 a1_5).bind fun t230 => (if t230 = true then ((spec_l12Class.f l0_0 a0_1 a2).bind fun t231 => (spec_CallBy.j0 k a2 (!t231) l0_0 a0_1 a1_0 a1_1 l1_2 a1_3 a1_4 a1_5)) else (spec_CallBy.j0 k a2 true l0_0 a0_1 a1_0 a1_1 l1_2 a1_3 a1_4 a1_5))
theorem spec_CallBy.mono_l : ∀ k, (∀ y0 y1 y2 y3 y4 y5 y6 y7 y8 y9, LeO (spec_CallBy.j0 k y0 y1 y2 y3 y4 y5 y6 y7 y8 y9) (spec_CallBy.j0 (k + 1) y0 y1 y2 y3 y4 y5 y6 y7 y8 y9))
 | 0 => fun _ _ _ _ _ _ _ _ _ _ r h => by simp [spec_CallBy.j0] at h
 | k + 1 => by
  have ih0 := spec_CallBy.mono_l k
  ·intro y0 y1 y2 y3 y4 y5 y6 y7 y8 y9
   unfold spec_CallBy.j0
   repeat' first
   | with_reducible apply ih0
   | with_reducible apply spec_GoodCache.mono
   | with_reducible apply spec_l12Call.mono
   | with_reducible apply spec_l12Find.mono
   | (with_reducible exact LeO.refl _)
   | (with_reducible exact LeO.none _)
   | (with_reducible refine LeO.ite ?_ ?_)
   | (with_reducible refine LeO.bind ?_ (fun _ => ?_))
   | apply ih0
   | apply spec_GoodCache.mono
   | apply spec_l12Call.mono
   | apply spec_l12Find.mono
   | exact LeO.none _
   | refine LeO.ite ?_ ?_
   | refine LeO.bind ?_ (fun _ => ?_)
theorem spec_CallBy.mono : ∀ a0 a1 a2 a3 a4 a5 a6 a7 a8 k, LeO (spec_CallBy.f k a0 a1 a2 a3 a4 a5 a6 a7 a8) (spec_CallBy.f (k + 1) a0 a1 a2 a3 a4 a5 a6 a7 a8) := by
 intro a0 a1 a2 a3 a4 a5 a6 a7 a8 k
 have ih0 := spec_CallBy.mono_l k
 unfold spec_CallBy.f
 repeat' first
   | with_reducible apply ih0
   | with_reducible apply spec_GoodCache.mono
   | with_reducible apply spec_l12Call.mono
   | with_reducible apply spec_l12Find.mono
   | (with_reducible exact LeO.refl _)
   | (with_reducible exact LeO.none _)
   | (with_reducible refine LeO.ite ?_ ?_)
   | (with_reducible refine LeO.bind ?_ (fun _ => ?_))
   | apply ih0
   | apply spec_GoodCache.mono
   | apply spec_l12Call.mono
   | apply spec_l12Find.mono
   | exact LeO.none _
   | refine LeO.ite ?_ ?_
   | refine LeO.bind ?_ (fun _ => ?_)
set_option maxHeartbeats 8000000 in
set_option maxRecDepth 100000 in
theorem spec_CallBy.calls (k : Nat) (A0_0 : Option Addr) (c0_0 : Nat) (l0_0 : List (S82)) (a0_1 : Int) (a1_0 : Int) (a1_1 : Int) (A1_2 : Option Addr) (c1_2 : Nat) (l1_2 : List (S97)) (a1_3 : Int) (a1_4 : Int) (a1_5 : Int) (a2 : Int) (r1 : Int) (r2 : Int) (r3 : List (S97)) (r4 : Int) (r5 : Int) (r6 : Int) (r7 : Int) (r8 : Bool) (w : World) (hr0_0 : Kd.C k82 w A0_0 l0_0.length l0_0) (hc0_0 : l0_0.length ≤ c0_0) (hr1_2 : Kd.C k97 w A1_2 l1_2.length l1_2) (hc1_2 : l1_2.length ≤ c1_2) (h : spec_CallBy.f k l0_0 a0_1 a1_0 a1_1 l1_2 a1_3 a1_4 a1_5 a2 = some (r1, r2, r3, r4, r5, r6, r7, r8)) :
  Calls Try.prog 41 #[.agg #[.slice A0_0 l0_0.length c0_0, .int .i64 a0_1], .agg #[.int .i64 a1_0, .int .i64 a1_1, .slice A1_2 l1_2.length c1_2, .int .i64 a1_3, .int .i64 a1_4, .int .i64 a1_5], .int .i64 a2] w fun e w' => ∃ v2_ : Value, e = .returned (.tuple #[.agg #[.int .i64 r1, .int .i64 r2, v2_, .int .i64 r4, .int .i64 r5, .int .i64 r6], .int .i64 r7, .bool r8]) ∧ Kd.R k97 97 w' w.heap.size (fun _ => True) v2_ r3 ∧ Below w.heap.size w w' := by
 have hu29 := Try.underlying29
 have hu44 := Try.underlying44
 have HR0_0 := Aside0.mk hr0_0
 have HC0_0 := Aside0.mk hc0_0
 clear hr0_0 hc0_0
 have HR1_2 := Aside0.mk hr1_2
 have HC1_2 := Aside0.mk hc1_2
 clear hr1_2 hc1_2
 have HB := Aside0.mk (Below.refl w.heap.size w)
 have H : ((spec_GoodCache.f k l0_0 a0_1 a1_0 a1_1 l1_2 a1_3 a1_4 a1_5).bind fun t230 => (if t230 = true then ((spec_l12Class.f l0_0 a0_1 a2).bind fun t231 => (spec_CallBy.j0 k a2 (!t231) l0_0 a0_1 a1_0 a1_1 l1_2 a1_3 a1_4 a1_5)) else (spec_CallBy.j0 k a2 true l0_0 a0_1 a1_0 a1_1 l1_2 a1_3 a1_4 a1_5))) = some (r1, r2, r3, r4, r5, r6, r7, r8) := h
 clear h
 have HC4 := Aside0.mk H
 clear H
 go_enter Try.func41, Try.ntmps41
 go_upto_region 1 with (first | ((with_reducible refine gate_dst (N := 3) rfl ?_); refine bxe 3 #[.slice A0_0 l0_0.length c0_0, .int .i64 a0_1] 29 ?_; intro gb227 hg w5 hbox hb; have n0_ := Aside0.mk (below_step lB hb); have n1_ := Aside0.mk (hbox); have n2_ := lG w hg; have n3_ := lG w hg; clear HB; have HB := n0_; have BK227 := n1_; have GW227 := n2_; have GE227 := n3_; clear n0_ n1_ n2_ n3_; clear hb hbox hg) | ((with_reducible refine gate_dst (N := 4) rfl ?_); refine bxe 4 #[.int .i64 a1_0, .int .i64 a1_1, .slice A1_2 l1_2.length c1_2, .int .i64 a1_3, .int .i64 a1_4, .int .i64 a1_5] 44 ?_; intro gb228 hg w6 hbox hb; have n0_ := Aside0.mk (blk_below (lK BK227.out) hb); have n1_ := Aside0.mk (below_step lB hb); have n2_ := Aside0.mk (hbox); have n3_ := lG w hg; have n4_ := lG w hg; have n5_ := Aside0.mk ((by rw [hg]; exact Nat.ne_of_lt (blk_lt (lK BK227.out)) : gb227 ≠ gb228)); have n6_ := Aside0.mk ((by rw [hg]; exact Nat.ne_of_gt (blk_lt (lK BK227.out)) : gb228 ≠ gb227)); clear BK227; clear HB; have BK227 := n0_; have HB := n1_; have BK228 := n2_; have GW228 := n3_; have GE228 := n4_; have NB227_228 := n5_; have NB228_227 := n6_; clear n0_ n1_ n2_ n3_ n4_ n5_ n6_; clear hb hbox hg) | ((with_reducible refine gate_dst (N := 6) rfl ?_); refine bxe 6 #[.int .i64 0, .int .i64 0, .slice none 0 0, .int .i64 0, .int .i64 0, .int .i64 0] 44 ?_; intro gb229 hg w7 hbox hb; have n0_ := Aside0.mk (blk_below (lK BK227.out) hb); have n1_ := Aside0.mk (blk_below (lK BK228.out) hb); have n2_ := Aside0.mk (below_step lB hb); have n3_ := Aside0.mk (hbox); have n4_ := lG w hg; have n5_ := lG w hg; have n6_ := Aside0.mk ((by rw [hg]; exact Nat.ne_of_lt (blk_lt (lK BK227.out)) : gb227 ≠ gb229)); have n7_ := Aside0.mk ((by rw [hg]; exact Nat.ne_of_gt (blk_lt (lK BK227.out)) : gb229 ≠ gb227)); have n8_ := Aside0.mk ((by rw [hg]; exact Nat.ne_of_lt (blk_lt (lK BK228.out)) : gb228 ≠ gb229)); have n9_ := Aside0.mk ((by rw [hg]; exact Nat.ne_of_gt (blk_lt (lK BK228.out)) : gb229 ≠ gb228)); clear BK227; clear BK228; clear HB; have BK227 := n0_; have BK228 := n1_; have HB := n2_; have BK229 := n3_; have GW229 := n4_; have GE229 := n5_; have NB227_229 := n6_; have NB229_227 := n7_; have NB228_229 := n8_; have NB229_228 := n9_; clear n0_ n1_ n2_ n3_ n4_ n5_ n6_ n7_ n8_ n9_; clear hb hbox hg))
 (try simp only [Act.put, List.setIfInBounds_toArray, List.set_cons_zero, List.set_cons_succ])
 go_cut [20] (fun v20 wc => ∃ (kq : Nat) (x20_3 : Bool), v20 = .bool x20_3 ∧ Aside0 (spec_CallBy.j0 kq a2 x20_3 l0_0 a0_1 a1_0 a1_1 l1_2 a1_3 a1_4 a1_5 = some (r1, r2, r3, r4, r5, r6, r7, r8)) ∧ Aside0 (kq ≤ k) ∧ Aside0 (wc.heap[gb227]? = some (.cells #[(.slice A0_0 l0_0.length c0_0), .int .i64 a0_1] 29 (0, 0))) ∧ Aside0 (wc.heap[gb228]? = some (.cells #[.int .i64 a1_0, .int .i64 a1_1, (.slice A1_2 l1_2.length c1_2), .int .i64 a1_3, .int .i64 a1_4, .int .i64 a1_5] 44 (0, 0))) ∧ Aside0 (wc.heap[gb229]? = some (.cells #[.int .i64 0, .int .i64 0, (.slice none 0 0), .int .i64 0, .int .i64 0, .int .i64 0] 44 (0, 0))) ∧ Aside0 (Below w.heap.size w wc))
 case first =>
  have H := HC4.out
  clear HC4
  replace H := lO H
  obtain ⟨t230, A8, H⟩ := H
  by_cases c9 : t230 = true
  ·subst c9
   rw [if_pos rfl] at H
   replace H := lO H
   obtain ⟨t231, A10, H⟩ := H
   have H' := Aside0.mk H
   clear H
   have hnb11 := NB227_228.out
   have hnc11 := NB228_227.out
   have hnb12 := NB227_229.out
   have hnc12 := NB229_227.out
   obtain ⟨hcz13_0, hfz13_0, hcz13_1, hfz13_1⟩ := bk2 BK227.out
   have hnb14 := NB228_229.out
   have hnc14 := NB229_228.out
   obtain ⟨hcz15_0, hfz15_0, hcz15_1, hfz15_1, hcz15_2, hfz15_2, hcz15_3, hfz15_3, hcz15_4, hfz15_4, hcz15_5, hfz15_5⟩ := bk6 BK228.out
   go_wp2_with (first | ((with_reducible refine gate_callee (f := 32) rfl ?_); refine gl_ (some 13) (Try.func32) #[.agg #[.slice A0_0 l0_0.length c0_0, .int .i64 a0_1], .agg #[.int .i64 a1_0, .int .i64 a1_1, .slice A1_2 l1_2.length c1_2, .int .i64 a1_3, .int .i64 a1_4, .int .i64 a1_5]] ?_; (with_reducible refine (spec_GoodCache.calls k _ _ l0_0 a0_1 a1_0 a1_1 _ _ l1_2 a1_3 a1_4 a1_5 true _ ?side1 ?side2 ?side3 ?side4 A8.out).mono ?_); (case side1 => exact lC (Kd.C_below HR0_0.out HB.out)); (case side2 => exact HC0_0.out); (case side3 => exact lC (Kd.C_below HR1_2.out HB.out)); (case side4 => exact HC1_2.out); rintro e w16 ⟨rfl, hb⟩; refine ⟨_, rfl, ?_⟩; have n0_ := Aside0.mk (blk_below (lK BK227.out) hb); have n1_ := Aside0.mk (blk_below (lK BK228.out) hb); have n2_ := Aside0.mk (blk_below (lK BK229.out) hb); have n3_ := Aside0.mk (below_step lB hb); clear BK227; clear BK228; clear BK229; clear HB; have BK227 := n0_; have BK228 := n1_; have BK229 := n2_; have HB := n3_; clear n0_ n1_ n2_ n3_; (try clear hb); (try clear hb2); (try clear hk); (try clear hi); obtain ⟨hcz17_0, hfz17_0, hcz17_1, hfz17_1⟩ := bk2 BK227.out) | (go_at_call 58; (with_reducible refine (spec_l12Class.calls _ _ l0_0 a0_1 a2 t231 _ ?side1 ?side2 A10.out).mono ?_); (case side1 => exact lC (Kd.C_below HR0_0.out HB.out)); (case side2 => exact HC0_0.out); rintro e w18 ⟨rfl, hb⟩; have n0_ := Aside0.mk (blk_below (lK BK227.out) hb); have n1_ := Aside0.mk (blk_below (lK BK228.out) hb); have n2_ := Aside0.mk (blk_below (lK BK229.out) hb); have n3_ := Aside0.mk (below_step lB hb); clear BK227; clear BK228; clear BK229; clear HB; have BK227 := n0_; have BK228 := n1_; have BK229 := n2_; have HB := n3_; clear n0_ n1_ n2_ n3_; (try clear hb); (try clear hb2); (try clear hk); (try clear hi)))
   go_meet
   case rel => exact ⟨_, (!t231), lF, H', ⟨lN⟩, ⟨lK BK227.out⟩, ⟨lK BK228.out⟩, ⟨lK BK229.out⟩, ⟨lB⟩⟩
  ·replace c9 := Bool.eq_false_iff.mpr c9
   subst c9
   rw [if_neg (show ¬ (false = true) by decide)] at H
   have H' := Aside0.mk H
   clear H
   have hnb19 := NB227_228.out
   have hnc19 := NB228_227.out
   have hnb20 := NB227_229.out
   have hnc20 := NB229_227.out
   obtain ⟨hcz21_0, hfz21_0, hcz21_1, hfz21_1⟩ := bk2 BK227.out
   have hnb22 := NB228_229.out
   have hnc22 := NB229_228.out
   obtain ⟨hcz23_0, hfz23_0, hcz23_1, hfz23_1, hcz23_2, hfz23_2, hcz23_3, hfz23_3, hcz23_4, hfz23_4, hcz23_5, hfz23_5⟩ := bk6 BK228.out
   go_wp2_with (first | ((with_reducible refine gate_callee (f := 32) rfl ?_); refine gl_ (some 13) (Try.func32) #[.agg #[.slice A0_0 l0_0.length c0_0, .int .i64 a0_1], .agg #[.int .i64 a1_0, .int .i64 a1_1, .slice A1_2 l1_2.length c1_2, .int .i64 a1_3, .int .i64 a1_4, .int .i64 a1_5]] ?_; (with_reducible refine (spec_GoodCache.calls k _ _ l0_0 a0_1 a1_0 a1_1 _ _ l1_2 a1_3 a1_4 a1_5 false _ ?side1 ?side2 ?side3 ?side4 A8.out).mono ?_); (case side1 => exact lC (Kd.C_below HR0_0.out HB.out)); (case side2 => exact HC0_0.out); (case side3 => exact lC (Kd.C_below HR1_2.out HB.out)); (case side4 => exact HC1_2.out); rintro e w24 ⟨rfl, hb⟩; refine ⟨_, rfl, ?_⟩; have n0_ := Aside0.mk (blk_below (lK BK227.out) hb); have n1_ := Aside0.mk (blk_below (lK BK228.out) hb); have n2_ := Aside0.mk (blk_below (lK BK229.out) hb); have n3_ := Aside0.mk (below_step lB hb); clear BK227; clear BK228; clear BK229; clear HB; have BK227 := n0_; have BK228 := n1_; have BK229 := n2_; have HB := n3_; clear n0_ n1_ n2_ n3_; (try clear hb); (try clear hb2); (try clear hk); (try clear hi)))
   go_meet
   case rel => exact ⟨_, (true), lF, H', ⟨lN⟩, ⟨lK BK227.out⟩, ⟨lK BK228.out⟩, ⟨lK BK229.out⟩, ⟨lB⟩⟩
 case rest =>
  clear HC4
  try clear c1
  try clear c2
  try clear p2
  try clear c3
  try clear c4
  try clear c9
  try clear c11
  try clear c12
  try clear c14
  try clear c19
  try clear c20
  try clear c22
  try clear hcz13_0 hcz13_1
  try clear hcz15_0 hcz15_1 hcz15_2 hcz15_3 hcz15_4 hcz15_5
  try clear hcz17_0 hcz17_1
  try clear hcz21_0 hcz21_1
  try clear hcz23_0 hcz23_1 hcz23_2 hcz23_3 hcz23_4 hcz23_5
  try clear hfz13_0 hfz13_1
  try clear hfz15_0 hfz15_1 hfz15_2 hfz15_3 hfz15_4 hfz15_5
  try clear hfz17_0 hfz17_1
  try clear hfz21_0 hfz21_1
  try clear hfz23_0 hfz23_1 hfz23_2 hfz23_3 hfz23_4 hfz23_5
  obtain ⟨kq, x20_3, rfl, HA, HJ3, BK227, BK228, BK229, HB⟩ := hcut
  cases kq with
  | zero => exact absurd HA.out (by simp [spec_CallBy.j0])
  | succ kj3 =>
   have H := HA.out
   clear HA
   simp only [spec_CallBy.j0] at H
   by_cases c25 : x20_3 = true
   ·subst c25
    rw [if_pos rfl] at H
    simp only [Option.some.injEq, Prod.mk.injEq] at H
    obtain ⟨rfl, rfl, rfl, rfl, rfl, rfl, rfl, rfl⟩ := H
    have hnb26 := NB229_227.out
    have hnc26 := NB227_229.out
    have hnb27 := NB229_228.out
    have hnc27 := NB228_229.out
    obtain ⟨hcz28_0, hfz28_0, hcz28_1, hfz28_1, hcz28_2, hfz28_2, hcz28_3, hfz28_3, hcz28_4, hfz28_4, hcz28_5, hfz28_5⟩ := bk6 BK229.out
    go_wp2
    refine bodyPost_ret (results_ctt rfl _ _ gb229 44 #[.int .i64 0, .int .i64 0, .slice none 0 0, .int .i64 0, .int .i64 0, .int .i64 0] (0, 0) _ rfl (by (with_reducible repeat first | apply bN | apply bD | apply bA); refine blk_put (cs := #[.int .i64 0, .int .i64 0, .slice none 0 0, .int .i64 0, .int .i64 0, .int .i64 0]) ?_ 5 _ rfl; (with_reducible repeat first | apply bN | apply bD | apply bA); refine blk_put (cs := #[.int .i64 0, .int .i64 0, .slice none 0 0, .int .i64 0, .int .i64 0, .int .i64 0]) ?_ 4 _ rfl; (with_reducible repeat first | apply bN | apply bD | apply bA); refine blk_put (cs := #[.int .i64 0, .int .i64 0, .slice none 0 0, .int .i64 0, .int .i64 0, .int .i64 0]) ?_ 3 _ rfl; (with_reducible repeat first | apply bN | apply bD | apply bA); refine blk_put (cs := #[.int .i64 0, .int .i64 0, .slice none 0 0, .int .i64 0, .int .i64 0, .int .i64 0]) ?_ 2 _ rfl; (with_reducible repeat first | apply bN | apply bD | apply bA); refine blk_put (cs := #[.int .i64 0, .int .i64 0, .slice none 0 0, .int .i64 0, .int .i64 0, .int .i64 0]) ?_ 1 _ rfl; (with_reducible repeat first | apply bN | apply bD | apply bA); refine blk_put (cs := #[.int .i64 0, .int .i64 0, .slice none 0 0, .int .i64 0, .int .i64 0, .int .i64 0]) ?_ 0 _ rfl; (with_reducible repeat first | apply bN | apply bD | apply bA); exact BK229.out) Try.underlying44 rfl (by kernel_rfl)) rfl ?_
    exact ⟨_, lE, by first | exact Kd.R_nil _ _ _ _ _ | exact Kd.N_nil _ _ _ _ _ | exact Kd.V_nil _ _ _ _ _ | exact Kd.Q_nil _ _ _ _ _ | exact Kd.S_nil _ _ _ _ _, lB⟩
   ·replace c25 := Bool.eq_false_iff.mpr c25
    subst c25
    rw [if_neg (show ¬ (false = true) by decide)] at H
    replace H := lO H
    obtain ⟨t232, A29, H⟩ := H
    replace H := Option.bind_eq_some_iff.mp H
    obtain ⟨⟨t233, t234, t235, t238, t239, t240⟩, A300, H⟩ := H
    replace H : (if t232 = 0 then (some (0, 0, ([] : List (S97)), 0, 0, 0, 0, false)) else ((spec_GoodCache.f kj3 l0_0 a0_1 t233 t234 t235 t238 t239 t240).bind fun t242 => (if t242 = true then (some (t233, t234, t235, t238, t239, t240, t232, true)) else (some (0, 0, ([] : List (S97)), 0, 0, 0, 0, false))))) = some (r1, r2, r3, r4, r5, r6, r7, r8) := H
    have A30 := Aside0.mk A300
    clear A300
    by_cases c31 : t232 = 0
    ·rw [if_pos c31] at H
     have c31b0 : (t232 == 0) = true := beq_iff_eq.mpr c31
     have c31b1 : (t232 != 0) = false := bne_eq_false_iff_eq.mpr c31
     clear c31
     simp only [Option.some.injEq, Prod.mk.injEq] at H
     obtain ⟨rfl, rfl, rfl, rfl, rfl, rfl, rfl, rfl⟩ := H
     have hnb32 := NB227_228.out
     have hnc32 := NB228_227.out
     have hnb33 := NB227_229.out
     have hnc33 := NB229_227.out
     obtain ⟨hcz34_0, hfz34_0, hcz34_1, hfz34_1⟩ := bk2 BK227.out
     have hnb35 := NB228_229.out
     have hnc35 := NB229_228.out
     obtain ⟨hcz36_0, hfz36_0, hcz36_1, hfz36_1, hcz36_2, hfz36_2, hcz36_3, hfz36_3, hcz36_4, hfz36_4, hcz36_5, hfz36_5⟩ := bk6 BK228.out
     go_wp2_with (first | ((with_reducible refine gate_callee (f := 61) rfl ?_); refine gl_ (some 26) (Try.func61) #[.agg #[.slice A0_0 l0_0.length c0_0, .int .i64 a0_1], .int .i64 a2, .int .i64 a1_0] ?_; (with_reducible refine (spec_l12Find.calls kj3 _ _ l0_0 a0_1 a2 a1_0 t232 _ ?side1 ?side2 A29.out).mono ?_); (case side1 => exact lC (Kd.C_below HR0_0.out HB.out)); (case side2 => exact HC0_0.out); rintro e w37 ⟨rfl, hb⟩; refine ⟨_, rfl, ?_⟩; have n0_ := Aside0.mk (blk_below (lK BK227.out) hb); have n1_ := Aside0.mk (blk_below (lK BK228.out) hb); have n2_ := Aside0.mk (blk_below (lK BK229.out) hb); have n3_ := Aside0.mk (below_step lB hb); clear BK227; clear BK228; clear BK229; clear HB; have BK227 := n0_; have BK228 := n1_; have BK229 := n2_; have HB := n3_; clear n0_ n1_ n2_ n3_; (try clear hb); (try clear hb2); (try clear hk); (try clear hi); obtain ⟨hcz38_0, hfz38_0, hcz38_1, hfz38_1⟩ := bk2 BK227.out; obtain ⟨hcz39_0, hfz39_0, hcz39_1, hfz39_1, hcz39_2, hfz39_2, hcz39_3, hfz39_3, hcz39_4, hfz39_4, hcz39_5, hfz39_5⟩ := bk6 BK228.out) | ((with_reducible refine gate_callee (f := 76) rfl ?_); refine gl_ (some 31) (Try.func76) #[.agg #[.slice A0_0 l0_0.length c0_0, .int .i64 a0_1], .agg #[.int .i64 a1_0, .int .i64 a1_1, .slice A1_2 l1_2.length c1_2, .int .i64 a1_3, .int .i64 a1_4, .int .i64 a1_5], .int .i64 a2, .int .i64 t232] ?_; (with_reducible refine (spec_l12Call.calls kj3 _ _ l0_0 a0_1 a1_0 a1_1 _ _ l1_2 a1_3 a1_4 a1_5 a2 t232 t233 t234 t235 t238 t239 t240 _ ?side1 ?side2 ?side3 ?side4 A30.out).mono ?_); (case side1 => exact lC (Kd.C_below HR0_0.out HB.out)); (case side2 => exact HC0_0.out); (case side3 => exact lC (Kd.C_below HR1_2.out HB.out)); (case side4 => exact HC1_2.out); rintro e w40 ⟨v236, rfl, ho0, hb⟩; refine ⟨_, rfl, ?_⟩; have n0_ := Aside0.mk (Kd.R_lower ho0 (below_size lB)); have n1_ := Aside0.mk (blk_below (lK BK227.out) hb); have n2_ := Aside0.mk (blk_below (lK BK228.out) hb); have n3_ := Aside0.mk (blk_below (lK BK229.out) hb); have n4_ := Aside0.mk (below_step lB hb); clear BK227; clear BK228; clear BK229; clear HB; have HO237 := n0_; have BK227 := n1_; have BK228 := n2_; have BK229 := n3_; have HB := n4_; clear n0_ n1_ n2_ n3_ n4_; (try clear hb); (try clear hb2); (try clear hk); (try clear hi); (try clear ho0)) | ((with_reducible refine gate_dst (N := 10) rfl ?_); refine bxe 10 #[.int .i64 0, .int .i64 0, .slice none 0 0, .int .i64 0, .int .i64 0, .int .i64 0] 44 ?_; intro gb241 hg w41 hbox hb; have n0_ := Aside0.mk (Kd.R_below (lR HO237.out) hb); have n1_ := Aside0.mk (blk_below (lK BK227.out) hb); have n2_ := Aside0.mk (blk_below (lK BK228.out) hb); have n3_ := Aside0.mk (blk_below (lK BK229.out) hb); have n4_ := Aside0.mk (below_step lB hb); have n5_ := Aside0.mk (hbox); have n6_ := lG w hg; have n7_ := lG w hg; have n8_ := Aside0.mk ((by rw [hg]; exact Nat.ne_of_lt (blk_lt (lK BK227.out)) : gb227 ≠ gb241)); have n9_ := Aside0.mk ((by rw [hg]; exact Nat.ne_of_gt (blk_lt (lK BK227.out)) : gb241 ≠ gb227)); have n10_ := Aside0.mk ((by rw [hg]; exact Nat.ne_of_lt (blk_lt (lK BK228.out)) : gb228 ≠ gb241)); have n11_ := Aside0.mk ((by rw [hg]; exact Nat.ne_of_gt (blk_lt (lK BK228.out)) : gb241 ≠ gb228)); have n12_ := Aside0.mk ((by rw [hg]; exact Nat.ne_of_lt (blk_lt (lK BK229.out)) : gb229 ≠ gb241)); have n13_ := Aside0.mk ((by rw [hg]; exact Nat.ne_of_gt (blk_lt (lK BK229.out)) : gb241 ≠ gb229)); clear HO237; clear BK227; clear BK228; clear BK229; clear HB; have HO237 := n0_; have BK227 := n1_; have BK228 := n2_; have BK229 := n3_; have HB := n4_; have BK241 := n5_; have GW241 := n6_; have GE241 := n7_; have NB227_241 := n8_; have NB241_227 := n9_; have NB228_241 := n10_; have NB241_228 := n11_; have NB229_241 := n12_; have NB241_229 := n13_; clear n0_ n1_ n2_ n3_ n4_ n5_ n6_ n7_ n8_ n9_ n10_ n11_ n12_ n13_; clear hb hbox hg; have hnb42 := NB241_227.out; have hnc42 := NB227_241.out; have hnb43 := NB241_228.out; have hnc43 := NB228_241.out; have hnb44 := NB241_229.out; have hnc44 := NB229_241.out; obtain ⟨hcz45_0, hfz45_0, hcz45_1, hfz45_1, hcz45_2, hfz45_2, hcz45_3, hfz45_3, hcz45_4, hfz45_4, hcz45_5, hfz45_5⟩ := bk6 BK241.out; obtain ⟨Ao46, co46, eo46⟩ := Kd.R_slice HO237.out; subst eo46; obtain ⟨hcz47_0, hfz47_0, hcz47_1, hfz47_1, hcz47_2, hfz47_2, hcz47_3, hfz47_3, hcz47_4, hfz47_4, hcz47_5, hfz47_5⟩ := bk6 BK229.out))
     refine bodyPost_ret (results_ctt rfl _ _ gb229 44 #[.int .i64 0, .int .i64 0, .slice none 0 0, .int .i64 0, .int .i64 0, .int .i64 0] (0, 0) _ rfl (by (with_reducible repeat first | apply bN | apply bD | apply bA); refine blk_put (cs := #[.int .i64 0, .int .i64 0, .slice none 0 0, .int .i64 0, .int .i64 0, .int .i64 0]) ?_ 5 _ rfl; (with_reducible repeat first | apply bN | apply bD | apply bA); refine blk_put (cs := #[.int .i64 0, .int .i64 0, .slice none 0 0, .int .i64 0, .int .i64 0, .int .i64 0]) ?_ 4 _ rfl; (with_reducible repeat first | apply bN | apply bD | apply bA); refine blk_put (cs := #[.int .i64 0, .int .i64 0, .slice none 0 0, .int .i64 0, .int .i64 0, .int .i64 0]) ?_ 3 _ rfl; (with_reducible repeat first | apply bN | apply bD | apply bA); refine blk_put (cs := #[.int .i64 0, .int .i64 0, .slice none 0 0, .int .i64 0, .int .i64 0, .int .i64 0]) ?_ 2 _ rfl; (with_reducible repeat first | apply bN | apply bD | apply bA); refine blk_put (cs := #[.int .i64 0, .int .i64 0, .slice none 0 0, .int .i64 0, .int .i64 0, .int .i64 0]) ?_ 1 _ rfl; (with_reducible repeat first | apply bN | apply bD | apply bA); refine blk_put (cs := #[.int .i64 0, .int .i64 0, .slice none 0 0, .int .i64 0, .int .i64 0, .int .i64 0]) ?_ 0 _ rfl; (with_reducible repeat first | apply bN | apply bD | apply bA); refine blk_far ?_ NB229_241.out _; (with_reducible repeat first | apply bN | apply bD | apply bA); refine blk_far ?_ NB229_241.out _; (with_reducible repeat first | apply bN | apply bD | apply bA); refine blk_far ?_ NB229_241.out _; (with_reducible repeat first | apply bN | apply bD | apply bA); refine blk_far ?_ NB229_241.out _; (with_reducible repeat first | apply bN | apply bD | apply bA); refine blk_far ?_ NB229_241.out _; (with_reducible repeat first | apply bN | apply bD | apply bA); refine blk_far ?_ NB229_241.out _; (with_reducible repeat first | apply bN | apply bD | apply bA); exact BK229.out) Try.underlying44 rfl (by kernel_rfl)) rfl ?_
     exact ⟨_, lE, by first | exact Kd.R_nil _ _ _ _ _ | exact Kd.N_nil _ _ _ _ _ | exact Kd.V_nil _ _ _ _ _ | exact Kd.Q_nil _ _ _ _ _ | exact Kd.S_nil _ _ _ _ _, lB⟩
    ·rw [if_neg c31] at H
     have c31b0 : (t232 == 0) = false := beq_eq_false_iff_ne.mpr c31
     have c31b1 : (t232 != 0) = true := bne_iff_ne.mpr c31
     replace H := lO H
     obtain ⟨t242, A48, H⟩ := H
     by_cases c49 : t242 = true
     ·subst c49
      rw [if_pos rfl] at H
      simp only [Option.some.injEq, Prod.mk.injEq] at H
      obtain ⟨rfl, rfl, rfl, rfl, rfl, rfl, rfl, rfl⟩ := H
      have hnb50 := NB227_228.out
      have hnc50 := NB228_227.out
      have hnb51 := NB227_229.out
      have hnc51 := NB229_227.out
      obtain ⟨hcz52_0, hfz52_0, hcz52_1, hfz52_1⟩ := bk2 BK227.out
      have hnb53 := NB228_229.out
      have hnc53 := NB229_228.out
      obtain ⟨hcz54_0, hfz54_0, hcz54_1, hfz54_1, hcz54_2, hfz54_2, hcz54_3, hfz54_3, hcz54_4, hfz54_4, hcz54_5, hfz54_5⟩ := bk6 BK228.out
      go_wp2_with (first | ((with_reducible refine gate_callee (f := 61) rfl ?_); refine gl_ (some 26) (Try.func61) #[.agg #[.slice A0_0 l0_0.length c0_0, .int .i64 a0_1], .int .i64 a2, .int .i64 a1_0] ?_; (with_reducible refine (spec_l12Find.calls kj3 _ _ l0_0 a0_1 a2 a1_0 t232 _ ?side1 ?side2 A29.out).mono ?_); (case side1 => exact lC (Kd.C_below HR0_0.out HB.out)); (case side2 => exact HC0_0.out); rintro e w55 ⟨rfl, hb⟩; refine ⟨_, rfl, ?_⟩; have n0_ := Aside0.mk (blk_below (lK BK227.out) hb); have n1_ := Aside0.mk (blk_below (lK BK228.out) hb); have n2_ := Aside0.mk (blk_below (lK BK229.out) hb); have n3_ := Aside0.mk (below_step lB hb); clear BK227; clear BK228; clear BK229; clear HB; have BK227 := n0_; have BK228 := n1_; have BK229 := n2_; have HB := n3_; clear n0_ n1_ n2_ n3_; (try clear hb); (try clear hb2); (try clear hk); (try clear hi); obtain ⟨hcz56_0, hfz56_0, hcz56_1, hfz56_1⟩ := bk2 BK227.out; obtain ⟨hcz57_0, hfz57_0, hcz57_1, hfz57_1, hcz57_2, hfz57_2, hcz57_3, hfz57_3, hcz57_4, hfz57_4, hcz57_5, hfz57_5⟩ := bk6 BK228.out) | ((with_reducible refine gate_callee (f := 76) rfl ?_); refine gl_ (some 31) (Try.func76) #[.agg #[.slice A0_0 l0_0.length c0_0, .int .i64 a0_1], .agg #[.int .i64 a1_0, .int .i64 a1_1, .slice A1_2 l1_2.length c1_2, .int .i64 a1_3, .int .i64 a1_4, .int .i64 a1_5], .int .i64 a2, .int .i64 t232] ?_; (with_reducible refine (spec_l12Call.calls kj3 _ _ l0_0 a0_1 a1_0 a1_1 _ _ l1_2 a1_3 a1_4 a1_5 a2 t232 t233 t234 t235 t238 t239 t240 _ ?side1 ?side2 ?side3 ?side4 A30.out).mono ?_); (case side1 => exact lC (Kd.C_below HR0_0.out HB.out)); (case side2 => exact HC0_0.out); (case side3 => exact lC (Kd.C_below HR1_2.out HB.out)); (case side4 => exact HC1_2.out); rintro e w58 ⟨v236, rfl, ho0, hb⟩; refine ⟨_, rfl, ?_⟩; have n0_ := Aside0.mk (Kd.R_lower ho0 (below_size lB)); have n1_ := Aside0.mk (blk_below (lK BK227.out) hb); have n2_ := Aside0.mk (blk_below (lK BK228.out) hb); have n3_ := Aside0.mk (blk_below (lK BK229.out) hb); have n4_ := Aside0.mk (below_step lB hb); clear BK227; clear BK228; clear BK229; clear HB; have HO237 := n0_; have BK227 := n1_; have BK228 := n2_; have BK229 := n3_; have HB := n4_; clear n0_ n1_ n2_ n3_ n4_; (try clear hb); (try clear hb2); (try clear hk); (try clear hi); (try clear ho0)) | ((with_reducible refine gate_dst (N := 10) rfl ?_); refine bxe 10 #[.int .i64 0, .int .i64 0, .slice none 0 0, .int .i64 0, .int .i64 0, .int .i64 0] 44 ?_; intro gb241 hg w59 hbox hb; have n0_ := Aside0.mk (Kd.R_below (lR HO237.out) hb); have n1_ := Aside0.mk (blk_below (lK BK227.out) hb); have n2_ := Aside0.mk (blk_below (lK BK228.out) hb); have n3_ := Aside0.mk (blk_below (lK BK229.out) hb); have n4_ := Aside0.mk (below_step lB hb); have n5_ := Aside0.mk (hbox); have n6_ := lG w hg; have n7_ := lG w hg; have n8_ := Aside0.mk ((by rw [hg]; exact Nat.ne_of_lt (blk_lt (lK BK227.out)) : gb227 ≠ gb241)); have n9_ := Aside0.mk ((by rw [hg]; exact Nat.ne_of_gt (blk_lt (lK BK227.out)) : gb241 ≠ gb227)); have n10_ := Aside0.mk ((by rw [hg]; exact Nat.ne_of_lt (blk_lt (lK BK228.out)) : gb228 ≠ gb241)); have n11_ := Aside0.mk ((by rw [hg]; exact Nat.ne_of_gt (blk_lt (lK BK228.out)) : gb241 ≠ gb228)); have n12_ := Aside0.mk ((by rw [hg]; exact Nat.ne_of_lt (blk_lt (lK BK229.out)) : gb229 ≠ gb241)); have n13_ := Aside0.mk ((by rw [hg]; exact Nat.ne_of_gt (blk_lt (lK BK229.out)) : gb241 ≠ gb229)); clear HO237; clear BK227; clear BK228; clear BK229; clear HB; have HO237 := n0_; have BK227 := n1_; have BK228 := n2_; have BK229 := n3_; have HB := n4_; have BK241 := n5_; have GW241 := n6_; have GE241 := n7_; have NB227_241 := n8_; have NB241_227 := n9_; have NB228_241 := n10_; have NB241_228 := n11_; have NB229_241 := n12_; have NB241_229 := n13_; clear n0_ n1_ n2_ n3_ n4_ n5_ n6_ n7_ n8_ n9_ n10_ n11_ n12_ n13_; clear hb hbox hg; have hnb60 := NB241_227.out; have hnc60 := NB227_241.out; have hnb61 := NB241_228.out; have hnc61 := NB228_241.out; have hnb62 := NB241_229.out; have hnc62 := NB229_241.out; obtain ⟨hcz63_0, hfz63_0, hcz63_1, hfz63_1, hcz63_2, hfz63_2, hcz63_3, hfz63_3, hcz63_4, hfz63_4, hcz63_5, hfz63_5⟩ := bk6 BK241.out; obtain ⟨Ao64, co64, eo64⟩ := Kd.R_slice HO237.out; subst eo64; obtain ⟨hcz65_0, hfz65_0, hcz65_1, hfz65_1⟩ := bk2 BK227.out) | (go_at_call 32; (with_reducible refine (spec_GoodCache.calls kj3 _ _ l0_0 a0_1 t233 t234 _ _ t235 t238 t239 t240 true _ ?side1 ?side2 ?side3 ?side4 A48.out).mono ?_); (case side1 => exact Kd.C_below HR0_0.out lB); (case side2 => exact HC0_0.out); (case side3 => refine (Kd.R_reads' (e := 97) (base := w.heap.size) (ok := fun k_ => True) (n := t235.length) (c := co64) ?_).2.2; exact (by (with_reducible repeat (first | apply Kd.R_alloc | apply Kd.R_drewN | apply Kd.R_drew)); exact (Kd.R_mono (Kd.R_far (p := ⟨gb241, 5, none⟩) (Kd.R_far (p := ⟨gb241, 4, none⟩) (Kd.R_far (p := ⟨gb241, 3, none⟩) (Kd.R_far (p := ⟨gb241, 2, none⟩) (Kd.R_far (p := ⟨gb241, 1, none⟩) (Kd.R_far (p := ⟨gb241, 0, none⟩) (Kd.R_types HO237.out BK241.out (by decide)) (fun _ hk => hk.2) (.int .i64 t233)) (fun _ hk => hk.2) (.int .i64 t234)) (fun _ hk => hk.2) (.slice Ao64 t235.length co64)) (fun _ hk => hk.2) (.int .i64 t238)) (fun _ hk => hk.2) (.int .i64 t239)) (fun _ hk => hk.2) (.int .i64 t240)) (fun _ h_ => h_.1)))); (case side4 => exact (Kd.R_reads' HO237.out).2.1); rintro e w66 ⟨rfl, hb⟩; have n0_ := Aside0.mk (Kd.R_below (by (with_reducible repeat (first | apply Kd.R_alloc | apply Kd.R_drewN | apply Kd.R_drew)); exact (Kd.R_mono (Kd.R_far (p := ⟨gb241, 5, none⟩) (Kd.R_far (p := ⟨gb241, 4, none⟩) (Kd.R_far (p := ⟨gb241, 3, none⟩) (Kd.R_far (p := ⟨gb241, 2, none⟩) (Kd.R_far (p := ⟨gb241, 1, none⟩) (Kd.R_far (p := ⟨gb241, 0, none⟩) (Kd.R_types HO237.out BK241.out (by decide)) (fun _ hk => hk.2) (.int .i64 t233)) (fun _ hk => hk.2) (.int .i64 t234)) (fun _ hk => hk.2) (.slice Ao64 t235.length co64)) (fun _ hk => hk.2) (.int .i64 t238)) (fun _ hk => hk.2) (.int .i64 t239)) (fun _ hk => hk.2) (.int .i64 t240)) (fun _ h_ => h_.1))) hb); have n1_ := Aside0.mk (blk_below (lJ BK227.out) hb); have n2_ := Aside0.mk (blk_below (lJ BK228.out) hb); have n3_ := Aside0.mk (blk_below (lJ BK229.out) hb); have n4_ := Aside0.mk (blk_below (g := gb241) (o := .cells #[.int .i64 t233, .int .i64 t234, .slice Ao64 t235.length co64, .int .i64 t238, .int .i64 t239, .int .i64 t240] 44 (0, 0)) (by (with_reducible repeat first | apply bN | apply bD | apply bA); refine blk_put (cs := #[.int .i64 t233, .int .i64 t234, .slice Ao64 t235.length co64, .int .i64 t238, .int .i64 t239, .int .i64 0]) ?_ 5 _ rfl; (with_reducible repeat first | apply bN | apply bD | apply bA); refine blk_put (cs := #[.int .i64 t233, .int .i64 t234, .slice Ao64 t235.length co64, .int .i64 t238, .int .i64 0, .int .i64 0]) ?_ 4 _ rfl; (with_reducible repeat first | apply bN | apply bD | apply bA); refine blk_put (cs := #[.int .i64 t233, .int .i64 t234, .slice Ao64 t235.length co64, .int .i64 0, .int .i64 0, .int .i64 0]) ?_ 3 _ rfl; (with_reducible repeat first | apply bN | apply bD | apply bA); refine blk_put (cs := #[.int .i64 t233, .int .i64 t234, .slice none 0 0, .int .i64 0, .int .i64 0, .int .i64 0]) ?_ 2 _ rfl; (with_reducible repeat first | apply bN | apply bD | apply bA); refine blk_put (cs := #[.int .i64 t233, .int .i64 0, .slice none 0 0, .int .i64 0, .int .i64 0, .int .i64 0]) ?_ 1 _ rfl; (with_reducible repeat first | apply bN | apply bD | apply bA); refine blk_put (cs := #[.int .i64 0, .int .i64 0, .slice none 0 0, .int .i64 0, .int .i64 0, .int .i64 0]) ?_ 0 _ rfl; (with_reducible repeat first | apply bN | apply bD | apply bA); exact BK241.out) hb); have n5_ := Aside0.mk (below_step lB hb); clear HO237; clear BK227; clear BK228; clear BK229; clear BK241; clear HB; have HO237 := n0_; have BK227 := n1_; have BK228 := n2_; have BK229 := n3_; have BK241 := n4_; have HB := n5_; clear n0_ n1_ n2_ n3_ n4_ n5_; (try clear hb); (try clear hb2); (try clear hk); (try clear hi); obtain ⟨hcz67_0, hfz67_0, hcz67_1, hfz67_1, hcz67_2, hfz67_2, hcz67_3, hfz67_3, hcz67_4, hfz67_4, hcz67_5, hfz67_5⟩ := bk6 BK241.out; obtain ⟨hcz68_0, hfz68_0, hcz68_1, hfz68_1, hcz68_2, hfz68_2, hcz68_3, hfz68_3, hcz68_4, hfz68_4, hcz68_5, hfz68_5⟩ := bk6 BK229.out))
      refine bodyPost_ret (results_ctt rfl _ _ gb229 44 #[.int .i64 t233, .int .i64 t234, .slice Ao64 t235.length co64, .int .i64 t238, .int .i64 t239, .int .i64 t240] (0, 0) _ rfl (by (with_reducible repeat first | apply bN | apply bD | apply bA); refine blk_put (cs := #[.int .i64 t233, .int .i64 t234, .slice Ao64 t235.length co64, .int .i64 t238, .int .i64 t239, .int .i64 0]) ?_ 5 _ rfl; (with_reducible repeat first | apply bN | apply bD | apply bA); refine blk_put (cs := #[.int .i64 t233, .int .i64 t234, .slice Ao64 t235.length co64, .int .i64 t238, .int .i64 0, .int .i64 0]) ?_ 4 _ rfl; (with_reducible repeat first | apply bN | apply bD | apply bA); refine blk_put (cs := #[.int .i64 t233, .int .i64 t234, .slice Ao64 t235.length co64, .int .i64 0, .int .i64 0, .int .i64 0]) ?_ 3 _ rfl; (with_reducible repeat first | apply bN | apply bD | apply bA); refine blk_put (cs := #[.int .i64 t233, .int .i64 t234, .slice none 0 0, .int .i64 0, .int .i64 0, .int .i64 0]) ?_ 2 _ rfl; (with_reducible repeat first | apply bN | apply bD | apply bA); refine blk_put (cs := #[.int .i64 t233, .int .i64 0, .slice none 0 0, .int .i64 0, .int .i64 0, .int .i64 0]) ?_ 1 _ rfl; (with_reducible repeat first | apply bN | apply bD | apply bA); refine blk_put (cs := #[.int .i64 0, .int .i64 0, .slice none 0 0, .int .i64 0, .int .i64 0, .int .i64 0]) ?_ 0 _ rfl; (with_reducible repeat first | apply bN | apply bD | apply bA); exact BK229.out) Try.underlying44 rfl (by kernel_rfl)) rfl ?_
      exact ⟨_, lE, by (with_reducible repeat (first | apply Kd.R_alloc | apply Kd.R_drewN | apply Kd.R_drew)); exact Kd.R_mono (Kd.R_far (p := ⟨gb229, 5, none⟩) (Kd.R_far (p := ⟨gb229, 4, none⟩) (Kd.R_far (p := ⟨gb229, 3, none⟩) (Kd.R_far (p := ⟨gb229, 2, none⟩) (Kd.R_far (p := ⟨gb229, 1, none⟩) (Kd.R_far (p := ⟨gb229, 0, none⟩) (Kd.R_types HO237.out BK229.out (by decide)) (fun _ hk => hk.2) (.int .i64 t233)) (fun _ hk => hk.2) (.int .i64 t234)) (fun _ hk => hk.2) (.slice Ao64 t235.length co64)) (fun _ hk => hk.2) (.int .i64 t238)) (fun _ hk => hk.2) (.int .i64 t239)) (fun _ hk => hk.2) (.int .i64 t240)) (fun _ hk => trivial), lB⟩
     ·replace c49 := Bool.eq_false_iff.mpr c49
      subst c49
      rw [if_neg (show ¬ (false = true) by decide)] at H
      simp only [Option.some.injEq, Prod.mk.injEq] at H
      obtain ⟨rfl, rfl, rfl, rfl, rfl, rfl, rfl, rfl⟩ := H
      have hnb69 := NB227_228.out
      have hnc69 := NB228_227.out
      have hnb70 := NB227_229.out
      have hnc70 := NB229_227.out
      obtain ⟨hcz71_0, hfz71_0, hcz71_1, hfz71_1⟩ := bk2 BK227.out
      have hnb72 := NB228_229.out
      have hnc72 := NB229_228.out
      obtain ⟨hcz73_0, hfz73_0, hcz73_1, hfz73_1, hcz73_2, hfz73_2, hcz73_3, hfz73_3, hcz73_4, hfz73_4, hcz73_5, hfz73_5⟩ := bk6 BK228.out
      go_wp2_with (first | ((with_reducible refine gate_callee (f := 61) rfl ?_); refine gl_ (some 26) (Try.func61) #[.agg #[.slice A0_0 l0_0.length c0_0, .int .i64 a0_1], .int .i64 a2, .int .i64 a1_0] ?_; (with_reducible refine (spec_l12Find.calls kj3 _ _ l0_0 a0_1 a2 a1_0 t232 _ ?side1 ?side2 A29.out).mono ?_); (case side1 => exact lC (Kd.C_below HR0_0.out HB.out)); (case side2 => exact HC0_0.out); rintro e w74 ⟨rfl, hb⟩; refine ⟨_, rfl, ?_⟩; have n0_ := Aside0.mk (blk_below (lK BK227.out) hb); have n1_ := Aside0.mk (blk_below (lK BK228.out) hb); have n2_ := Aside0.mk (blk_below (lK BK229.out) hb); have n3_ := Aside0.mk (below_step lB hb); clear BK227; clear BK228; clear BK229; clear HB; have BK227 := n0_; have BK228 := n1_; have BK229 := n2_; have HB := n3_; clear n0_ n1_ n2_ n3_; (try clear hb); (try clear hb2); (try clear hk); (try clear hi); obtain ⟨hcz75_0, hfz75_0, hcz75_1, hfz75_1⟩ := bk2 BK227.out; obtain ⟨hcz76_0, hfz76_0, hcz76_1, hfz76_1, hcz76_2, hfz76_2, hcz76_3, hfz76_3, hcz76_4, hfz76_4, hcz76_5, hfz76_5⟩ := bk6 BK228.out) | ((with_reducible refine gate_callee (f := 76) rfl ?_); refine gl_ (some 31) (Try.func76) #[.agg #[.slice A0_0 l0_0.length c0_0, .int .i64 a0_1], .agg #[.int .i64 a1_0, .int .i64 a1_1, .slice A1_2 l1_2.length c1_2, .int .i64 a1_3, .int .i64 a1_4, .int .i64 a1_5], .int .i64 a2, .int .i64 t232] ?_; (with_reducible refine (spec_l12Call.calls kj3 _ _ l0_0 a0_1 a1_0 a1_1 _ _ l1_2 a1_3 a1_4 a1_5 a2 t232 t233 t234 t235 t238 t239 t240 _ ?side1 ?side2 ?side3 ?side4 A30.out).mono ?_); (case side1 => exact lC (Kd.C_below HR0_0.out HB.out)); (case side2 => exact HC0_0.out); (case side3 => exact lC (Kd.C_below HR1_2.out HB.out)); (case side4 => exact HC1_2.out); rintro e w77 ⟨v236, rfl, ho0, hb⟩; refine ⟨_, rfl, ?_⟩; have n0_ := Aside0.mk (Kd.R_lower ho0 (below_size lB)); have n1_ := Aside0.mk (blk_below (lK BK227.out) hb); have n2_ := Aside0.mk (blk_below (lK BK228.out) hb); have n3_ := Aside0.mk (blk_below (lK BK229.out) hb); have n4_ := Aside0.mk (below_step lB hb); clear BK227; clear BK228; clear BK229; clear HB; have HO237 := n0_; have BK227 := n1_; have BK228 := n2_; have BK229 := n3_; have HB := n4_; clear n0_ n1_ n2_ n3_ n4_; (try clear hb); (try clear hb2); (try clear hk); (try clear hi); (try clear ho0)) | ((with_reducible refine gate_dst (N := 10) rfl ?_); refine bxe 10 #[.int .i64 0, .int .i64 0, .slice none 0 0, .int .i64 0, .int .i64 0, .int .i64 0] 44 ?_; intro gb241 hg w78 hbox hb; have n0_ := Aside0.mk (Kd.R_below (lR HO237.out) hb); have n1_ := Aside0.mk (blk_below (lK BK227.out) hb); have n2_ := Aside0.mk (blk_below (lK BK228.out) hb); have n3_ := Aside0.mk (blk_below (lK BK229.out) hb); have n4_ := Aside0.mk (below_step lB hb); have n5_ := Aside0.mk (hbox); have n6_ := lG w hg; have n7_ := lG w hg; have n8_ := Aside0.mk ((by rw [hg]; exact Nat.ne_of_lt (blk_lt (lK BK227.out)) : gb227 ≠ gb241)); have n9_ := Aside0.mk ((by rw [hg]; exact Nat.ne_of_gt (blk_lt (lK BK227.out)) : gb241 ≠ gb227)); have n10_ := Aside0.mk ((by rw [hg]; exact Nat.ne_of_lt (blk_lt (lK BK228.out)) : gb228 ≠ gb241)); have n11_ := Aside0.mk ((by rw [hg]; exact Nat.ne_of_gt (blk_lt (lK BK228.out)) : gb241 ≠ gb228)); have n12_ := Aside0.mk ((by rw [hg]; exact Nat.ne_of_lt (blk_lt (lK BK229.out)) : gb229 ≠ gb241)); have n13_ := Aside0.mk ((by rw [hg]; exact Nat.ne_of_gt (blk_lt (lK BK229.out)) : gb241 ≠ gb229)); clear HO237; clear BK227; clear BK228; clear BK229; clear HB; have HO237 := n0_; have BK227 := n1_; have BK228 := n2_; have BK229 := n3_; have HB := n4_; have BK241 := n5_; have GW241 := n6_; have GE241 := n7_; have NB227_241 := n8_; have NB241_227 := n9_; have NB228_241 := n10_; have NB241_228 := n11_; have NB229_241 := n12_; have NB241_229 := n13_; clear n0_ n1_ n2_ n3_ n4_ n5_ n6_ n7_ n8_ n9_ n10_ n11_ n12_ n13_; clear hb hbox hg; have hnb79 := NB241_227.out; have hnc79 := NB227_241.out; have hnb80 := NB241_228.out; have hnc80 := NB228_241.out; have hnb81 := NB241_229.out; have hnc81 := NB229_241.out; obtain ⟨hcz82_0, hfz82_0, hcz82_1, hfz82_1, hcz82_2, hfz82_2, hcz82_3, hfz82_3, hcz82_4, hfz82_4, hcz82_5, hfz82_5⟩ := bk6 BK241.out; obtain ⟨Ao83, co83, eo83⟩ := Kd.R_slice HO237.out; subst eo83; obtain ⟨hcz84_0, hfz84_0, hcz84_1, hfz84_1⟩ := bk2 BK227.out) | (go_at_call 32; (with_reducible refine (spec_GoodCache.calls kj3 _ _ l0_0 a0_1 t233 t234 _ _ t235 t238 t239 t240 false _ ?side1 ?side2 ?side3 ?side4 A48.out).mono ?_); (case side1 => exact Kd.C_below HR0_0.out lB); (case side2 => exact HC0_0.out); (case side3 => refine (Kd.R_reads' (e := 97) (base := w.heap.size) (ok := fun k_ => True) (n := t235.length) (c := co83) ?_).2.2; exact (by (with_reducible repeat (first | apply Kd.R_alloc | apply Kd.R_drewN | apply Kd.R_drew)); exact (Kd.R_mono (Kd.R_far (p := ⟨gb241, 5, none⟩) (Kd.R_far (p := ⟨gb241, 4, none⟩) (Kd.R_far (p := ⟨gb241, 3, none⟩) (Kd.R_far (p := ⟨gb241, 2, none⟩) (Kd.R_far (p := ⟨gb241, 1, none⟩) (Kd.R_far (p := ⟨gb241, 0, none⟩) (Kd.R_types HO237.out BK241.out (by decide)) (fun _ hk => hk.2) (.int .i64 t233)) (fun _ hk => hk.2) (.int .i64 t234)) (fun _ hk => hk.2) (.slice Ao83 t235.length co83)) (fun _ hk => hk.2) (.int .i64 t238)) (fun _ hk => hk.2) (.int .i64 t239)) (fun _ hk => hk.2) (.int .i64 t240)) (fun _ h_ => h_.1)))); (case side4 => exact (Kd.R_reads' HO237.out).2.1); rintro e w85 ⟨rfl, hb⟩; have n0_ := Aside0.mk (Kd.R_below (by (with_reducible repeat (first | apply Kd.R_alloc | apply Kd.R_drewN | apply Kd.R_drew)); exact (Kd.R_mono (Kd.R_far (p := ⟨gb241, 5, none⟩) (Kd.R_far (p := ⟨gb241, 4, none⟩) (Kd.R_far (p := ⟨gb241, 3, none⟩) (Kd.R_far (p := ⟨gb241, 2, none⟩) (Kd.R_far (p := ⟨gb241, 1, none⟩) (Kd.R_far (p := ⟨gb241, 0, none⟩) (Kd.R_types HO237.out BK241.out (by decide)) (fun _ hk => hk.2) (.int .i64 t233)) (fun _ hk => hk.2) (.int .i64 t234)) (fun _ hk => hk.2) (.slice Ao83 t235.length co83)) (fun _ hk => hk.2) (.int .i64 t238)) (fun _ hk => hk.2) (.int .i64 t239)) (fun _ hk => hk.2) (.int .i64 t240)) (fun _ h_ => h_.1))) hb); have n1_ := Aside0.mk (blk_below (lJ BK227.out) hb); have n2_ := Aside0.mk (blk_below (lJ BK228.out) hb); have n3_ := Aside0.mk (blk_below (lJ BK229.out) hb); have n4_ := Aside0.mk (blk_below (g := gb241) (o := .cells #[.int .i64 t233, .int .i64 t234, .slice Ao83 t235.length co83, .int .i64 t238, .int .i64 t239, .int .i64 t240] 44 (0, 0)) (by (with_reducible repeat first | apply bN | apply bD | apply bA); refine blk_put (cs := #[.int .i64 t233, .int .i64 t234, .slice Ao83 t235.length co83, .int .i64 t238, .int .i64 t239, .int .i64 0]) ?_ 5 _ rfl; (with_reducible repeat first | apply bN | apply bD | apply bA); refine blk_put (cs := #[.int .i64 t233, .int .i64 t234, .slice Ao83 t235.length co83, .int .i64 t238, .int .i64 0, .int .i64 0]) ?_ 4 _ rfl; (with_reducible repeat first | apply bN | apply bD | apply bA); refine blk_put (cs := #[.int .i64 t233, .int .i64 t234, .slice Ao83 t235.length co83, .int .i64 0, .int .i64 0, .int .i64 0]) ?_ 3 _ rfl; (with_reducible repeat first | apply bN | apply bD | apply bA); refine blk_put (cs := #[.int .i64 t233, .int .i64 t234, .slice none 0 0, .int .i64 0, .int .i64 0, .int .i64 0]) ?_ 2 _ rfl; (with_reducible repeat first | apply bN | apply bD | apply bA); refine blk_put (cs := #[.int .i64 t233, .int .i64 0, .slice none 0 0, .int .i64 0, .int .i64 0, .int .i64 0]) ?_ 1 _ rfl; (with_reducible repeat first | apply bN | apply bD | apply bA); refine blk_put (cs := #[.int .i64 0, .int .i64 0, .slice none 0 0, .int .i64 0, .int .i64 0, .int .i64 0]) ?_ 0 _ rfl; (with_reducible repeat first | apply bN | apply bD | apply bA); exact BK241.out) hb); have n5_ := Aside0.mk (below_step lB hb); clear HO237; clear BK227; clear BK228; clear BK229; clear BK241; clear HB; have HO237 := n0_; have BK227 := n1_; have BK228 := n2_; have BK229 := n3_; have BK241 := n4_; have HB := n5_; clear n0_ n1_ n2_ n3_ n4_ n5_; (try clear hb); (try clear hb2); (try clear hk); (try clear hi); obtain ⟨hcz86_0, hfz86_0, hcz86_1, hfz86_1, hcz86_2, hfz86_2, hcz86_3, hfz86_3, hcz86_4, hfz86_4, hcz86_5, hfz86_5⟩ := bk6 BK229.out))
      refine bodyPost_ret (results_ctt rfl _ _ gb229 44 #[.int .i64 0, .int .i64 0, .slice none 0 0, .int .i64 0, .int .i64 0, .int .i64 0] (0, 0) _ rfl (by (with_reducible repeat first | apply bN | apply bD | apply bA); refine blk_put (cs := #[.int .i64 0, .int .i64 0, .slice none 0 0, .int .i64 0, .int .i64 0, .int .i64 0]) ?_ 5 _ rfl; (with_reducible repeat first | apply bN | apply bD | apply bA); refine blk_put (cs := #[.int .i64 0, .int .i64 0, .slice none 0 0, .int .i64 0, .int .i64 0, .int .i64 0]) ?_ 4 _ rfl; (with_reducible repeat first | apply bN | apply bD | apply bA); refine blk_put (cs := #[.int .i64 0, .int .i64 0, .slice none 0 0, .int .i64 0, .int .i64 0, .int .i64 0]) ?_ 3 _ rfl; (with_reducible repeat first | apply bN | apply bD | apply bA); refine blk_put (cs := #[.int .i64 0, .int .i64 0, .slice none 0 0, .int .i64 0, .int .i64 0, .int .i64 0]) ?_ 2 _ rfl; (with_reducible repeat first | apply bN | apply bD | apply bA); refine blk_put (cs := #[.int .i64 0, .int .i64 0, .slice none 0 0, .int .i64 0, .int .i64 0, .int .i64 0]) ?_ 1 _ rfl; (with_reducible repeat first | apply bN | apply bD | apply bA); refine blk_put (cs := #[.int .i64 0, .int .i64 0, .slice none 0 0, .int .i64 0, .int .i64 0, .int .i64 0]) ?_ 0 _ rfl; (with_reducible repeat first | apply bN | apply bD | apply bA); exact BK229.out) Try.underlying44 rfl (by kernel_rfl)) rfl ?_
      exact ⟨_, lE, by first | exact Kd.R_nil _ _ _ _ _ | exact Kd.N_nil _ _ _ _ _ | exact Kd.V_nil _ _ _ _ _ | exact Kd.Q_nil _ _ _ _ _ | exact Kd.S_nil _ _ _ _ _, lB⟩

/-! ### impl_in: function 59 -/
def impl_in.f (a0 : Int) (a1 : Int) (a2 : Int) : Option (Bool) := if a0 ≥ a1 then (some (decide (a0 ≤ a2))) else (some false)
set_option maxHeartbeats 8000000 in
set_option maxRecDepth 100000 in
theorem impl_in.calls (a0 : Int) (a1 : Int) (a2 : Int) (r : Bool) (w : World) (h : impl_in.f a0 a1 a2 = some r) :
  Calls Try.prog 59 #[.int .i64 a0, .int .i64 a1, .int .i64 a2] w fun e w' => e = .returned (.bool r) ∧ Drawn0 w w' := by
 have H : (if a0 ≥ a1 then (some (decide (a0 ≤ a2))) else (some false)) = some r := h
 clear h
 by_cases c4 : a0 ≥ a1
 ·rw [if_pos c4] at H
  have c4b0 : decide (a1 ≤ a0) = true := decide_eq_true c4
  clear c4
  obtain rfl := Option.some.inj H
  go_enter Try.func59, Try.ntmps59
  first | (go_wp2; go_ret; exact ⟨by first | rfl | (simp; done) | (simp [*]; done), by repeat (first | exact Drawn0.refl _ | apply Drawn0.step)⟩) | (exfalso; simp only [decide_eq_false_iff_not, decide_eq_true_eq] at *; omega)
 ·rw [if_neg c4] at H
  have c4b0 : decide (a1 ≤ a0) = false := decide_eq_false c4
  clear c4
  obtain rfl := Option.some.inj H
  go_enter Try.func59, Try.ntmps59
  first | (go_wp2; go_ret; exact ⟨by first | rfl | (simp; done) | (simp [*]; done), by repeat (first | exact Drawn0.refl _ | apply Drawn0.step)⟩) | (exfalso; simp only [decide_eq_false_iff_not, decide_eq_true_eq] at *; omega)

/-! ### impl_isWorld_1: function 83 -/
def impl_isWorld_1.f (a0 : Int) : Option (Bool) := (impl_in.f a0 0 1000).bind fun t243 => (some (!t243))
set_option maxHeartbeats 8000000 in
set_option maxRecDepth 100000 in
theorem impl_isWorld_1.calls (a0 : Int) (r : Bool) (w : World) (h : impl_isWorld_1.f a0 = some r) :
  Calls Try.prog 83 #[.int .i64 a0] w fun e w' => e = .returned (.bool r) ∧ Drawn0 w w' := by
 have H : ((impl_in.f a0 0 1000).bind fun t243 => (some (!t243))) = some r := h
 clear h
 replace H := lO H
 obtain ⟨t243, A2, H⟩ := H
 obtain rfl := Option.some.inj H
 go_enter Try.func83, Try.ntmps83
 go_wp2_with (first | ((with_reducible refine gate_callee (f := 59) rfl ?_); refine gl_ (some 4) (Try.func59) #[.int .i64 a0, .int .i64 0, .int .i64 1000] ?_; (with_reducible refine (impl_in.calls a0 0 1000 t243 _ A2.out).mono ?_); rintro e w' ⟨rfl, ⟨nd, rfl⟩⟩; refine ⟨_, rfl, ?_⟩))
 go_ret
 exact ⟨by first | rfl | (simp; done) | (simp [*]; done), by repeat (first | exact Drawn0.refl _ | apply Drawn0.step)⟩

/-! ### slices_IndexFunc_int_int: function 92 -/
-- slices.IndexFunc, whatever is asked
set_option maxHeartbeats 800000 in
set_option maxRecDepth 100000 in
theorem idx92_ (g : Nat) (caps : Array Value) (eg : ∀ args w, (callFunc g args).run Try.prog w = .ok (.enter g args) w) (p : Int → Option Bool) (A0 : Option Addr) (c0 : Nat) (l0 : List Int) (w : World) (hr0 : Kd.C (Kd.int .i64) w A0 l0.length l0)
    (hp : ∀ (W : World) (x : Int) (b : Bool), Below w.heap.size w W → p x = some b → Calls Try.prog g (#[.int .i64 x] ++ caps) W fun e w' => e = .returned (.bool b) ∧ Below W.heap.size W w') (r : Int) (h : Kit.idxO p l0 0 = some r) :
    Calls Try.prog 92 #[.slice A0 l0.length c0, .func (.func g) #[] caps] w fun e w' => e = .returned (.int .i64 r) ∧ Below w.heap.size w w' := by
  have HR := Aside0.mk hr0
  have HP := Aside0.mk hp
  have HH := Aside0.mk h
  have hbig := hr0.2.1
  clear hr0 hp h
  go_enter Try.func92, Try.ntmps92
  go_wp2
  go_loopg [5, 8] l0.length (fun gg _ s8 wr => ∃ kk : Nat, kk ≤ l0.length ∧ l0.length - kk ≤ gg ∧ s8 = .int .i64 kk ∧ Aside0 (Below w.heap.size w wr) ∧ Aside0 (Kit.idxO p (l0.drop kk) kk = some r))
  case atStart => exact ⟨0, Nat.zero_le _, by omega, rfl, ⟨Below.refl _ _⟩, ⟨by simpa using HH.out⟩⟩
  case round =>
    obtain ⟨kk, hkk, hg, rfl, HB, HI⟩ := hrel
    by_cases hlt : kk < l0.length
    · have hltz : (kk : Int) < (l0.length : Int) := by omega
      have hd0 : decide (kk < l0.length) = true := decide_eq_true hlt
      obtain ⟨ad, e_, hx0⟩ := Kd.at_int HR.out (kk : Int) (by omega) (by omega)
      cases e_
      replace hx0 := pw_cell_below HB.out hx0
      simp only [Int.toNat_natCast] at hx0
      have hd : l0.drop kk = rd l0 (kk : Int) :: l0.drop (kk + 1) := by
        rw [List.drop_eq_getElem_cons hlt]; simp [rd, List.getD, hlt]
      generalize rd l0 (kk : Int) = y at hd hx0
      have HI' := HI.out
      rw [hd] at HI'
      simp only [Kit.idxO] at HI'
      obtain ⟨b, hb, hI⟩ := Option.bind_eq_some_iff.1 HI'
      have hcall := HP.out wr y b HB.out hb
      have HIb := Aside0.mk hI
      clear hI HI' hb hd HI
      cases b with
      | true =>
        go_wp2_with fail
        refine hcall.mono ?_
        rintro e w2 ⟨rfl, hb2⟩
        clear hcall
        go_wp2_with fail
        go_ret
        have hI := HIb.out
        simp only [if_true, Option.some.injEq] at hI
        exact ⟨by subst hI; rfl, HB.out.trans (hb2.mono HB.out.size)⟩
      | false =>
        go_wp2_with fail
        refine hcall.mono ?_
        rintro e w2 ⟨rfl, hb2⟩
        clear hcall
        go_wp2_with fail
        go_roundg (l0.length - (kk + 1))
        case measure => omega
        case rel => exact ⟨kk + 1, by omega, by omega, by go_num, ⟨HB.out.trans (hb2.mono HB.out.size)⟩, ⟨by simpa using HIb.out⟩⟩
    · have hltz : ¬ (kk : Int) < (l0.length : Int) := by omega
      have hd0 : decide (kk < l0.length) = false := decide_eq_false hlt
      have hkl : kk = l0.length := by omega
      have hI := HI.out
      rw [hkl, List.drop_length] at hI
      simp [Kit.idxO] at hI
      clear HI hkl
      have HR2 := Aside0.mk hI
      clear hI
      go_wp2
      go_ret
      exact ⟨by have e_ := HR2.out; subst e_; rfl, HB.out⟩

/-! ### slices_ContainsFunc_int_int: function 82 -/
-- slices.ContainsFunc, whatever is asked
set_option maxHeartbeats 800000 in
set_option maxRecDepth 100000 in
theorem cnt82_ (g : Nat) (caps : Array Value) (eg : ∀ args w, (callFunc g args).run Try.prog w = .ok (.enter g args) w) (p : Int → Option Bool) (A0 : Option Addr) (c0 : Nat) (l0 : List Int) (w : World) (hr0 : Kd.C (Kd.int .i64) w A0 l0.length l0)
    (hp : ∀ (W : World) (x : Int) (b : Bool), Below w.heap.size w W → p x = some b → Calls Try.prog g (#[.int .i64 x] ++ caps) W fun e w' => e = .returned (.bool b) ∧ Below W.heap.size W w') (r : Bool) (h : Kit.anyO p l0 = some r) :
    Calls Try.prog 82 #[.slice A0 l0.length c0, .func (.func g) #[] caps] w fun e w' => e = .returned (.bool r) ∧ Below w.heap.size w w' := by
  obtain ⟨i, hi, hri⟩ := Kit.idxO_any p l0 0 r h
  have hcall := idx92_ g caps eg p A0 c0 l0 w hr0 hp i hi
  have HI := Aside0.mk hri
  clear hri hi h hp hr0
  go_enter Try.func82, Try.ntmps82
  go_wp2_with fail
  refine hcall.mono ?_
  rintro e w2 ⟨rfl, hb2⟩
  clear hcall
  go_wp2
  go_ret
  exact ⟨by rw [HI.out]; rfl, hb2⟩
def slices_ContainsFunc_int_int.f (l0 : List Int) (a1 : Nat) : Option (Bool) := if a1 = 83 then Kit.anyO (fun x : Int => impl_isWorld_1.f x) l0 else none
theorem slices_ContainsFunc_int_int.calls (A0 : Option Addr) (c0 : Nat) (l0 : List Int) (a1 : Nat) (r : Bool) (w : World) (hr0 : Kd.C (Kd.int .i64) w A0 l0.length l0) (hc0 : l0.length ≤ c0) (h : slices_ContainsFunc_int_int.f l0 a1 = some r) :
    Calls Try.prog 82 #[.slice A0 l0.length c0, .func (.func a1) #[] #[]] w fun e w' => e = .returned (.bool r) ∧ Below w.heap.size w w' := by
  unfold slices_ContainsFunc_int_int.f at h
  by_cases e_ : a1 = 83
  · subst e_
    rw [if_pos rfl] at h
    exact cnt82_ 83 #[] (enters_of Try.func83 (by kernel_rfl) rfl) (fun x : Int => impl_isWorld_1.f x) A0 c0 l0 w hr0 (fun W x b hW hx => (impl_isWorld_1.calls x b W  hx).mono fun e w' ⟨he, hd⟩ => ⟨he, hd.below⟩) r h
  · rw [if_neg e_] at h
    clear e_
    exact absurd h (by simp)

/-! ### impl_isWorld: function 56 -/
def impl_isWorld.l0 : Nat → List (S82) → Int → Int → List (S82) → Int → Option (Bool)
 | 0, _, _, _, _, _ => none
 | k + 1, x6, x7, x8, x245000, x245001 => if x8 < x7 then (if 0 ≤ x8 then (if x8 < (x6.length : Int) then ((impl_in.f ((rd_T82 x6 x8).f0) (-1) (wrap64 (x8 - 1))).bind fun t249 => (if t249 = true then (if (((rd_T82 x6 x8).f1).length : Int) = 5 then ((slices_ContainsFunc_int_int.f ((rd_T82 x6 x8).f1) 83).bind fun t250 => (if t250 = true then (some false) else (impl_isWorld.l0 k x6 x7 (wrap64 (x8 + 1)) x245000 x245001))) else (some false)) else (some false))) else (none)) else (none)) else ((impl_in.f (x245000.length : Int) 1 8).bind fun t245 => (if t245 = true then ((impl_in.f x245001 0 1000000).bind fun t246 => (some t246)) else (some false)))
def impl_isWorld.f (k : Nat) (l0_0 : List (S82)) (a0_1 : Int) : Option (Bool) := impl_isWorld.l0 k l0_0 (l0_0.length : Int) 0 l0_0 a0_1
theorem impl_isWorld.mono_l : ∀ k, (∀ y0 y1 y2 y3 y4, LeO (impl_isWorld.l0 k y0 y1 y2 y3 y4) (impl_isWorld.l0 (k + 1) y0 y1 y2 y3 y4))
 | 0 => fun _ _ _ _ _ r h => by simp [impl_isWorld.l0] at h
 | k + 1 => by
  have ih0 := impl_isWorld.mono_l k
  ·intro y0 y1 y2 y3 y4
   unfold impl_isWorld.l0
   repeat' first
   | with_reducible apply ih0
   | (with_reducible exact LeO.refl _)
   | (with_reducible exact LeO.none _)
   | (with_reducible refine LeO.ite ?_ ?_)
   | (with_reducible refine LeO.bind ?_ (fun _ => ?_))
   | apply ih0
   | exact LeO.none _
   | refine LeO.ite ?_ ?_
   | refine LeO.bind ?_ (fun _ => ?_)
theorem impl_isWorld.mono : ∀ a0 a1 k, LeO (impl_isWorld.f k a0 a1) (impl_isWorld.f (k + 1) a0 a1) := by
 intro a0 a1 k
 have ih0 := impl_isWorld.mono_l k
 unfold impl_isWorld.f
 repeat' first
   | with_reducible apply ih0
   | (with_reducible exact LeO.refl _)
   | (with_reducible exact LeO.none _)
   | (with_reducible refine LeO.ite ?_ ?_)
   | (with_reducible refine LeO.bind ?_ (fun _ => ?_))
   | apply ih0
   | exact LeO.none _
   | refine LeO.ite ?_ ?_
   | refine LeO.bind ?_ (fun _ => ?_)
set_option maxHeartbeats 8000000 in
set_option maxRecDepth 100000 in
theorem impl_isWorld.calls (k : Nat) (A0_0 : Option Addr) (c0_0 : Nat) (l0_0 : List (S82)) (a0_1 : Int) (r : Bool) (w : World) (hr0_0 : Kd.C k82 w A0_0 l0_0.length l0_0) (hc0_0 : l0_0.length ≤ c0_0) (h : impl_isWorld.f k l0_0 a0_1 = some r) :
  Calls Try.prog 56 #[.agg #[.slice A0_0 l0_0.length c0_0, .int .i64 a0_1]] w fun e w' => e = .returned (.bool r) ∧ Below w.heap.size w w' := by
 have hu29 := Try.underlying29
 have hu82 := Try.underlying82
 have HR0_0 := Aside0.mk hr0_0
 have HC0_0 := Aside0.mk hc0_0
 clear hr0_0 hc0_0
 have HB := Aside0.mk (Below.refl w.heap.size w)
 have H : (impl_isWorld.l0 k l0_0 (l0_0.length : Int) 0 l0_0 a0_1) = some r := h
 clear h
 have H' := Aside0.mk H
 clear H
 go_enter Try.func56, Try.ntmps56
 go_wp2_with (first | ((with_reducible refine gate_dst (N := 1) rfl ?_); (try (refine gate_guard (by rfl) ?_; dsimp only)); refine bxe 1 #[.slice A0_0 l0_0.length c0_0, .int .i64 a0_1] 29 ?_; intro gb244 hg w2 hbox hb; have n0_ := Aside0.mk (below_step lB hb); have n1_ := Aside0.mk (hbox); have n2_ := lG w hg; have n3_ := lG w hg; clear HB; have HB := n0_; have BK244 := n1_; have GW244 := n2_; have GE244 := n3_; clear n0_ n1_ n2_ n3_; clear hb hbox hg; obtain ⟨hcz3_0, hfz3_0, hcz3_1, hfz3_1⟩ := bk2 BK244.out))
 go_loopg [8] k (fun kq v8 w' => ∃ (x8_1 : Int), v8 = .int .i64 x8_1 ∧ Aside0 (impl_isWorld.l0 kq l0_0 (l0_0.length : Int) x8_1 l0_0 a0_1 = some r) ∧ Aside0 (kq ≤ k) ∧ Aside0 (w'.heap[gb244]? = some (.cells #[(.slice A0_0 l0_0.length c0_0), .int .i64 a0_1] 29 (0, 0))) ∧ Aside0 (Below w.heap.size w w'))
 case atStart => exact ⟨(0), lF, H', ⟨Nat.le_refl _⟩, ⟨lK BK244.out⟩, ⟨lB⟩⟩
 case round =>
  clear H'
  try clear p2
  try clear hcz3_0 hcz3_1 hfz3_0 hfz3_1
  obtain ⟨x8_1, rfl, HA, HK1, BK244, HB⟩ := hrel
  cases gk with
  | zero => exact absurd HA.out (by simp [impl_isWorld.l0])
  | succ k1 =>
   have H := HA.out
   clear HA
   simp only [impl_isWorld.l0] at H
   by_cases c4 : x8_1 < (l0_0.length : Int)
   ·rw [if_pos c4] at H
    have c4b0 : decide (x8_1 < (l0_0.length : Int)) = true := decide_eq_true c4
    clear c4
    by_cases c5 : 0 ≤ x8_1
    ·rw [if_pos c5] at H
     have c5b0 : decide (0 ≤ x8_1) = true := decide_eq_true c5
     clear c5
     by_cases c6 : x8_1 < (l0_0.length : Int)
     ·rw [if_pos c6] at H
      have c6b0 : decide (x8_1 < (l0_0.length : Int)) = true := decide_eq_true c6
      clear c6
      replace H := lO H
      obtain ⟨t249, A7, H⟩ := H
      by_cases c8 : t249 = true
      ·subst c8
       rw [if_pos rfl] at H
       by_cases c9 : (((rd_T82 l0_0 x8_1).f1).length : Int) = 5
       ·rw [if_pos c9] at H
        have c9b0 : ((((rd_T82 l0_0 x8_1).f1).length : Int) == 5) = true := beq_iff_eq.mpr c9
        have c9b1 : ((((rd_T82 l0_0 x8_1).f1).length : Int) != 5) = false := bne_eq_false_iff_eq.mpr c9
        clear c9
        replace H := lO H
        obtain ⟨t250, A10, H⟩ := H
        by_cases c11 : t250 = true
        ·subst c11
         rw [if_pos rfl] at H
         obtain rfl := Option.some.inj H
         have p247 : 0 ≤ (x8_1 : Int) := lD
         have q247 : x8_1 < (l0_0.length : Int) := lD
         obtain ⟨ad247, A247_1, c247_1, e247, hx247_0, hx247_1, hl247_1, hi247_1⟩ := at_T82 HR0_0.out x8_1 p247 q247
         cases e247
         replace hx247_0 := pw_cell_below HB.out hx247_0
         replace hx247_1 := pw_cell_below HB.out hx247_1
         have HR247_1 := Aside0.mk hi247_1
         have HC247_1 := Aside0.mk hl247_1
         clear hi247_1 hl247_1
         replace p247 := eq_true p247
         replace q247 := eq_true q247
         go_wp2_with (first | ((with_reducible refine gate_dst (N := 4) rfl ?_); (try (refine gate_guard (by rfl) ?_; dsimp only)); refine bxe 4 #[.int .i64 0, .slice none 0 0] 82 ?_; intro gb248 hg w12 hbox hb; have n0_ := Aside0.mk (blk_below (lK BK244.out) hb); have n1_ := Aside0.mk (below_step lB hb); have n2_ := Aside0.mk (hbox); have n3_ := lG w hg; have n4_ := lG w hg; have n5_ := Aside0.mk ((by rw [hg]; exact Nat.ne_of_lt (blk_lt (lK BK244.out)) : gb244 ≠ gb248)); have n6_ := Aside0.mk ((by rw [hg]; exact Nat.ne_of_gt (blk_lt (lK BK244.out)) : gb248 ≠ gb244)); clear BK244; clear HB; have BK244 := n0_; have HB := n1_; have BK248 := n2_; have GW248 := n3_; have GE248 := n4_; have NB244_248 := n5_; have NB248_244 := n6_; clear n0_ n1_ n2_ n3_ n4_ n5_ n6_; clear hb hbox hg; have hnb13 := NB248_244.out; have hnc13 := NB244_248.out; obtain ⟨hcz14_0, hfz14_0, hcz14_1, hfz14_1⟩ := bk2 BK248.out) | ((with_reducible refine gate_callee (f := 59) rfl ?_); refine gl_ (some 17) (Try.func59) #[.int .i64 ((rd_T82 l0_0 x8_1).f0), .int .i64 (-1), .int .i64 (wrap64 (x8_1 - 1))] ?_; (with_reducible refine (impl_in.calls ((rd_T82 l0_0 x8_1).f0) (-1) (wrap64 (x8_1 - 1)) true _ A7.out).mono ?_); rintro e w' ⟨rfl, ⟨nd, rfl⟩⟩; refine ⟨_, rfl, ?_⟩) | (go_at_call 82; (with_reducible refine (slices_ContainsFunc_int_int.calls _ _ ((rd_T82 l0_0 x8_1).f1) 83 true _ ?side1 ?side2 A10.out).mono ?_); (case side1 => exact Kd.C_below HR247_1.out lB); (case side2 => exact HC247_1.out); rintro e w15 ⟨rfl, hb⟩; have n0_ := Aside0.mk (blk_below (lJ BK244.out) hb); have n1_ := Aside0.mk (blk_below (g := gb248) (o := .cells #[.int .i64 ((rd_T82 l0_0 x8_1).f0), .slice A247_1 ((rd_T82 l0_0 x8_1).f1).length c247_1] 82 (0, 0)) (by (with_reducible repeat first | apply bN | apply bD | apply bA); refine blk_put (cs := #[.int .i64 ((rd_T82 l0_0 x8_1).f0), .slice none 0 0]) ?_ 1 _ rfl; (with_reducible repeat first | apply bN | apply bD | apply bA); refine blk_put (cs := #[.int .i64 0, .slice none 0 0]) ?_ 0 _ rfl; (with_reducible repeat first | apply bN | apply bD | apply bA); exact BK248.out) hb); have n2_ := Aside0.mk (below_step lB hb); clear BK244; clear BK248; clear HB; have BK244 := n0_; have BK248 := n1_; have HB := n2_; clear n0_ n1_ n2_; (try clear hb); (try clear hb2); (try clear hk); (try clear hi)))
         go_ret
         exact ⟨lE, lB⟩
        ·replace c11 := Bool.eq_false_iff.mpr c11
         subst c11
         rw [if_neg (show ¬ (false = true) by decide)] at H
         have H' := Aside0.mk H
         clear H
         have p247 : 0 ≤ (x8_1 : Int) := lD
         have q247 : x8_1 < (l0_0.length : Int) := lD
         obtain ⟨ad247, A247_1, c247_1, e247, hx247_0, hx247_1, hl247_1, hi247_1⟩ := at_T82 HR0_0.out x8_1 p247 q247
         cases e247
         replace hx247_0 := pw_cell_below HB.out hx247_0
         replace hx247_1 := pw_cell_below HB.out hx247_1
         have HR247_1 := Aside0.mk hi247_1
         have HC247_1 := Aside0.mk hl247_1
         clear hi247_1 hl247_1
         replace p247 := eq_true p247
         replace q247 := eq_true q247
         go_wp2_with (first | ((with_reducible refine gate_dst (N := 4) rfl ?_); (try (refine gate_guard (by rfl) ?_; dsimp only)); refine bxe 4 #[.int .i64 0, .slice none 0 0] 82 ?_; intro gb248 hg w16 hbox hb; have n0_ := Aside0.mk (blk_below (lK BK244.out) hb); have n1_ := Aside0.mk (below_step lB hb); have n2_ := Aside0.mk (hbox); have n3_ := lG w hg; have n4_ := lG w hg; have n5_ := Aside0.mk ((by rw [hg]; exact Nat.ne_of_lt (blk_lt (lK BK244.out)) : gb244 ≠ gb248)); have n6_ := Aside0.mk ((by rw [hg]; exact Nat.ne_of_gt (blk_lt (lK BK244.out)) : gb248 ≠ gb244)); clear BK244; clear HB; have BK244 := n0_; have HB := n1_; have BK248 := n2_; have GW248 := n3_; have GE248 := n4_; have NB244_248 := n5_; have NB248_244 := n6_; clear n0_ n1_ n2_ n3_ n4_ n5_ n6_; clear hb hbox hg; have hnb17 := NB248_244.out; have hnc17 := NB244_248.out; obtain ⟨hcz18_0, hfz18_0, hcz18_1, hfz18_1⟩ := bk2 BK248.out) | ((with_reducible refine gate_callee (f := 59) rfl ?_); refine gl_ (some 17) (Try.func59) #[.int .i64 ((rd_T82 l0_0 x8_1).f0), .int .i64 (-1), .int .i64 (wrap64 (x8_1 - 1))] ?_; (with_reducible refine (impl_in.calls ((rd_T82 l0_0 x8_1).f0) (-1) (wrap64 (x8_1 - 1)) true _ A7.out).mono ?_); rintro e w' ⟨rfl, ⟨nd, rfl⟩⟩; refine ⟨_, rfl, ?_⟩) | (go_at_call 82; (with_reducible refine (slices_ContainsFunc_int_int.calls _ _ ((rd_T82 l0_0 x8_1).f1) 83 false _ ?side1 ?side2 A10.out).mono ?_); (case side1 => exact Kd.C_below HR247_1.out lB); (case side2 => exact HC247_1.out); rintro e w19 ⟨rfl, hb⟩; have n0_ := Aside0.mk (blk_below (lJ BK244.out) hb); have n1_ := Aside0.mk (blk_below (g := gb248) (o := .cells #[.int .i64 ((rd_T82 l0_0 x8_1).f0), .slice A247_1 ((rd_T82 l0_0 x8_1).f1).length c247_1] 82 (0, 0)) (by (with_reducible repeat first | apply bN | apply bD | apply bA); refine blk_put (cs := #[.int .i64 ((rd_T82 l0_0 x8_1).f0), .slice none 0 0]) ?_ 1 _ rfl; (with_reducible repeat first | apply bN | apply bD | apply bA); refine blk_put (cs := #[.int .i64 0, .slice none 0 0]) ?_ 0 _ rfl; (with_reducible repeat first | apply bN | apply bD | apply bA); exact BK248.out) hb); have n2_ := Aside0.mk (below_step lB hb); clear BK244; clear BK248; clear HB; have BK244 := n0_; have BK248 := n1_; have HB := n2_; clear n0_ n1_ n2_; (try clear hb); (try clear hb2); (try clear hk); (try clear hi)))
         go_roundg k1
         case measure => have := HK1.out; omega
         case rel => exact ⟨(wrap64 (x8_1 + 1)), lF, H', ⟨by have := HK1.out; omega⟩, ⟨lK BK244.out⟩, ⟨lB⟩⟩
       ·rw [if_neg c9] at H
        have c9b0 : ((((rd_T82 l0_0 x8_1).f1).length : Int) == 5) = false := beq_eq_false_iff_ne.mpr c9
        have c9b1 : ((((rd_T82 l0_0 x8_1).f1).length : Int) != 5) = true := bne_iff_ne.mpr c9
        obtain rfl := Option.some.inj H
        have p247 : 0 ≤ (x8_1 : Int) := lD
        have q247 : x8_1 < (l0_0.length : Int) := lD
        obtain ⟨ad247, A247_1, c247_1, e247, hx247_0, hx247_1, hl247_1, hi247_1⟩ := at_T82 HR0_0.out x8_1 p247 q247
        cases e247
        replace hx247_0 := pw_cell_below HB.out hx247_0
        replace hx247_1 := pw_cell_below HB.out hx247_1
        have HR247_1 := Aside0.mk hi247_1
        have HC247_1 := Aside0.mk hl247_1
        clear hi247_1 hl247_1
        replace p247 := eq_true p247
        replace q247 := eq_true q247
        go_wp2_with (first | ((with_reducible refine gate_dst (N := 4) rfl ?_); (try (refine gate_guard (by rfl) ?_; dsimp only)); refine bxe 4 #[.int .i64 0, .slice none 0 0] 82 ?_; intro gb248 hg w20 hbox hb; have n0_ := Aside0.mk (blk_below (lK BK244.out) hb); have n1_ := Aside0.mk (below_step lB hb); have n2_ := Aside0.mk (hbox); have n3_ := lG w hg; have n4_ := lG w hg; have n5_ := Aside0.mk ((by rw [hg]; exact Nat.ne_of_lt (blk_lt (lK BK244.out)) : gb244 ≠ gb248)); have n6_ := Aside0.mk ((by rw [hg]; exact Nat.ne_of_gt (blk_lt (lK BK244.out)) : gb248 ≠ gb244)); clear BK244; clear HB; have BK244 := n0_; have HB := n1_; have BK248 := n2_; have GW248 := n3_; have GE248 := n4_; have NB244_248 := n5_; have NB248_244 := n6_; clear n0_ n1_ n2_ n3_ n4_ n5_ n6_; clear hb hbox hg; have hnb21 := NB248_244.out; have hnc21 := NB244_248.out; obtain ⟨hcz22_0, hfz22_0, hcz22_1, hfz22_1⟩ := bk2 BK248.out) | ((with_reducible refine gate_callee (f := 59) rfl ?_); refine gl_ (some 17) (Try.func59) #[.int .i64 ((rd_T82 l0_0 x8_1).f0), .int .i64 (-1), .int .i64 (wrap64 (x8_1 - 1))] ?_; (with_reducible refine (impl_in.calls ((rd_T82 l0_0 x8_1).f0) (-1) (wrap64 (x8_1 - 1)) true _ A7.out).mono ?_); rintro e w' ⟨rfl, ⟨nd, rfl⟩⟩; refine ⟨_, rfl, ?_⟩))
        go_ret
        exact ⟨lE, lB⟩
      ·replace c8 := Bool.eq_false_iff.mpr c8
       subst c8
       rw [if_neg (show ¬ (false = true) by decide)] at H
       obtain rfl := Option.some.inj H
       have p247 : 0 ≤ (x8_1 : Int) := lD
       have q247 : x8_1 < (l0_0.length : Int) := lD
       obtain ⟨ad247, A247_1, c247_1, e247, hx247_0, hx247_1, hl247_1, hi247_1⟩ := at_T82 HR0_0.out x8_1 p247 q247
       cases e247
       replace hx247_0 := pw_cell_below HB.out hx247_0
       replace hx247_1 := pw_cell_below HB.out hx247_1
       have HR247_1 := Aside0.mk hi247_1
       have HC247_1 := Aside0.mk hl247_1
       clear hi247_1 hl247_1
       replace p247 := eq_true p247
       replace q247 := eq_true q247
       go_wp2_with (first | ((with_reducible refine gate_dst (N := 4) rfl ?_); (try (refine gate_guard (by rfl) ?_; dsimp only)); refine bxe 4 #[.int .i64 0, .slice none 0 0] 82 ?_; intro gb248 hg w23 hbox hb; have n0_ := Aside0.mk (blk_below (lK BK244.out) hb); have n1_ := Aside0.mk (below_step lB hb); have n2_ := Aside0.mk (hbox); have n3_ := lG w hg; have n4_ := lG w hg; have n5_ := Aside0.mk ((by rw [hg]; exact Nat.ne_of_lt (blk_lt (lK BK244.out)) : gb244 ≠ gb248)); have n6_ := Aside0.mk ((by rw [hg]; exact Nat.ne_of_gt (blk_lt (lK BK244.out)) : gb248 ≠ gb244)); clear BK244; clear HB; have BK244 := n0_; have HB := n1_; have BK248 := n2_; have GW248 := n3_; have GE248 := n4_; have NB244_248 := n5_; have NB248_244 := n6_; clear n0_ n1_ n2_ n3_ n4_ n5_ n6_; clear hb hbox hg; have hnb24 := NB248_244.out; have hnc24 := NB244_248.out; obtain ⟨hcz25_0, hfz25_0, hcz25_1, hfz25_1⟩ := bk2 BK248.out) | ((with_reducible refine gate_callee (f := 59) rfl ?_); refine gl_ (some 17) (Try.func59) #[.int .i64 ((rd_T82 l0_0 x8_1).f0), .int .i64 (-1), .int .i64 (wrap64 (x8_1 - 1))] ?_; (with_reducible refine (impl_in.calls ((rd_T82 l0_0 x8_1).f0) (-1) (wrap64 (x8_1 - 1)) false _ A7.out).mono ?_); rintro e w' ⟨rfl, ⟨nd, rfl⟩⟩; refine ⟨_, rfl, ?_⟩))
       go_ret
       exact ⟨lE, lB⟩
     ·rw [if_neg c6] at H
      exact absurd H (by simp)
    ·rw [if_neg c5] at H
     exact absurd H (by simp)
   ·rw [if_neg c4] at H
    have c4b0 : decide (x8_1 < (l0_0.length : Int)) = false := decide_eq_false c4
    clear c4
    replace H := lO H
    obtain ⟨t245, A26, H⟩ := H
    by_cases c27 : t245 = true
    ·subst c27
     rw [if_pos rfl] at H
     replace H := lO H
     obtain ⟨t246, A28, H⟩ := H
     obtain rfl := Option.some.inj H
     obtain ⟨hcz29_0, hfz29_0, hcz29_1, hfz29_1⟩ := bk2 BK244.out
     go_wp2_with (first | ((with_reducible refine gate_callee (f := 59) rfl ?_); refine gl_ (some 34) (Try.func59) #[.int .i64 (l0_0.length : Int), .int .i64 1, .int .i64 8] ?_; (with_reducible refine (impl_in.calls (l0_0.length : Int) 1 8 true _ A26.out).mono ?_); rintro e w' ⟨rfl, ⟨nd, rfl⟩⟩; refine ⟨_, rfl, ?_⟩) | (go_at_call 59; (with_reducible refine (impl_in.calls a0_1 0 1000000 t246 _ A28.out).mono ?_); rintro e w' ⟨rfl, ⟨nd, rfl⟩⟩))
     go_ret
     exact ⟨lE, lB⟩
    ·replace c27 := Bool.eq_false_iff.mpr c27
     subst c27
     rw [if_neg (show ¬ (false = true) by decide)] at H
     obtain rfl := Option.some.inj H
     obtain ⟨hcz30_0, hfz30_0, hcz30_1, hfz30_1⟩ := bk2 BK244.out
     go_wp2_with (first | ((with_reducible refine gate_callee (f := 59) rfl ?_); refine gl_ (some 34) (Try.func59) #[.int .i64 (l0_0.length : Int), .int .i64 1, .int .i64 8] ?_; (with_reducible refine (impl_in.calls (l0_0.length : Int) 1 8 false _ A26.out).mono ?_); rintro e w' ⟨rfl, ⟨nd, rfl⟩⟩; refine ⟨_, rfl, ?_⟩))
     go_ret
     exact ⟨lE, lB⟩

end Go.Proofs.Ytjmgleomljfieaa.Q
