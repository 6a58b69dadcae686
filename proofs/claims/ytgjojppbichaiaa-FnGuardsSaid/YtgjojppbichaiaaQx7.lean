-- Written by the program wip/tools/pr.py of this claim's session, over the kit's print.py.
import Derived.Test.YtgjojppbichaiaaQx0
import Derived.Test.YtgjojppbichaiaaQx6
namespace Go.Proofs.Ytgjojppbichaiaa.Q
open Go.RowKit Go.Proofs.YtgjojppbichaiaaW.PrintWords Go.Proofs.YtgjojppbichaiaaW.PrintLast Go.Proofs.YtgjojppbichaiaaW.PrintMore
attribute [local go_sem] max2_int min2_int max_two min_two max_three min_three max_four min_four   -- for this text's walks alone
set_option linter.unusedVariables false
set_option linter.unusedSimpArgs false

/-! ### spec_l16Tree: function 44 -/
def spec_l16Tree.f (k : Nat) (l0 : List (S76)) : Option (Int × Int × (List (S72)) × Bool) := if (l0.length : Int) > 30 then (some (0, 0, ([] : List (S72)), false)) else ((spec_l16Read.f k l0 0).bind fun bt225 => (if bt225.2.2.2 > 0 then (if bt225.2.2.2 = (l0.length : Int) then ((spec_l16Loops.f k bt225.1 bt225.2.1 bt225.2.2.1).bind fun t232 => (some (bt225.1, bt225.2.1, bt225.2.2.1, decide (t232 ≤ 3)))) else (some (bt225.1, bt225.2.1, bt225.2.2.1, false))) else (some (bt225.1, bt225.2.1, bt225.2.2.1, false))))
theorem spec_l16Tree.mono : ∀ a0 k, LeO (spec_l16Tree.f k a0) (spec_l16Tree.f (k + 1) a0) := by
 intro a0 k
 unfold spec_l16Tree.f
 repeat' first
   | with_reducible apply spec_l16Loops.mono
   | with_reducible apply spec_l16Read.mono
   | (with_reducible exact LeO.refl _)
   | (with_reducible exact LeO.none _)
   | (with_reducible refine LeO.ite ?_ ?_)
   | (with_reducible refine LeO.bind ?_ (fun _ => ?_))
   | apply spec_l16Loops.mono
   | apply spec_l16Read.mono
   | exact LeO.none _
   | refine LeO.ite ?_ ?_
   | refine LeO.bind ?_ (fun _ => ?_)
def spec_l16Tree.T4 : Bool × List (List Nat × List Nat) := (true, [([], []), ([], []), ([1], [1]), ([2], [2]), ([3], [3]), ([3], [3]), ([5, 3], [3, 5]), ([4, 6, 3], [3, 4, 6]), ([3, 7], [3, 7]), ([8, 3], [8]), ([9], [9]), ([10, 9, 9], [9, 10]), ([11, 9], [9, 11]), ([9, 12], [9, 12]), ([0, 11, 0], [0]), ([13, 14, 0, 1, 2, 3, 4, 5, 6, 7, 8, 9, 10, 11, 12, 13, 14], [13])])
def spec_l16Tree.B4 : List Nat := [0, 0, 2, 6, 14, 14, 46, 126, 254, 510, 1022, 2046, 4094, 8190, 4095, 32767]
theorem spec_l16Tree.tab4 : rtab .any (opsOf Try.f44 4) = spec_l16Tree.T4 := by kernel_rfl
theorem spec_l16Tree.bits4 : waitsOk spec_l16Tree.T4.2 spec_l16Tree.B4 = true := by kernel_rfl
set_option maxHeartbeats 8000000 in
set_option maxRecDepth 100000 in
theorem spec_l16Tree.calls (k : Nat) (A0 : Option Addr) (c0 : Nat) (l0 : List (S76)) (r1 : Int) (r2 : Int) (r3 : List (S72)) (r4 : Bool) (w : World) (hr0 : Kd.C k76 w A0 l0.length l0) (hc0 : l0.length ≤ c0) (h : spec_l16Tree.f k l0 = some (r1, r2, r3, r4)) :
  Calls Try.prog 44 #[.slice A0 l0.length c0] w fun e w' => ∃ v2_ : Value, e = .returned (.tuple #[.agg #[.int .i64 r1, .int .i64 r2, v2_], .bool r4]) ∧ Kd.R k72 72 w' w.heap.size (fun _ => True) v2_ r3 ∧ Below w.heap.size w w' := by
 have hu72 := Try.underlying72
 have HR0 := Aside0.mk hr0
 have HC0 := Aside0.mk hc0
 clear hr0 hc0
 have HB := Aside0.mk (Below.refl w.heap.size w)
 have H : (if (l0.length : Int) > 30 then (some (0, 0, ([] : List (S72)), false)) else ((spec_l16Read.f k l0 0).bind fun bt225 => (if bt225.2.2.2 > 0 then (if bt225.2.2.2 = (l0.length : Int) then ((spec_l16Loops.f k bt225.1 bt225.2.1 bt225.2.2.1).bind fun t232 => (some (bt225.1, bt225.2.1, bt225.2.2.1, decide (t232 ≤ 3)))) else (some (bt225.1, bt225.2.1, bt225.2.2.1, false))) else (some (bt225.1, bt225.2.1, bt225.2.2.1, false))))) = some (r1, r2, r3, r4) := h
 clear h
 by_cases c2 : (l0.length : Int) > 30
 ·rw [if_pos c2] at H
  have c2b0 : decide (30 < (l0.length : Int)) = true := decide_eq_true c2
  have c2b1 : decide (30 < l0.length) = true := decide_eq_true (by omega)
  clear c2
  simp only [Option.some.injEq, Prod.mk.injEq] at H
  obtain ⟨rfl, rfl, rfl, rfl⟩ := H
  go_enter Try.func44, Try.ntmps44
  go_wp2_with (first | ((with_reducible refine gate_dst (N := 2) rfl ?_); (try (refine gate_guard (by rfl) ?_; dsimp only)); refine bxe 2 #[.int .i64 0, .int .i64 0, .slice none 0 0] 72 ?_; intro gb224 hg w3 hbox hb; have n0_ := Aside0.mk (below_step lB hb); have n1_ := Aside0.mk (hbox); have n2_ := lG w hg; have n3_ := lG w hg; clear HB; have HB := n0_; have BK224 := n1_; have GW224 := n2_; have GE224 := n3_; clear n0_ n1_ n2_ n3_; clear hb hbox hg; obtain ⟨hcz4_0, hfz4_0, hcz4_1, hfz4_1, hcz4_2, hfz4_2⟩ := bk3 BK224.out))
  refine bodyPost_ret (results_ct rfl _ _ gb224 72 #[.int .i64 0, .int .i64 0, .slice none 0 0] (0, 0) _ rfl (by (with_reducible repeat first | apply bN | apply bD | apply bA); refine blk_put (cs := #[.int .i64 0, .int .i64 0, .slice none 0 0]) ?_ 2 _ rfl; (with_reducible repeat first | apply bN | apply bD | apply bA); refine blk_put (cs := #[.int .i64 0, .int .i64 0, .slice none 0 0]) ?_ 1 _ rfl; (with_reducible repeat first | apply bN | apply bD | apply bA); refine blk_put (cs := #[.int .i64 0, .int .i64 0, .slice none 0 0]) ?_ 0 _ rfl; (with_reducible repeat first | apply bN | apply bD | apply bA); exact BK224.out) Try.underlying72 rfl (by kernel_rfl)) rfl ?_
  exact ⟨_, lE, by first | exact Kd.R_nil _ _ _ _ _ | exact Kd.N_nil _ _ _ _ _ | exact Kd.V_nil _ _ _ _ _ | exact Kd.Q_nil _ _ _ _ _ | exact Kd.S_nil _ _ _ _ _, lB⟩
 ·rw [if_neg c2] at H
  have c2b0 : decide (30 < (l0.length : Int)) = false := decide_eq_false c2
  have c2b1 : decide (30 < l0.length) = false := decide_eq_false (by omega)
  clear c2
  replace H := Option.bind_eq_some_iff.mp H
  obtain ⟨⟨t225, t226, t227, t230⟩, A50, H⟩ := H
  replace H : (if t230 > 0 then (if t230 = (l0.length : Int) then ((spec_l16Loops.f k t225 t226 t227).bind fun t232 => (some (t225, t226, t227, decide (t232 ≤ 3)))) else (some (t225, t226, t227, false))) else (some (t225, t226, t227, false))) = some (r1, r2, r3, r4) := H
  have A5 := Aside0.mk A50
  clear A50
  by_cases c6 : t230 > 0
  ·rw [if_pos c6] at H
   have c6b0 : decide (0 < t230) = true := decide_eq_true c6
   clear c6
   by_cases c7 : t230 = (l0.length : Int)
   ·rw [if_pos c7] at H
    have c7b0 : (t230 == (l0.length : Int)) = true := beq_iff_eq.mpr c7
    have c7b1 : (t230 != (l0.length : Int)) = false := bne_eq_false_iff_eq.mpr c7
    clear c7
    replace H := lO H
    obtain ⟨t232, A8, H⟩ := H
    simp only [Option.some.injEq, Prod.mk.injEq] at H
    obtain ⟨rfl, rfl, rfl, rfl⟩ := H
    go_enter Try.func44, Try.ntmps44
    try go_wp2_with (first | ((with_reducible refine gate_dst (N := 2) rfl ?_); (try (refine gate_guard (by rfl) ?_; dsimp only)); refine bxe 2 #[.int .i64 0, .int .i64 0, .slice none 0 0] 72 ?_; intro gb224 hg w9 hbox hb; have n0_ := Aside0.mk (below_step lB hb); have n1_ := Aside0.mk (hbox); have n2_ := lG w hg; have n3_ := lG w hg; clear HB; have HB := n0_; have BK224 := n1_; have GW224 := n2_; have GE224 := n3_; clear n0_ n1_ n2_ n3_; clear hb hbox hg) | ((with_reducible refine gate_callee (f := 75) rfl ?_); refine gl_ (some 12) (Try.func75) #[.slice A0 l0.length c0, .int .i64 0] ?_; (with_reducible refine (spec_l16Read.calls k _ _ l0 0 t225 t226 t227 t230 _ ?side1 ?side2 A5.out).mono ?_); (case side1 => exact lC (Kd.C_below HR0.out HB.out)); (case side2 => exact HC0.out); rintro e w10 ⟨v228, rfl, ho0, hb⟩; refine ⟨_, rfl, ?_⟩; have n0_ := Aside0.mk (Kd.R_lower (Kd.R_newB ho0 (lK BK224.out)) (below_size lB)); have n1_ := Aside0.mk (blk_below (lK BK224.out) hb); have n2_ := Aside0.mk (below_step lB hb); clear BK224; clear HB; have HO229 := n0_; have BK224 := n1_; have HB := n2_; clear n0_ n1_ n2_; (try clear hb); (try clear hb2); (try clear hk); (try clear hi); (try clear ho0)) | ((with_reducible refine gate_dst (N := 4) rfl ?_); (try (refine gate_guard (by rfl) ?_; dsimp only)); refine bxe 4 #[.int .i64 0, .int .i64 0, .slice none 0 0] 72 ?_; intro gb231 hg w11 hbox hb; have n0_ := Aside0.mk (Kd.R_below (Kd.R_elderB (lR HO229.out) gb231 (Nat.le_of_eq hg.symm)) hb); have n1_ := Aside0.mk (blk_below (lK BK224.out) hb); have n2_ := Aside0.mk (below_step lB hb); have n3_ := Aside0.mk (hbox); have n4_ := lG w hg; have n5_ := lG w hg; have n6_ := Aside0.mk ((by rw [hg]; exact Nat.ne_of_lt (blk_lt (lK BK224.out)) : gb224 ≠ gb231)); have n7_ := Aside0.mk ((by rw [hg]; exact Nat.ne_of_gt (blk_lt (lK BK224.out)) : gb231 ≠ gb224)); clear HO229; clear BK224; clear HB; have HO229 := n0_; have BK224 := n1_; have HB := n2_; have BK231 := n3_; have GW231 := n4_; have GE231 := n5_; have NB224_231 := n6_; have NB231_224 := n7_; clear n0_ n1_ n2_ n3_ n4_ n5_ n6_ n7_; clear hb hbox hg; have hnb12 := NB231_224.out; have hnc12 := NB224_231.out; obtain ⟨hcz13_0, hfz13_0, hcz13_1, hfz13_1, hcz13_2, hfz13_2⟩ := bk3 BK231.out; obtain ⟨Ao14, co14, eo14⟩ := Kd.R_slice HO229.out; subst eo14))
    have n0_ : Aside0 (Kd.R k72 72 (((w11.setCell ⟨gb231, 0, none⟩ (.int .i64 t225)).setCell ⟨gb231, 1, none⟩ (.int .i64 t226)).setCell ⟨gb231, 2, none⟩ (.slice Ao14 t227.length co14)) w.heap.size (fun k_ => k_ ≠ gb224 ∧ k_ ≠ gb231) (.slice Ao14 t227.length co14) t227) := ⟨by (with_reducible repeat (first | apply Kd.R_alloc | apply Kd.R_drewN | apply Kd.R_drew)); exact Kd.R_mono (Kd.R_far (p := ⟨gb231, 2, none⟩) (Kd.R_far (p := ⟨gb231, 1, none⟩) (Kd.R_far (p := ⟨gb231, 0, none⟩) (Kd.R_mono HO229.out (fun k_ hk => (⟨hk, hk.2⟩ : _ ∧ k_ ≠ gb231))) (fun _ hk => hk.2) (.int .i64 t225)) (fun _ hk => hk.2) (.int .i64 t226)) (fun _ hk => hk.2) (.slice Ao14 t227.length co14)) (fun _ hk => ⟨hk.1.1.2, hk.1.2⟩)⟩
    have n1_ : Aside0 ((((w11.setCell ⟨gb231, 0, none⟩ (.int .i64 t225)).setCell ⟨gb231, 1, none⟩ (.int .i64 t226)).setCell ⟨gb231, 2, none⟩ (.slice Ao14 t227.length co14)).heap[gb224]? = some (.cells #[.int .i64 0, .int .i64 0, .slice none 0 0] 72 (0, 0))) := ⟨lJ BK224.out⟩
    have n2_ : Aside0 ((((w11.setCell ⟨gb231, 0, none⟩ (.int .i64 t225)).setCell ⟨gb231, 1, none⟩ (.int .i64 t226)).setCell ⟨gb231, 2, none⟩ (.slice Ao14 t227.length co14)).heap[gb231]? = some (.cells #[.int .i64 t225, .int .i64 t226, .slice Ao14 t227.length co14] 72 (0, 0))) := ⟨by (with_reducible repeat first | apply bN | apply bD | apply bA); refine blk_put (cs := #[.int .i64 t225, .int .i64 t226, .slice none 0 0]) ?_ 2 _ rfl; (with_reducible repeat first | apply bN | apply bD | apply bA); refine blk_put (cs := #[.int .i64 t225, .int .i64 0, .slice none 0 0]) ?_ 1 _ rfl; (with_reducible repeat first | apply bN | apply bD | apply bA); refine blk_put (cs := #[.int .i64 0, .int .i64 0, .slice none 0 0]) ?_ 0 _ rfl; (with_reducible repeat first | apply bN | apply bD | apply bA); exact BK231.out⟩
    have n3_ : Aside0 (Below w.heap.size w (((w11.setCell ⟨gb231, 0, none⟩ (.int .i64 t225)).setCell ⟨gb231, 1, none⟩ (.int .i64 t226)).setCell ⟨gb231, 2, none⟩ (.slice Ao14 t227.length co14))) := ⟨lB⟩
    (try clear HO229)
    (try clear BK224)
    (try clear BK231)
    (try clear HB)
    generalize (((w11.setCell ⟨gb231, 0, none⟩ (.int .i64 t225)).setCell ⟨gb231, 1, none⟩ (.int .i64 t226)).setCell ⟨gb231, 2, none⟩ (.slice Ao14 t227.length co14)) = w15 at n0_ n1_ n2_ n3_ ⊢
    have HO229 := n0_
    have BK224 := n1_
    have BK231 := n2_
    have HB := n3_
    clear n0_ n1_ n2_ n3_
    have n0_ := Aside0.mk (Kd.R_drew HO229.out)
    have n1_ := Aside0.mk (blk_drew BK224.out)
    have n2_ := Aside0.mk (blk_drew BK231.out)
    have n3_ := Aside0.mk (below_drew1 HB.out)
    clear HO229
    clear BK224
    clear BK231
    clear HB
    have HO229 := n0_
    have BK224 := n1_
    have BK231 := n2_
    have HB := n3_
    clear n0_ n1_ n2_ n3_
    refine start_ (n := 16) (S := fun w' => w'.cell? ⟨gb231, 0, none⟩ = some (.int .i64 t225) ∧ w'.cell? ⟨gb231, 1, none⟩ = some (.int .i64 t226) ∧ w'.cell? ⟨gb231, 2, none⟩ = some (.slice Ao14 t227.length co14)) (ds := []) (bs 16 0) kR rfl kR ⟨bZ BK231.out 0, bZ BK231.out 1, bZ BK231.out 2⟩ (fun hHeld => ?_); refine with_tabW spec_l16Tree.tab4 spec_l16Tree.bits4 (fun HT_ HW_ => ?_)
    generalize w15.drew = w16 at HO229 BK224 BK231 HB hHeld ⊢
    refine pur_ 1 16 (bs 16 2) (any_of HT_.out kR) ?_
    refine pur_ 2 17 (bs 16 6) (any_of HT_.out kR) ?_
    refine pur_ 3 18 (bs 16 14) (any_of HT_.out kR) ?_
    refine pur_ 4 19 (bs 16 30) (any_of HT_.out kR) ?_
    refine pur_ 5 20 (bs 16 62) (any_of HT_.out kR) ?_
    refine pur_ 6 21 (bs 16 126) (any_of HT_.out kR) ?_
    refine pur_ 7 22 (bs 16 254) (any_of HT_.out kR) ?_
    refine pur_ 8 23 (bs 16 510) (any_of HT_.out kR) ?_
    refine pur_ 9 24 (bs 16 1022) (any_of HT_.out kR) ?_
    refine tak_ 0 15 (bs 16 1023) (take_ofW HT_.out HW_.out kR) hHeld ?_
    refine tak_ 10 25 (bs 16 2047) (take_ofW HT_.out HW_.out kR) hHeld ?_
    refine one_ (i := 11) (N := some 26) (bs 16 4095) rfl rfl (one_of HT_.out (by kernel_rfl)) (by decide) (fun K hK => ?_)
    refine goes_ Try.func76 (by kernel_rfl) rfl #[.agg #[.int .i64 t225, .int .i64 t226, .slice Ao14 t227.length co14]] (by rfl) rfl rfl (by (try simp only [List.map_toArray, List.map_cons, List.map_nil]); first | done | rfl | (simp only [List.length_drop, List.length_take]; rfl)) ?_
    with_reducible refine (spec_l16Loops.calls k t225 t226 _ _ t227 t232 _ ?side1 ?side2 A8.out).mono ?_
    (case side1 => repeat (first | exact (Kd.R_reads' HO229.out).2.2 | (with_reducible refine Kd.C_alloc ?_ _) | (with_reducible refine Kd.C_drewN ?_ _) | (with_reducible refine Kd.C_drew ?_)))
    (case side2 => exact (Kd.R_reads' HO229.out).2.1)
    rintro e w17 ⟨rfl, hb⟩
    refine ⟨_, rfl, ?_⟩
    have n0_ := Aside0.mk (Kd.R_below (lR HO229.out) hb)
    have n1_ := Aside0.mk (blk_below (lK BK224.out) hb)
    have n2_ := Aside0.mk (blk_below (lK BK231.out) hb)
    have n3_ := Aside0.mk (below_step lB hb)
    clear HO229
    clear BK224
    clear BK231
    clear HB
    have HO229 := n0_
    have BK224 := n1_
    have BK231 := n2_
    have HB := n3_
    clear n0_ n1_ n2_ n3_
    (try clear hb)
    (try clear hb2)
    (try clear hk)
    (try clear hi)
    refine hK.out _ _ ⟨bZ BK231.out 0, bZ BK231.out 1, bZ BK231.out 2⟩ (fun hHeld => ?_)
    clear hK K
    refine norm_ (a' := ?_) ?_ ?_
    rotate_left
    ·show Act.put _ (some 26) _ = _
     simp only [Act.put, List.setIfInBounds_toArray, List.set_cons_zero, List.set_cons_succ, i64_w, i32_w]
     rfl
    refine pur_ 12 27 (bs 16 8191) (any_of HT_.out kR) ?_
    refine pur_ 13 28 (bs 16 16383) (any_of HT_.out kR) ?_
    refine one_ (i := 14) (N := none) (bs 16 32767) rfl rfl (one_of HT_.out (by kernel_rfl)) (by decide) (fun K hK => ?_)
    have hs18 : w17.cell? ⟨gb224, 0, none⟩ = some (.int .i64 0) := bZ BK224.out 0
    have hfs18 := blk_frozen BK224.out 0
    have hns18_1 := NB231_224.out
    have hms18_1 := NB224_231.out
    have hs19 : w17.cell? ⟨gb224, 1, none⟩ = some (.int .i64 0) := bZ BK224.out 1
    have hfs19 := blk_frozen BK224.out 1
    have hns19_1 := NB231_224.out
    have hms19_1 := NB224_231.out
    have hs20 : w17.cell? ⟨gb224, 2, none⟩ = some (.slice none 0 0) := bZ BK224.out 2
    have hfs20 := blk_frozen BK224.out 2
    have hns20_1 := NB231_224.out
    have hms20_1 := NB224_231.out
    refine skip_ (w1 := ?_) (by rfl) rfl ?_ ?_
    rotate_left
    ·go_simp
     rfl
    refine hK.out _ _ ⟨((cell_far (p := ⟨gb224, _, none⟩) NB231_224.out _).trans (((cell_far (p := ⟨gb224, _, none⟩) NB231_224.out _).trans (((cell_far (p := ⟨gb224, _, none⟩) NB231_224.out _).trans (hHeld.1)))))), ((cell_far (p := ⟨gb224, _, none⟩) NB231_224.out _).trans (((cell_far (p := ⟨gb224, _, none⟩) NB231_224.out _).trans (((cell_far (p := ⟨gb224, _, none⟩) NB231_224.out _).trans (hHeld.2.1)))))), ((cell_far (p := ⟨gb224, _, none⟩) NB231_224.out _).trans (((cell_far (p := ⟨gb224, _, none⟩) NB231_224.out _).trans (((cell_far (p := ⟨gb224, _, none⟩) NB231_224.out _).trans (hHeld.2.2))))))⟩ (fun hHeld => ?_)
    clear hK K
    refine pur_ 15 3 (bs 16 65535) (any_of HT_.out kR) ?_
    refine done_ (done_of HT_.out (by kernel_rfl)) ?_
    try go_wp2
    refine bodyPost_ret (results_ct rfl _ _ gb224 72 #[.int .i64 t225, .int .i64 t226, .slice Ao14 t227.length co14] (0, 0) _ rfl (by (with_reducible repeat first | apply bN | apply bD | apply bA); refine blk_put (cs := #[.int .i64 t225, .int .i64 t226, .slice none 0 0]) ?_ 2 _ rfl; (with_reducible repeat first | apply bN | apply bD | apply bA); refine blk_put (cs := #[.int .i64 t225, .int .i64 0, .slice none 0 0]) ?_ 1 _ rfl; (with_reducible repeat first | apply bN | apply bD | apply bA); refine blk_put (cs := #[.int .i64 0, .int .i64 0, .slice none 0 0]) ?_ 0 _ rfl; (with_reducible repeat first | apply bN | apply bD | apply bA); exact BK224.out) Try.underlying72 rfl (by kernel_rfl)) rfl ?_
    exact ⟨_, lE, by (with_reducible repeat (first | apply Kd.R_alloc | apply Kd.R_drewN | apply Kd.R_drew)); exact Kd.R_mono (Kd.R_far (p := ⟨gb224, 2, none⟩) (Kd.R_far (p := ⟨gb224, 1, none⟩) (Kd.R_far (p := ⟨gb224, 0, none⟩) (Kd.R_mono HO229.out (fun k_ hk => (⟨hk, hk.1⟩ : _ ∧ k_ ≠ gb224))) (fun _ hk => hk.2) (.int .i64 t225)) (fun _ hk => hk.2) (.int .i64 t226)) (fun _ hk => hk.2) (.slice Ao14 t227.length co14)) (fun _ hk => trivial), lB⟩
   ·rw [if_neg c7] at H
    have c7b0 : (t230 == (l0.length : Int)) = false := beq_eq_false_iff_ne.mpr c7
    have c7b1 : (t230 != (l0.length : Int)) = true := bne_iff_ne.mpr c7
    simp only [Option.some.injEq, Prod.mk.injEq] at H
    obtain ⟨rfl, rfl, rfl, rfl⟩ := H
    go_enter Try.func44, Try.ntmps44
    try go_wp2_with (first | ((with_reducible refine gate_dst (N := 2) rfl ?_); (try (refine gate_guard (by rfl) ?_; dsimp only)); refine bxe 2 #[.int .i64 0, .int .i64 0, .slice none 0 0] 72 ?_; intro gb224 hg w21 hbox hb; have n0_ := Aside0.mk (below_step lB hb); have n1_ := Aside0.mk (hbox); have n2_ := lG w hg; have n3_ := lG w hg; clear HB; have HB := n0_; have BK224 := n1_; have GW224 := n2_; have GE224 := n3_; clear n0_ n1_ n2_ n3_; clear hb hbox hg) | ((with_reducible refine gate_callee (f := 75) rfl ?_); refine gl_ (some 12) (Try.func75) #[.slice A0 l0.length c0, .int .i64 0] ?_; (with_reducible refine (spec_l16Read.calls k _ _ l0 0 t225 t226 t227 t230 _ ?side1 ?side2 A5.out).mono ?_); (case side1 => exact lC (Kd.C_below HR0.out HB.out)); (case side2 => exact HC0.out); rintro e w22 ⟨v228, rfl, ho0, hb⟩; refine ⟨_, rfl, ?_⟩; have n0_ := Aside0.mk (Kd.R_lower (Kd.R_newB ho0 (lK BK224.out)) (below_size lB)); have n1_ := Aside0.mk (blk_below (lK BK224.out) hb); have n2_ := Aside0.mk (below_step lB hb); clear BK224; clear HB; have HO229 := n0_; have BK224 := n1_; have HB := n2_; clear n0_ n1_ n2_; (try clear hb); (try clear hb2); (try clear hk); (try clear hi); (try clear ho0)) | ((with_reducible refine gate_dst (N := 4) rfl ?_); (try (refine gate_guard (by rfl) ?_; dsimp only)); refine bxe 4 #[.int .i64 0, .int .i64 0, .slice none 0 0] 72 ?_; intro gb231 hg w23 hbox hb; have n0_ := Aside0.mk (Kd.R_below (Kd.R_elderB (lR HO229.out) gb231 (Nat.le_of_eq hg.symm)) hb); have n1_ := Aside0.mk (blk_below (lK BK224.out) hb); have n2_ := Aside0.mk (below_step lB hb); have n3_ := Aside0.mk (hbox); have n4_ := lG w hg; have n5_ := lG w hg; have n6_ := Aside0.mk ((by rw [hg]; exact Nat.ne_of_lt (blk_lt (lK BK224.out)) : gb224 ≠ gb231)); have n7_ := Aside0.mk ((by rw [hg]; exact Nat.ne_of_gt (blk_lt (lK BK224.out)) : gb231 ≠ gb224)); clear HO229; clear BK224; clear HB; have HO229 := n0_; have BK224 := n1_; have HB := n2_; have BK231 := n3_; have GW231 := n4_; have GE231 := n5_; have NB224_231 := n6_; have NB231_224 := n7_; clear n0_ n1_ n2_ n3_ n4_ n5_ n6_ n7_; clear hb hbox hg; have hnb24 := NB231_224.out; have hnc24 := NB224_231.out; obtain ⟨hcz25_0, hfz25_0, hcz25_1, hfz25_1, hcz25_2, hfz25_2⟩ := bk3 BK231.out; obtain ⟨Ao26, co26, eo26⟩ := Kd.R_slice HO229.out; subst eo26))
    have n0_ : Aside0 (Kd.R k72 72 (((w23.setCell ⟨gb231, 0, none⟩ (.int .i64 t225)).setCell ⟨gb231, 1, none⟩ (.int .i64 t226)).setCell ⟨gb231, 2, none⟩ (.slice Ao26 t227.length co26)) w.heap.size (fun k_ => k_ ≠ gb224 ∧ k_ ≠ gb231) (.slice Ao26 t227.length co26) t227) := ⟨by (with_reducible repeat (first | apply Kd.R_alloc | apply Kd.R_drewN | apply Kd.R_drew)); exact Kd.R_mono (Kd.R_far (p := ⟨gb231, 2, none⟩) (Kd.R_far (p := ⟨gb231, 1, none⟩) (Kd.R_far (p := ⟨gb231, 0, none⟩) (Kd.R_mono HO229.out (fun k_ hk => (⟨hk, hk.2⟩ : _ ∧ k_ ≠ gb231))) (fun _ hk => hk.2) (.int .i64 t225)) (fun _ hk => hk.2) (.int .i64 t226)) (fun _ hk => hk.2) (.slice Ao26 t227.length co26)) (fun _ hk => ⟨hk.1.1.2, hk.1.2⟩)⟩
    have n1_ : Aside0 ((((w23.setCell ⟨gb231, 0, none⟩ (.int .i64 t225)).setCell ⟨gb231, 1, none⟩ (.int .i64 t226)).setCell ⟨gb231, 2, none⟩ (.slice Ao26 t227.length co26)).heap[gb224]? = some (.cells #[.int .i64 0, .int .i64 0, .slice none 0 0] 72 (0, 0))) := ⟨lJ BK224.out⟩
    have n2_ : Aside0 ((((w23.setCell ⟨gb231, 0, none⟩ (.int .i64 t225)).setCell ⟨gb231, 1, none⟩ (.int .i64 t226)).setCell ⟨gb231, 2, none⟩ (.slice Ao26 t227.length co26)).heap[gb231]? = some (.cells #[.int .i64 t225, .int .i64 t226, .slice Ao26 t227.length co26] 72 (0, 0))) := ⟨by (with_reducible repeat first | apply bN | apply bD | apply bA); refine blk_put (cs := #[.int .i64 t225, .int .i64 t226, .slice none 0 0]) ?_ 2 _ rfl; (with_reducible repeat first | apply bN | apply bD | apply bA); refine blk_put (cs := #[.int .i64 t225, .int .i64 0, .slice none 0 0]) ?_ 1 _ rfl; (with_reducible repeat first | apply bN | apply bD | apply bA); refine blk_put (cs := #[.int .i64 0, .int .i64 0, .slice none 0 0]) ?_ 0 _ rfl; (with_reducible repeat first | apply bN | apply bD | apply bA); exact BK231.out⟩
    have n3_ : Aside0 (Below w.heap.size w (((w23.setCell ⟨gb231, 0, none⟩ (.int .i64 t225)).setCell ⟨gb231, 1, none⟩ (.int .i64 t226)).setCell ⟨gb231, 2, none⟩ (.slice Ao26 t227.length co26))) := ⟨lB⟩
    (try clear HO229)
    (try clear BK224)
    (try clear BK231)
    (try clear HB)
    generalize (((w23.setCell ⟨gb231, 0, none⟩ (.int .i64 t225)).setCell ⟨gb231, 1, none⟩ (.int .i64 t226)).setCell ⟨gb231, 2, none⟩ (.slice Ao26 t227.length co26)) = w27 at n0_ n1_ n2_ n3_ ⊢
    have HO229 := n0_
    have BK224 := n1_
    have BK231 := n2_
    have HB := n3_
    clear n0_ n1_ n2_ n3_
    have n0_ := Aside0.mk (Kd.R_drew HO229.out)
    have n1_ := Aside0.mk (blk_drew BK224.out)
    have n2_ := Aside0.mk (blk_drew BK231.out)
    have n3_ := Aside0.mk (below_drew1 HB.out)
    clear HO229
    clear BK224
    clear BK231
    clear HB
    have HO229 := n0_
    have BK224 := n1_
    have BK231 := n2_
    have HB := n3_
    clear n0_ n1_ n2_ n3_
    refine start_ (n := 16) (S := fun w' => w'.cell? ⟨gb231, 0, none⟩ = some (.int .i64 t225) ∧ w'.cell? ⟨gb231, 1, none⟩ = some (.int .i64 t226) ∧ w'.cell? ⟨gb231, 2, none⟩ = some (.slice Ao26 t227.length co26)) (ds := []) (bs 16 0) kR rfl kR ⟨bZ BK231.out 0, bZ BK231.out 1, bZ BK231.out 2⟩ (fun hHeld => ?_); refine with_tabW spec_l16Tree.tab4 spec_l16Tree.bits4 (fun HT_ HW_ => ?_)
    generalize w27.drew = w28 at HO229 BK224 BK231 HB hHeld ⊢
    refine pur_ 1 16 (bs 16 2) (any_of HT_.out kR) ?_
    refine pur_ 2 17 (bs 16 6) (any_of HT_.out kR) ?_
    refine pur_ 3 18 (bs 16 14) (any_of HT_.out kR) ?_
    refine pur_ 4 19 (bs 16 30) (any_of HT_.out kR) ?_
    refine pur_ 5 20 (bs 16 62) (any_of HT_.out kR) ?_
    refine pur_ 6 21 (bs 16 126) (any_of HT_.out kR) ?_
    refine pur_ 7 22 (bs 16 254) (any_of HT_.out kR) ?_
    refine pur_ 8 23 (bs 16 510) (any_of HT_.out kR) ?_
    refine pur_ 9 24 (bs 16 1022) (any_of HT_.out kR) ?_
    refine puu_ 10 25 (bs 16 2046) (any_of HT_.out kR) ?_
    refine puu_ 11 26 (bs 16 4094) (any_of HT_.out kR) ?_
    refine puu_ 12 27 (bs 16 8190) (any_of HT_.out kR) ?_
    refine pur_ 13 28 (bs 16 16382) (any_of HT_.out kR) ?_
    refine tak_ 0 15 (bs 16 16383) (take_ofW HT_.out HW_.out kR) hHeld ?_
    refine one_ (i := 14) (N := none) (bs 16 32767) rfl rfl (one_of HT_.out (by kernel_rfl)) (by decide) (fun K hK => ?_)
    have hs29 : w28.cell? ⟨gb224, 0, none⟩ = some (.int .i64 0) := bZ BK224.out 0
    have hfs29 := blk_frozen BK224.out 0
    have hns29_1 := NB231_224.out
    have hms29_1 := NB224_231.out
    have hs30 : w28.cell? ⟨gb224, 1, none⟩ = some (.int .i64 0) := bZ BK224.out 1
    have hfs30 := blk_frozen BK224.out 1
    have hns30_1 := NB231_224.out
    have hms30_1 := NB224_231.out
    have hs31 : w28.cell? ⟨gb224, 2, none⟩ = some (.slice none 0 0) := bZ BK224.out 2
    have hfs31 := blk_frozen BK224.out 2
    have hns31_1 := NB231_224.out
    have hms31_1 := NB224_231.out
    refine skip_ (w1 := ?_) (by rfl) rfl ?_ ?_
    rotate_left
    ·go_simp
     rfl
    refine hK.out _ _ ⟨((cell_far (p := ⟨gb224, _, none⟩) NB231_224.out _).trans (((cell_far (p := ⟨gb224, _, none⟩) NB231_224.out _).trans (((cell_far (p := ⟨gb224, _, none⟩) NB231_224.out _).trans (hHeld.1)))))), ((cell_far (p := ⟨gb224, _, none⟩) NB231_224.out _).trans (((cell_far (p := ⟨gb224, _, none⟩) NB231_224.out _).trans (((cell_far (p := ⟨gb224, _, none⟩) NB231_224.out _).trans (hHeld.2.1)))))), ((cell_far (p := ⟨gb224, _, none⟩) NB231_224.out _).trans (((cell_far (p := ⟨gb224, _, none⟩) NB231_224.out _).trans (((cell_far (p := ⟨gb224, _, none⟩) NB231_224.out _).trans (hHeld.2.2))))))⟩ (fun hHeld => ?_)
    clear hK K
    refine pur_ 15 3 (bs 16 65535) (any_of HT_.out kR) ?_
    refine done_ (done_of HT_.out (by kernel_rfl)) ?_
    try go_wp2
    refine bodyPost_ret (results_ct rfl _ _ gb224 72 #[.int .i64 t225, .int .i64 t226, .slice Ao26 t227.length co26] (0, 0) _ rfl (by (with_reducible repeat first | apply bN | apply bD | apply bA); refine blk_put (cs := #[.int .i64 t225, .int .i64 t226, .slice none 0 0]) ?_ 2 _ rfl; (with_reducible repeat first | apply bN | apply bD | apply bA); refine blk_put (cs := #[.int .i64 t225, .int .i64 0, .slice none 0 0]) ?_ 1 _ rfl; (with_reducible repeat first | apply bN | apply bD | apply bA); refine blk_put (cs := #[.int .i64 0, .int .i64 0, .slice none 0 0]) ?_ 0 _ rfl; (with_reducible repeat first | apply bN | apply bD | apply bA); exact BK224.out) Try.underlying72 rfl (by kernel_rfl)) rfl ?_
    exact ⟨_, lE, by (with_reducible repeat (first | apply Kd.R_alloc | apply Kd.R_drewN | apply Kd.R_drew)); exact Kd.R_mono (Kd.R_far (p := ⟨gb224, 2, none⟩) (Kd.R_far (p := ⟨gb224, 1, none⟩) (Kd.R_far (p := ⟨gb224, 0, none⟩) (Kd.R_mono HO229.out (fun k_ hk => (⟨hk, hk.1⟩ : _ ∧ k_ ≠ gb224))) (fun _ hk => hk.2) (.int .i64 t225)) (fun _ hk => hk.2) (.int .i64 t226)) (fun _ hk => hk.2) (.slice Ao26 t227.length co26)) (fun _ hk => trivial), lB⟩
  ·rw [if_neg c6] at H
   have c6b0 : decide (0 < t230) = false := decide_eq_false c6
   clear c6
   simp only [Option.some.injEq, Prod.mk.injEq] at H
   obtain ⟨rfl, rfl, rfl, rfl⟩ := H
   go_enter Try.func44, Try.ntmps44
   try go_wp2_with (first | ((with_reducible refine gate_dst (N := 2) rfl ?_); (try (refine gate_guard (by rfl) ?_; dsimp only)); refine bxe 2 #[.int .i64 0, .int .i64 0, .slice none 0 0] 72 ?_; intro gb224 hg w32 hbox hb; have n0_ := Aside0.mk (below_step lB hb); have n1_ := Aside0.mk (hbox); have n2_ := lG w hg; have n3_ := lG w hg; clear HB; have HB := n0_; have BK224 := n1_; have GW224 := n2_; have GE224 := n3_; clear n0_ n1_ n2_ n3_; clear hb hbox hg) | ((with_reducible refine gate_callee (f := 75) rfl ?_); refine gl_ (some 12) (Try.func75) #[.slice A0 l0.length c0, .int .i64 0] ?_; (with_reducible refine (spec_l16Read.calls k _ _ l0 0 t225 t226 t227 t230 _ ?side1 ?side2 A5.out).mono ?_); (case side1 => exact lC (Kd.C_below HR0.out HB.out)); (case side2 => exact HC0.out); rintro e w33 ⟨v228, rfl, ho0, hb⟩; refine ⟨_, rfl, ?_⟩; have n0_ := Aside0.mk (Kd.R_lower (Kd.R_newB ho0 (lK BK224.out)) (below_size lB)); have n1_ := Aside0.mk (blk_below (lK BK224.out) hb); have n2_ := Aside0.mk (below_step lB hb); clear BK224; clear HB; have HO229 := n0_; have BK224 := n1_; have HB := n2_; clear n0_ n1_ n2_; (try clear hb); (try clear hb2); (try clear hk); (try clear hi); (try clear ho0)) | ((with_reducible refine gate_dst (N := 4) rfl ?_); (try (refine gate_guard (by rfl) ?_; dsimp only)); refine bxe 4 #[.int .i64 0, .int .i64 0, .slice none 0 0] 72 ?_; intro gb231 hg w34 hbox hb; have n0_ := Aside0.mk (Kd.R_below (Kd.R_elderB (lR HO229.out) gb231 (Nat.le_of_eq hg.symm)) hb); have n1_ := Aside0.mk (blk_below (lK BK224.out) hb); have n2_ := Aside0.mk (below_step lB hb); have n3_ := Aside0.mk (hbox); have n4_ := lG w hg; have n5_ := lG w hg; have n6_ := Aside0.mk ((by rw [hg]; exact Nat.ne_of_lt (blk_lt (lK BK224.out)) : gb224 ≠ gb231)); have n7_ := Aside0.mk ((by rw [hg]; exact Nat.ne_of_gt (blk_lt (lK BK224.out)) : gb231 ≠ gb224)); clear HO229; clear BK224; clear HB; have HO229 := n0_; have BK224 := n1_; have HB := n2_; have BK231 := n3_; have GW231 := n4_; have GE231 := n5_; have NB224_231 := n6_; have NB231_224 := n7_; clear n0_ n1_ n2_ n3_ n4_ n5_ n6_ n7_; clear hb hbox hg; have hnb35 := NB231_224.out; have hnc35 := NB224_231.out; obtain ⟨hcz36_0, hfz36_0, hcz36_1, hfz36_1, hcz36_2, hfz36_2⟩ := bk3 BK231.out; obtain ⟨Ao37, co37, eo37⟩ := Kd.R_slice HO229.out; subst eo37))
   have n0_ : Aside0 (Kd.R k72 72 (((w34.setCell ⟨gb231, 0, none⟩ (.int .i64 t225)).setCell ⟨gb231, 1, none⟩ (.int .i64 t226)).setCell ⟨gb231, 2, none⟩ (.slice Ao37 t227.length co37)) w.heap.size (fun k_ => k_ ≠ gb224 ∧ k_ ≠ gb231) (.slice Ao37 t227.length co37) t227) := ⟨by (with_reducible repeat (first | apply Kd.R_alloc | apply Kd.R_drewN | apply Kd.R_drew)); exact Kd.R_mono (Kd.R_far (p := ⟨gb231, 2, none⟩) (Kd.R_far (p := ⟨gb231, 1, none⟩) (Kd.R_far (p := ⟨gb231, 0, none⟩) (Kd.R_mono HO229.out (fun k_ hk => (⟨hk, hk.2⟩ : _ ∧ k_ ≠ gb231))) (fun _ hk => hk.2) (.int .i64 t225)) (fun _ hk => hk.2) (.int .i64 t226)) (fun _ hk => hk.2) (.slice Ao37 t227.length co37)) (fun _ hk => ⟨hk.1.1.2, hk.1.2⟩)⟩
   have n1_ : Aside0 ((((w34.setCell ⟨gb231, 0, none⟩ (.int .i64 t225)).setCell ⟨gb231, 1, none⟩ (.int .i64 t226)).setCell ⟨gb231, 2, none⟩ (.slice Ao37 t227.length co37)).heap[gb224]? = some (.cells #[.int .i64 0, .int .i64 0, .slice none 0 0] 72 (0, 0))) := ⟨lJ BK224.out⟩
   have n2_ : Aside0 ((((w34.setCell ⟨gb231, 0, none⟩ (.int .i64 t225)).setCell ⟨gb231, 1, none⟩ (.int .i64 t226)).setCell ⟨gb231, 2, none⟩ (.slice Ao37 t227.length co37)).heap[gb231]? = some (.cells #[.int .i64 t225, .int .i64 t226, .slice Ao37 t227.length co37] 72 (0, 0))) := ⟨by (with_reducible repeat first | apply bN | apply bD | apply bA); refine blk_put (cs := #[.int .i64 t225, .int .i64 t226, .slice none 0 0]) ?_ 2 _ rfl; (with_reducible repeat first | apply bN | apply bD | apply bA); refine blk_put (cs := #[.int .i64 t225, .int .i64 0, .slice none 0 0]) ?_ 1 _ rfl; (with_reducible repeat first | apply bN | apply bD | apply bA); refine blk_put (cs := #[.int .i64 0, .int .i64 0, .slice none 0 0]) ?_ 0 _ rfl; (with_reducible repeat first | apply bN | apply bD | apply bA); exact BK231.out⟩
   have n3_ : Aside0 (Below w.heap.size w (((w34.setCell ⟨gb231, 0, none⟩ (.int .i64 t225)).setCell ⟨gb231, 1, none⟩ (.int .i64 t226)).setCell ⟨gb231, 2, none⟩ (.slice Ao37 t227.length co37))) := ⟨lB⟩
   (try clear HO229)
   (try clear BK224)
   (try clear BK231)
   (try clear HB)
   generalize (((w34.setCell ⟨gb231, 0, none⟩ (.int .i64 t225)).setCell ⟨gb231, 1, none⟩ (.int .i64 t226)).setCell ⟨gb231, 2, none⟩ (.slice Ao37 t227.length co37)) = w38 at n0_ n1_ n2_ n3_ ⊢
   have HO229 := n0_
   have BK224 := n1_
   have BK231 := n2_
   have HB := n3_
   clear n0_ n1_ n2_ n3_
   have n0_ := Aside0.mk (Kd.R_drew HO229.out)
   have n1_ := Aside0.mk (blk_drew BK224.out)
   have n2_ := Aside0.mk (blk_drew BK231.out)
   have n3_ := Aside0.mk (below_drew1 HB.out)
   clear HO229
   clear BK224
   clear BK231
   clear HB
   have HO229 := n0_
   have BK224 := n1_
   have BK231 := n2_
   have HB := n3_
   clear n0_ n1_ n2_ n3_
   refine start_ (n := 16) (S := fun w' => w'.cell? ⟨gb231, 0, none⟩ = some (.int .i64 t225) ∧ w'.cell? ⟨gb231, 1, none⟩ = some (.int .i64 t226) ∧ w'.cell? ⟨gb231, 2, none⟩ = some (.slice Ao37 t227.length co37)) (ds := []) (bs 16 0) kR rfl kR ⟨bZ BK231.out 0, bZ BK231.out 1, bZ BK231.out 2⟩ (fun hHeld => ?_); refine with_tabW spec_l16Tree.tab4 spec_l16Tree.bits4 (fun HT_ HW_ => ?_)
   generalize w38.drew = w39 at HO229 BK224 BK231 HB hHeld ⊢
   refine pur_ 1 16 (bs 16 2) (any_of HT_.out kR) ?_
   refine pur_ 2 17 (bs 16 6) (any_of HT_.out kR) ?_
   refine pur_ 3 18 (bs 16 14) (any_of HT_.out kR) ?_
   refine puu_ 4 19 (bs 16 30) (any_of HT_.out kR) ?_
   refine puu_ 5 20 (bs 16 62) (any_of HT_.out kR) ?_
   refine puu_ 6 21 (bs 16 126) (any_of HT_.out kR) ?_
   refine puu_ 7 22 (bs 16 254) (any_of HT_.out kR) ?_
   refine pur_ 8 23 (bs 16 510) (any_of HT_.out kR) ?_
   refine pur_ 9 24 (bs 16 1022) (any_of HT_.out kR) ?_
   refine puu_ 10 25 (bs 16 2046) (any_of HT_.out kR) ?_
   refine puu_ 11 26 (bs 16 4094) (any_of HT_.out kR) ?_
   refine puu_ 12 27 (bs 16 8190) (any_of HT_.out kR) ?_
   refine pur_ 13 28 (bs 16 16382) (any_of HT_.out kR) ?_
   refine tak_ 0 15 (bs 16 16383) (take_ofW HT_.out HW_.out kR) hHeld ?_
   refine one_ (i := 14) (N := none) (bs 16 32767) rfl rfl (one_of HT_.out (by kernel_rfl)) (by decide) (fun K hK => ?_)
   have hs40 : w39.cell? ⟨gb224, 0, none⟩ = some (.int .i64 0) := bZ BK224.out 0
   have hfs40 := blk_frozen BK224.out 0
   have hns40_1 := NB231_224.out
   have hms40_1 := NB224_231.out
   have hs41 : w39.cell? ⟨gb224, 1, none⟩ = some (.int .i64 0) := bZ BK224.out 1
   have hfs41 := blk_frozen BK224.out 1
   have hns41_1 := NB231_224.out
   have hms41_1 := NB224_231.out
   have hs42 : w39.cell? ⟨gb224, 2, none⟩ = some (.slice none 0 0) := bZ BK224.out 2
   have hfs42 := blk_frozen BK224.out 2
   have hns42_1 := NB231_224.out
   have hms42_1 := NB224_231.out
   refine skip_ (w1 := ?_) (by rfl) rfl ?_ ?_
   rotate_left
   ·go_simp
    rfl
   refine hK.out _ _ ⟨((cell_far (p := ⟨gb224, _, none⟩) NB231_224.out _).trans (((cell_far (p := ⟨gb224, _, none⟩) NB231_224.out _).trans (((cell_far (p := ⟨gb224, _, none⟩) NB231_224.out _).trans (hHeld.1)))))), ((cell_far (p := ⟨gb224, _, none⟩) NB231_224.out _).trans (((cell_far (p := ⟨gb224, _, none⟩) NB231_224.out _).trans (((cell_far (p := ⟨gb224, _, none⟩) NB231_224.out _).trans (hHeld.2.1)))))), ((cell_far (p := ⟨gb224, _, none⟩) NB231_224.out _).trans (((cell_far (p := ⟨gb224, _, none⟩) NB231_224.out _).trans (((cell_far (p := ⟨gb224, _, none⟩) NB231_224.out _).trans (hHeld.2.2))))))⟩ (fun hHeld => ?_)
   clear hK K
   refine pur_ 15 3 (bs 16 65535) (any_of HT_.out kR) ?_
   refine done_ (done_of HT_.out (by kernel_rfl)) ?_
   try go_wp2
   refine bodyPost_ret (results_ct rfl _ _ gb224 72 #[.int .i64 t225, .int .i64 t226, .slice Ao37 t227.length co37] (0, 0) _ rfl (by (with_reducible repeat first | apply bN | apply bD | apply bA); refine blk_put (cs := #[.int .i64 t225, .int .i64 t226, .slice none 0 0]) ?_ 2 _ rfl; (with_reducible repeat first | apply bN | apply bD | apply bA); refine blk_put (cs := #[.int .i64 t225, .int .i64 0, .slice none 0 0]) ?_ 1 _ rfl; (with_reducible repeat first | apply bN | apply bD | apply bA); refine blk_put (cs := #[.int .i64 0, .int .i64 0, .slice none 0 0]) ?_ 0 _ rfl; (with_reducible repeat first | apply bN | apply bD | apply bA); exact BK224.out) Try.underlying72 rfl (by kernel_rfl)) rfl ?_
   exact ⟨_, lE, by (with_reducible repeat (first | apply Kd.R_alloc | apply Kd.R_drewN | apply Kd.R_drew)); exact Kd.R_mono (Kd.R_far (p := ⟨gb224, 2, none⟩) (Kd.R_far (p := ⟨gb224, 1, none⟩) (Kd.R_far (p := ⟨gb224, 0, none⟩) (Kd.R_mono HO229.out (fun k_ hk => (⟨hk, hk.1⟩ : _ ∧ k_ ≠ gb224))) (fun _ hk => hk.2) (.int .i64 t225)) (fun _ hk => hk.2) (.int .i64 t226)) (fun _ hk => hk.2) (.slice Ao37 t227.length co37)) (fun _ hk => trivial), lB⟩

end Go.Proofs.Ytgjojppbichaiaa.Q
