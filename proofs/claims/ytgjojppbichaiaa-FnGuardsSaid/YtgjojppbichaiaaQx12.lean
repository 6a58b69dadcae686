-- Written by the program wip/tools/pr.py of this claim's session, over the kit's print.py.
import Derived.Test.YtgjojppbichaiaaQx0
import Derived.Test.YtgjojppbichaiaaQx9
import Derived.Test.YtgjojppbichaiaaQx11
namespace Go.Proofs.Ytgjojppbichaiaa.Q
open Go.RowKit Go.Proofs.YtgjojppbichaiaaW.PrintWords Go.Proofs.YtgjojppbichaiaaW.PrintLast Go.Proofs.YtgjojppbichaiaaW.PrintMore
attribute [local go_sem] max2_int min2_int max_two min_two max_three min_three max_four min_four   -- for this text's walks alone
set_option linter.unusedVariables false
set_option linter.unusedSimpArgs false

/-! ### spec_DrawGuardAt: function 38 -/
def spec_DrawGuardAt.f (k : Nat) (l0 : List Int) : Option ((List (S86)) × (List (S63)) × Int × Int) := (spec_l1Cur_lined.f k l0 0 0).bind fun bt370 => ((spec_l1Cur_pick.f l0 bt370.2.2.1 bt370.2.2.2 (wrap64 ((bt370.1.length : Int) + 1))).bind fun bt379 => ((spec_l1Cur_pick.f l0 bt379.2.1 bt379.2.2 11).bind fun bt382 => (some (bt370.1, bt370.2.1, bt379.1, bt382.1))))
theorem spec_DrawGuardAt.mono : ∀ a0 k, LeO (spec_DrawGuardAt.f k a0) (spec_DrawGuardAt.f (k + 1) a0) := by
 intro a0 k
 unfold spec_DrawGuardAt.f
 repeat' first
   | with_reducible apply spec_l1Cur_lined.mono
   | (with_reducible exact LeO.refl _)
   | (with_reducible exact LeO.none _)
   | (with_reducible refine LeO.ite ?_ ?_)
   | (with_reducible refine LeO.bind ?_ (fun _ => ?_))
   | apply spec_l1Cur_lined.mono
   | exact LeO.none _
   | refine LeO.ite ?_ ?_
   | refine LeO.bind ?_ (fun _ => ?_)
def spec_DrawGuardAt.T3 : Bool × List (List Nat × List Nat) := (true, [([], []), ([], []), ([], []), ([2], [2]), ([3], [3]), ([4], [4]), ([1, 5], [1, 5]), ([], []), ([7, 6], [7]), ([0, 8, 0], [0]), ([6, 9, 0, 1, 2, 3, 4, 5, 6, 9], [6]), ([8, 10, 0, 1, 2, 3, 4, 5, 6, 7, 8, 9, 10], [8])])
def spec_DrawGuardAt.B3 : List Nat := [0, 0, 0, 4, 12, 28, 62, 0, 254, 511, 1023, 2047]
theorem spec_DrawGuardAt.tab3 : rtab .any (opsOf Try.f38 3) = spec_DrawGuardAt.T3 := by kernel_rfl
theorem spec_DrawGuardAt.bits3 : waitsOk spec_DrawGuardAt.T3.2 spec_DrawGuardAt.B3 = true := by kernel_rfl
set_option maxHeartbeats 8000000 in
set_option maxRecDepth 100000 in
theorem spec_DrawGuardAt.calls (k : Nat) (A0 : Option Addr) (c0 : Nat) (l0 : List Int) (r1 : List (S86)) (r2 : List (S63)) (r3 : Int) (r4 : Int) (w : World) (hr0 : Kd.C (Kd.int .u8) w A0 l0.length l0) (hc0 : l0.length ≤ c0) (h : spec_DrawGuardAt.f k l0 = some (r1, r2, r3, r4)) :
  Calls Try.prog 38 #[.slice A0 l0.length c0] w fun e w' => ∃ v0_ v1_ : Value, e = .returned (.tuple #[.agg #[v0_, v1_], .int .i64 r3, .int .i64 r4]) ∧ Kd.R k86 86 w' w.heap.size (fun _ => True) v0_ r1 ∧ Kd.R k63 63 w' w.heap.size (fun _ => True) v1_ r2 ∧ Below w.heap.size w w' := by
 have hu38 := Try.underlying38
 have hu114 := Try.underlying114
 have HR0 := Aside0.mk hr0
 have HC0 := Aside0.mk hc0
 clear hr0 hc0
 have HB := Aside0.mk (Below.refl w.heap.size w)
 have H : ((spec_l1Cur_lined.f k l0 0 0).bind fun bt370 => ((spec_l1Cur_pick.f l0 bt370.2.2.1 bt370.2.2.2 (wrap64 ((bt370.1.length : Int) + 1))).bind fun bt379 => ((spec_l1Cur_pick.f l0 bt379.2.1 bt379.2.2 11).bind fun bt382 => (some (bt370.1, bt370.2.1, bt379.1, bt382.1))))) = some (r1, r2, r3, r4) := h
 clear h
 replace H := Option.bind_eq_some_iff.mp H
 obtain ⟨⟨t370, t373, t376, t377⟩, A20, H⟩ := H
 replace H : ((spec_l1Cur_pick.f l0 t376 t377 (wrap64 ((t370.length : Int) + 1))).bind fun bt379 => ((spec_l1Cur_pick.f l0 bt379.2.1 bt379.2.2 11).bind fun bt382 => (some (t370, t373, bt379.1, bt382.1)))) = some (r1, r2, r3, r4) := H
 have A2 := Aside0.mk A20
 clear A20
 replace H := Option.bind_eq_some_iff.mp H
 obtain ⟨⟨t379, t380, t381⟩, A30, H⟩ := H
 replace H : ((spec_l1Cur_pick.f l0 t380 t381 11).bind fun bt382 => (some (t370, t373, t379, bt382.1))) = some (r1, r2, r3, r4) := H
 have A3 := Aside0.mk A30
 clear A30
 replace H := Option.bind_eq_some_iff.mp H
 obtain ⟨⟨t382, t383, t384⟩, A40, H⟩ := H
 replace H : (some (t370, t373, t379, t382)) = some (r1, r2, r3, r4) := H
 have A4 := Aside0.mk A40
 clear A40
 simp only [Option.some.injEq, Prod.mk.injEq] at H
 obtain ⟨rfl, rfl, rfl, rfl⟩ := H
 go_enter Try.func38, Try.ntmps38
 try go_wp2_with (first | ((with_reducible refine gate_dst (N := 2) rfl ?_); refine bxe 2 #[.slice none 0 0, .slice none 0 0] 38 ?_; intro gb368 hg w5 hbox hb; have n0_ := Aside0.mk (below_step lB hb); have n1_ := Aside0.mk (hbox); have n2_ := lG w hg; have n3_ := lG w hg; clear HB; have HB := n0_; have BK368 := n1_; have GW368 := n2_; have GE368 := n3_; clear n0_ n1_ n2_ n3_; clear hb hbox hg) | ((with_reducible refine gate_dst (N := 9) rfl ?_); refine bxe 9 #[.slice A0 l0.length c0, .int .i64 0, .int .u64 0] 114 ?_; intro gb369 hg w6 hbox hb; have n0_ := Aside0.mk (blk_below (lK BK368.out) hb); have n1_ := Aside0.mk (below_step lB hb); have n2_ := lG w hg; have n3_ := lG w hg; have n4_ := Aside0.mk ((by rw [hg]; exact Nat.ne_of_lt (blk_lt (lK BK368.out)) : gb368 ≠ gb369)); have n5_ := Aside0.mk ((by rw [hg]; exact Nat.ne_of_gt (blk_lt (lK BK368.out)) : gb369 ≠ gb368)); have n6_ := Aside0.mk ((show IsS114 w _ gb369 l0 0 0 from ⟨_, _, hbox, (by rw [hg]; exact (below_size lB)), HR0.out⟩)); clear BK368; clear HB; have BK368 := n0_; have HB := n1_; have GW369 := n2_; have GE369 := n3_; have NB368_369 := n4_; have NB369_368 := n5_; have HI369 := n6_; clear n0_ n1_ n2_ n3_ n4_ n5_ n6_; clear hb hbox hg) | ((with_reducible refine gate_callee (f := 71) rfl ?_); refine gl_ (some 11) (Try.func71) #[.pointer (some ⟨gb369, 0, none⟩)] ?_; (with_reducible refine (spec_l1Cur_lined.calls k gb369 l0 0 0 t370 t373 t376 t377 w _ ?side1 ?side2 A2.out).mono ?_); (case side1 => repeat (first | (with_reducible first | exact HI369.out | apply IsS114.alloc | apply IsS114.drewN | apply IsS114.drew | apply IsS114.set_1 | apply IsS114.set_2 | refine IsS114.far ?_ NB369_368.out _) | exact HI369.out)); (case side2 => repeat (first | (with_reducible first | exact HB.out | apply below_alloc | apply pw_below_drewN | apply below_drew1 | refine below_set ?_ (IsS114.ge HI369.out) | refine below_set ?_ GE368.out) | exact HB.out)); rintro e w7 ⟨v371, v374, rfl, ho0, ho1, hi, hb, hk⟩; refine ⟨_, rfl, ?_⟩; have n0_ := Aside0.mk (KeepBut.blk hk (g' := gb368) (o := .cells #[.slice none 0 0, .slice none 0 0] 38 (0, 0)) (lK BK368.out) NB368_369.out (by simp)); have n1_ := Aside0.mk (Kd.R_lower ho0 (below_size (by repeat (first | (with_reducible first | exact HB.out | apply below_alloc | apply pw_below_drewN | apply below_drew1 | refine below_set ?_ (IsS114.ge HI369.out) | refine below_set ?_ GE368.out) | exact HB.out)))); have n2_ := Aside0.mk (Kd.R_lower ho1 (below_size (by repeat (first | (with_reducible first | exact HB.out | apply below_alloc | apply pw_below_drewN | apply below_drew1 | refine below_set ?_ (IsS114.ge HI369.out) | refine below_set ?_ GE368.out) | exact HB.out)))); have n3_ := Aside0.mk (hb); have n4_ := Aside0.mk (hi); clear BK368; clear HB; clear HI369; have BK368 := n0_; have HO372 := n1_; have HO375 := n2_; have HB := n3_; have HI369 := n4_; clear n0_ n1_ n2_ n3_ n4_; (try clear hb); (try clear hb2); (try clear hk); (try clear hi); (try clear ho0); (try clear ho1)) | ((with_reducible refine gate_dst (N := 6) rfl ?_); refine bxe 6 #[.slice none 0 0, .slice none 0 0] 38 ?_; intro gb378 hg w8 hbox hb; have n0_ := Aside0.mk (Kd.R_below (lR HO372.out) hb); have n1_ := Aside0.mk (Kd.R_below (lR HO375.out) hb); have n2_ := Aside0.mk (blk_below (lK BK368.out) hb); have n3_ := Aside0.mk (IsS114.below (by repeat (first | (with_reducible first | exact HI369.out | apply IsS114.alloc | apply IsS114.drewN | apply IsS114.drew | apply IsS114.set_1 | apply IsS114.set_2 | refine IsS114.far ?_ NB369_368.out _) | exact HI369.out)) hb); have n4_ := Aside0.mk (below_step (by repeat (first | (with_reducible first | exact HB.out | apply below_alloc | apply pw_below_drewN | apply below_drew1 | refine below_set ?_ (IsS114.ge HI369.out) | refine below_set ?_ GE368.out) | exact HB.out)) hb); have n5_ := Aside0.mk (hbox); have n6_ := Aside0.mk ((by rw [hg]; exact (below_size (by repeat (first | (with_reducible first | exact HB.out | apply below_alloc | apply pw_below_drewN | apply below_drew1 | refine below_set ?_ (IsS114.ge HI369.out) | refine below_set ?_ GE368.out) | exact HB.out))) : w.heap.size ≤ gb378)); have n7_ := Aside0.mk ((by rw [hg]; exact (below_size (by repeat (first | (with_reducible first | exact HB.out | apply below_alloc | apply pw_below_drewN | apply below_drew1 | refine below_set ?_ (IsS114.ge HI369.out) | refine below_set ?_ GE368.out) | exact HB.out))) : w.heap.size ≤ gb378)); have n8_ := Aside0.mk ((by rw [hg]; exact Nat.ne_of_lt (blk_lt (lK BK368.out)) : gb368 ≠ gb378)); have n9_ := Aside0.mk ((by rw [hg]; exact Nat.ne_of_gt (blk_lt (lK BK368.out)) : gb378 ≠ gb368)); have n10_ := Aside0.mk ((by rw [hg]; exact Nat.ne_of_lt (IsS114.lt (show IsS114 w _ gb369 l0 t376 t377 from by repeat (first | (with_reducible first | exact HI369.out | apply IsS114.alloc | apply IsS114.drewN | apply IsS114.drew | apply IsS114.set_1 | apply IsS114.set_2 | refine IsS114.far ?_ NB369_368.out _) | exact HI369.out))) : gb369 ≠ gb378)); have n11_ := Aside0.mk ((by rw [hg]; exact Nat.ne_of_gt (IsS114.lt (show IsS114 w _ gb369 l0 t376 t377 from by repeat (first | (with_reducible first | exact HI369.out | apply IsS114.alloc | apply IsS114.drewN | apply IsS114.drew | apply IsS114.set_1 | apply IsS114.set_2 | refine IsS114.far ?_ NB369_368.out _) | exact HI369.out))) : gb378 ≠ gb369)); clear HO372; clear HO375; clear BK368; clear HI369; clear HB; have HO372 := n0_; have HO375 := n1_; have BK368 := n2_; have HI369 := n3_; have HB := n4_; have BK378 := n5_; have GW378 := n6_; have GE378 := n7_; have NB368_378 := n8_; have NB378_368 := n9_; have NB369_378 := n10_; have NB378_369 := n11_; clear n0_ n1_ n2_ n3_ n4_ n5_ n6_ n7_ n8_ n9_ n10_ n11_; clear hb hbox hg; obtain ⟨Ao9, co9, eo9⟩ := Kd.R_slice HO372.out; subst eo9; have hnb10 := NB378_368.out; have hnc10 := NB368_378.out; have hnb11 := NB378_369.out; have hnc11 := NB369_378.out; obtain ⟨hcz12_0, hfz12_0, hcz12_1, hfz12_1⟩ := bk2 BK378.out; obtain ⟨Ao13, co13, eo13⟩ := Kd.R_slice HO375.out; subst eo13))
 have n0_ : Aside0 (Kd.R k86 86 ((w8.setCell ⟨gb378, 0, none⟩ (.slice Ao9 t370.length co9)).setCell ⟨gb378, 1, none⟩ (.slice Ao13 t373.length co13)) w.heap.size (fun _ => True) (.slice Ao9 t370.length co9) t370) := ⟨by (with_reducible repeat (first | apply Kd.R_alloc | apply Kd.R_drewN | apply Kd.R_drew)); exact Kd.R_mono (Kd.R_far (p := ⟨gb378, 1, none⟩) (Kd.R_far (p := ⟨gb378, 0, none⟩) (Kd.R_types HO372.out BK378.out (by decide)) (fun _ hk => hk.2) (.slice Ao9 t370.length co9)) (fun _ hk => hk.2) (.slice Ao13 t373.length co13)) (fun _ hk => trivial)⟩
 have n1_ : Aside0 (Kd.R k63 63 ((w8.setCell ⟨gb378, 0, none⟩ (.slice Ao9 t370.length co9)).setCell ⟨gb378, 1, none⟩ (.slice Ao13 t373.length co13)) w.heap.size (fun _ => True) (.slice Ao13 t373.length co13) t373) := ⟨by (with_reducible repeat (first | apply Kd.R_alloc | apply Kd.R_drewN | apply Kd.R_drew)); exact Kd.R_mono (Kd.R_far (p := ⟨gb378, 1, none⟩) (Kd.R_far (p := ⟨gb378, 0, none⟩) (Kd.R_types HO375.out BK378.out (by decide)) (fun _ hk => hk.2) (.slice Ao9 t370.length co9)) (fun _ hk => hk.2) (.slice Ao13 t373.length co13)) (fun _ hk => trivial)⟩
 have n2_ : Aside0 (((w8.setCell ⟨gb378, 0, none⟩ (.slice Ao9 t370.length co9)).setCell ⟨gb378, 1, none⟩ (.slice Ao13 t373.length co13)).heap[gb368]? = some (.cells #[.slice none 0 0, .slice none 0 0] 38 (0, 0))) := ⟨lJ BK368.out⟩
 have n3_ : Aside0 (((w8.setCell ⟨gb378, 0, none⟩ (.slice Ao9 t370.length co9)).setCell ⟨gb378, 1, none⟩ (.slice Ao13 t373.length co13)).heap[gb378]? = some (.cells #[.slice Ao9 t370.length co9, .slice Ao13 t373.length co13] 38 (0, 0))) := ⟨by (with_reducible repeat first | apply bN | apply bD | apply bA); refine blk_put (cs := #[.slice Ao9 t370.length co9, .slice none 0 0]) ?_ 1 _ rfl; (with_reducible repeat first | apply bN | apply bD | apply bA); refine blk_put (cs := #[.slice none 0 0, .slice none 0 0]) ?_ 0 _ rfl; (with_reducible repeat first | apply bN | apply bD | apply bA); exact BK378.out⟩
 have n4_ : Aside0 (IsS114 w ((w8.setCell ⟨gb378, 0, none⟩ (.slice Ao9 t370.length co9)).setCell ⟨gb378, 1, none⟩ (.slice Ao13 t373.length co13)) gb369 l0 t376 t377) := ⟨by repeat (first | (with_reducible first | exact HI369.out | apply IsS114.alloc | apply IsS114.drewN | apply IsS114.drew | apply IsS114.set_1 | apply IsS114.set_2 | refine IsS114.far ?_ NB369_368.out _ | refine IsS114.far ?_ NB369_378.out _) | exact HI369.out)⟩
 have n5_ : Aside0 (Below w.heap.size w ((w8.setCell ⟨gb378, 0, none⟩ (.slice Ao9 t370.length co9)).setCell ⟨gb378, 1, none⟩ (.slice Ao13 t373.length co13))) := ⟨by repeat (first | (with_reducible first | exact HB.out | apply below_alloc | apply pw_below_drewN | apply below_drew1 | refine below_set ?_ (IsS114.ge HI369.out) | refine below_set ?_ GE368.out | refine below_set ?_ GE378.out) | exact HB.out)⟩
 (try clear HO372)
 (try clear HO375)
 (try clear BK368)
 (try clear BK378)
 (try clear HI369)
 (try clear HB)
 generalize ((w8.setCell ⟨gb378, 0, none⟩ (.slice Ao9 t370.length co9)).setCell ⟨gb378, 1, none⟩ (.slice Ao13 t373.length co13)) = w14 at n0_ n1_ n2_ n3_ n4_ n5_ ⊢
 have HO372 := n0_
 have HO375 := n1_
 have BK368 := n2_
 have BK378 := n3_
 have HI369 := n4_
 have HB := n5_
 clear n0_ n1_ n2_ n3_ n4_ n5_
 have n0_ := Aside0.mk (Kd.R_drew HO372.out)
 have n1_ := Aside0.mk (Kd.R_drew HO375.out)
 have n2_ := Aside0.mk (blk_drew BK368.out)
 have n3_ := Aside0.mk (blk_drew BK378.out)
 have n4_ := Aside0.mk (IsS114.drew HI369.out)
 have n5_ := Aside0.mk (below_drew1 HB.out)
 clear HO372
 clear HO375
 clear BK368
 clear BK378
 clear HI369
 clear HB
 have HO372 := n0_
 have HO375 := n1_
 have BK368 := n2_
 have BK378 := n3_
 have HI369 := n4_
 have HB := n5_
 clear n0_ n1_ n2_ n3_ n4_ n5_
 refine start_ (n := 12) (S := fun w' => w'.cell? ⟨gb378, 0, none⟩ = some (.slice Ao9 t370.length co9) ∧ w'.cell? ⟨gb378, 1, none⟩ = some (.slice Ao13 t373.length co13)) (ds := []) (bs 12 0) kR rfl kR ⟨bZ BK378.out 0, bZ BK378.out 1⟩ (fun hHeld => ?_); refine with_tabW spec_DrawGuardAt.tab3 spec_DrawGuardAt.bits3 (fun HT_ HW_ => ?_)
 generalize w14.drew = w15 at HO372 HO375 BK368 BK378 HI369 HB hHeld ⊢
 refine pur_ 1 13 (bs 12 2) (any_of HT_.out kR) ?_
 refine pur_ 2 14 (bs 12 6) (any_of HT_.out kR) ?_
 refine pur_ 7 19 (bs 12 134) (any_of HT_.out kR) ?_
 refine tak_ 0 12 (bs 12 135) (take_ofW HT_.out HW_.out kR) hHeld ?_
 refine tak_ 3 15 (bs 12 143) (take_ofW HT_.out HW_.out kR) hHeld ?_
 refine pur_ 4 16 (bs 12 159) (any_of HT_.out kR) ?_
 refine pur_ 5 17 (bs 12 191) (any_of HT_.out kR) ?_
 refine one_ (i := 6) (N := some 18) (bs 12 255) rfl rfl (one_of HT_.out (by kernel_rfl)) (by decide) (fun K hK => ?_)
 refine goes_ Try.func72 (by kernel_rfl) rfl #[.pointer (some ⟨gb369, 0, none⟩), .int .i64 (wrap64 ((t370.length : Int) + 1))] (by rfl) rfl rfl (by (try simp only [List.map_toArray, List.map_cons, List.map_nil]); first | done | rfl | (simp only [List.length_drop, List.length_take]; rfl)) ?_
 with_reducible refine (spec_l1Cur_pick.calls gb369 l0 t376 t377 (wrap64 ((t370.length : Int) + 1)) t379 t380 t381 w _ ?side1 ?side2 A3.out).mono ?_
 (case side1 => repeat (first | (with_reducible first | exact HI369.out | apply IsS114.alloc | apply IsS114.drewN | apply IsS114.drew | apply IsS114.set_1 | apply IsS114.set_2 | refine IsS114.far ?_ NB369_368.out _ | refine IsS114.far ?_ NB369_378.out _) | exact HI369.out))
 (case side2 => repeat (first | (with_reducible first | exact HB.out | apply below_alloc | apply pw_below_drewN | apply below_drew1 | refine below_set ?_ (IsS114.ge HI369.out) | refine below_set ?_ GE368.out | refine below_set ?_ GE378.out) | exact HB.out))
 rintro e w16 ⟨rfl, hi, hb, hk⟩
 refine ⟨_, rfl, ?_⟩
 have n0_ := Aside0.mk (KeepBut.blk hk (g' := gb368) (o := .cells #[.slice none 0 0, .slice none 0 0] 38 (0, 0)) (lK BK368.out) NB368_369.out (by simp))
 have n1_ := Aside0.mk (Kd.R_mono (Kd.R_keep (IsS114.apart (show IsS114 w _ gb369 l0 t376 t377 from by repeat (first | (with_reducible first | exact HI369.out | apply IsS114.alloc | apply IsS114.drewN | apply IsS114.drew | apply IsS114.set_1 | apply IsS114.set_2 | refine IsS114.far ?_ NB369_368.out _ | refine IsS114.far ?_ NB369_378.out _) | exact HI369.out)) (lR HO372.out) (by decide)) hk (fun _ h => h.2)) (fun _ h => h.1))
 have n2_ := Aside0.mk (Kd.R_mono (Kd.R_keep (IsS114.apart (show IsS114 w _ gb369 l0 t376 t377 from by repeat (first | (with_reducible first | exact HI369.out | apply IsS114.alloc | apply IsS114.drewN | apply IsS114.drew | apply IsS114.set_1 | apply IsS114.set_2 | refine IsS114.far ?_ NB369_368.out _ | refine IsS114.far ?_ NB369_378.out _) | exact HI369.out)) (lR HO375.out) (by decide)) hk (fun _ h => h.2)) (fun _ h => h.1))
 have n3_ := Aside0.mk (KeepBut.blk hk (g' := gb378) (o := .cells #[.slice Ao9 t370.length co9, .slice Ao13 t373.length co13] 38 (0, 0)) (lK BK378.out) NB378_369.out (by simp))
 have n4_ := Aside0.mk (hb)
 have n5_ := Aside0.mk (hi)
 clear BK368
 clear HO372
 clear HO375
 clear BK378
 clear HB
 clear HI369
 have BK368 := n0_
 have HO372 := n1_
 have HO375 := n2_
 have BK378 := n3_
 have HB := n4_
 have HI369 := n5_
 clear n0_ n1_ n2_ n3_ n4_ n5_
 (try clear hb)
 (try clear hb2)
 (try clear hk)
 (try clear hi)
 refine hK.out _ _ ⟨bZ BK378.out 0, bZ BK378.out 1⟩ (fun hHeld => ?_)
 clear hK K
 refine norm_ (a' := ?_) ?_ ?_
 rotate_left
 ·show Act.put _ (some 18) _ = _
  simp only [Act.put, List.setIfInBounds_toArray, List.set_cons_zero, List.set_cons_succ, i64_w, i32_w]
  rfl
 refine one_ (i := 8) (N := some 20) (bs 12 511) rfl rfl (one_of HT_.out (by kernel_rfl)) (by decide) (fun K hK => ?_)
 refine goes_ Try.func72 (by kernel_rfl) rfl #[.pointer (some ⟨gb369, 0, none⟩), .int .i64 11] (by rfl) rfl rfl (by (try simp only [List.map_toArray, List.map_cons, List.map_nil]); first | done | rfl | (simp only [List.length_drop, List.length_take]; rfl)) ?_
 with_reducible refine (spec_l1Cur_pick.calls gb369 l0 t380 t381 11 t382 t383 t384 w _ ?side1 ?side2 A4.out).mono ?_
 (case side1 => repeat (first | (with_reducible first | exact HI369.out | apply IsS114.alloc | apply IsS114.drewN | apply IsS114.drew | apply IsS114.set_1 | apply IsS114.set_2 | refine IsS114.far ?_ NB369_368.out _ | refine IsS114.far ?_ NB369_378.out _) | exact HI369.out))
 (case side2 => repeat (first | (with_reducible first | exact HB.out | apply below_alloc | apply pw_below_drewN | apply below_drew1 | refine below_set ?_ (IsS114.ge HI369.out) | refine below_set ?_ GE368.out | refine below_set ?_ GE378.out) | exact HB.out))
 rintro e w17 ⟨rfl, hi, hb, hk⟩
 refine ⟨_, rfl, ?_⟩
 have n0_ := Aside0.mk (KeepBut.blk hk (g' := gb368) (o := .cells #[.slice none 0 0, .slice none 0 0] 38 (0, 0)) (lK BK368.out) NB368_369.out (by simp))
 have n1_ := Aside0.mk (Kd.R_mono (Kd.R_keep (IsS114.apart (show IsS114 w _ gb369 l0 t380 t381 from by repeat (first | (with_reducible first | exact HI369.out | apply IsS114.alloc | apply IsS114.drewN | apply IsS114.drew | apply IsS114.set_1 | apply IsS114.set_2 | refine IsS114.far ?_ NB369_368.out _ | refine IsS114.far ?_ NB369_378.out _) | exact HI369.out)) (lR HO372.out) (by decide)) hk (fun _ h => h.2)) (fun _ h => h.1))
 have n2_ := Aside0.mk (Kd.R_mono (Kd.R_keep (IsS114.apart (show IsS114 w _ gb369 l0 t380 t381 from by repeat (first | (with_reducible first | exact HI369.out | apply IsS114.alloc | apply IsS114.drewN | apply IsS114.drew | apply IsS114.set_1 | apply IsS114.set_2 | refine IsS114.far ?_ NB369_368.out _ | refine IsS114.far ?_ NB369_378.out _) | exact HI369.out)) (lR HO375.out) (by decide)) hk (fun _ h => h.2)) (fun _ h => h.1))
 have n3_ := Aside0.mk (KeepBut.blk hk (g' := gb378) (o := .cells #[.slice Ao9 t370.length co9, .slice Ao13 t373.length co13] 38 (0, 0)) (lK BK378.out) NB378_369.out (by simp))
 have n4_ := Aside0.mk (hb)
 have n5_ := Aside0.mk (hi)
 clear BK368
 clear HO372
 clear HO375
 clear BK378
 clear HB
 clear HI369
 have BK368 := n0_
 have HO372 := n1_
 have HO375 := n2_
 have BK378 := n3_
 have HB := n4_
 have HI369 := n5_
 clear n0_ n1_ n2_ n3_ n4_ n5_
 (try clear hb)
 (try clear hb2)
 (try clear hk)
 (try clear hi)
 refine hK.out _ _ ⟨bZ BK378.out 0, bZ BK378.out 1⟩ (fun hHeld => ?_)
 clear hK K
 refine norm_ (a' := ?_) ?_ ?_
 rotate_left
 ·show Act.put _ (some 20) _ = _
  simp only [Act.put, List.setIfInBounds_toArray, List.set_cons_zero, List.set_cons_succ, i64_w, i32_w]
  rfl
 refine one_ (i := 9) (N := none) (bs 12 1023) rfl rfl (one_of HT_.out (by kernel_rfl)) (by decide) (fun K hK => ?_)
 have hs18 : w17.cell? ⟨gb368, 0, none⟩ = some (.slice none 0 0) := bZ BK368.out 0
 have hfs18 := blk_frozen BK368.out 0
 have hns18_1 := NB378_368.out
 have hms18_1 := NB368_378.out
 have hs19 : w17.cell? ⟨gb368, 1, none⟩ = some (.slice none 0 0) := bZ BK368.out 1
 have hfs19 := blk_frozen BK368.out 1
 have hns19_1 := NB378_368.out
 have hms19_1 := NB368_378.out
 refine skip_ (w1 := ?_) (by rfl) rfl ?_ ?_
 rotate_left
 ·go_simp
  rfl
 refine hK.out _ _ ⟨((cell_far (p := ⟨gb368, _, none⟩) NB378_368.out _).trans (((cell_far (p := ⟨gb368, _, none⟩) NB378_368.out _).trans (hHeld.1)))), ((cell_far (p := ⟨gb368, _, none⟩) NB378_368.out _).trans (((cell_far (p := ⟨gb368, _, none⟩) NB378_368.out _).trans (hHeld.2))))⟩ (fun hHeld => ?_)
 clear hK K
 refine pur_ 10 3 (bs 12 2047) (any_of HT_.out kR) ?_
 refine pur_ 11 4 (bs 12 4095) (any_of HT_.out kR) ?_
 refine done_ (done_of HT_.out (by kernel_rfl)) ?_
 try go_wp2
 refine bodyPost_ret (results_ctt rfl _ _ gb368 38 #[.slice Ao9 t370.length co9, .slice Ao13 t373.length co13] (0, 0) _ rfl (by (with_reducible repeat first | apply bN | apply bD | apply bA); refine blk_put (cs := #[.slice Ao9 t370.length co9, .slice none 0 0]) ?_ 1 _ rfl; (with_reducible repeat first | apply bN | apply bD | apply bA); refine blk_put (cs := #[.slice none 0 0, .slice none 0 0]) ?_ 0 _ rfl; (with_reducible repeat first | apply bN | apply bD | apply bA); exact BK368.out) Try.underlying38 rfl (by kernel_rfl)) rfl ?_
 exact ⟨_, _, lE, by (with_reducible repeat (first | apply Kd.R_alloc | apply Kd.R_drewN | apply Kd.R_drew)); exact Kd.R_mono (Kd.R_far (p := ⟨gb368, 1, none⟩) (Kd.R_far (p := ⟨gb368, 0, none⟩) (Kd.R_types HO372.out BK368.out (by decide)) (fun _ hk => hk.2) (.slice Ao9 t370.length co9)) (fun _ hk => hk.2) (.slice Ao13 t373.length co13)) (fun _ hk => trivial), by (with_reducible repeat (first | apply Kd.R_alloc | apply Kd.R_drewN | apply Kd.R_drew)); exact Kd.R_mono (Kd.R_far (p := ⟨gb368, 1, none⟩) (Kd.R_far (p := ⟨gb368, 0, none⟩) (Kd.R_types HO375.out BK368.out (by decide)) (fun _ hk => hk.2) (.slice Ao9 t370.length co9)) (fun _ hk => hk.2) (.slice Ao13 t373.length co13)) (fun _ hk => trivial), by repeat (first | (with_reducible first | exact HB.out | apply below_alloc | apply pw_below_drewN | apply below_drew1 | refine below_set ?_ (IsS114.ge HI369.out) | refine below_set ?_ GE368.out | refine below_set ?_ GE378.out) | exact HB.out)⟩

/-! ### spec_DrawRunLined: function 39 -/
def spec_DrawRunLined.f (k : Nat) (l0 : List Int) : Option ((List (S86)) × (List (S63)) × Int) := (spec_l1Cur_lined.f k l0 0 0).bind fun bt387 => ((spec_l1Cur_among.f l0 bt387.2.2.1 bt387.2.2.2 (([(-1), 0, 5, 300, 2000, 2001] : List Int))).bind fun bt398 => (some (bt387.1, bt387.2.1, bt398.1)))
theorem spec_DrawRunLined.mono : ∀ a0 k, LeO (spec_DrawRunLined.f k a0) (spec_DrawRunLined.f (k + 1) a0) := by
 intro a0 k
 unfold spec_DrawRunLined.f
 repeat' first
   | with_reducible apply spec_l1Cur_lined.mono
   | (with_reducible exact LeO.refl _)
   | (with_reducible exact LeO.none _)
   | (with_reducible refine LeO.ite ?_ ?_)
   | (with_reducible refine LeO.bind ?_ (fun _ => ?_))
   | apply spec_l1Cur_lined.mono
   | exact LeO.none _
   | refine LeO.ite ?_ ?_
   | refine LeO.bind ?_ (fun _ => ?_)
set_option maxHeartbeats 8000000 in
set_option maxRecDepth 100000 in
theorem spec_DrawRunLined.calls (k : Nat) (A0 : Option Addr) (c0 : Nat) (l0 : List Int) (r1 : List (S86)) (r2 : List (S63)) (r3 : Int) (w : World) (hr0 : Kd.C (Kd.int .u8) w A0 l0.length l0) (hc0 : l0.length ≤ c0) (h : spec_DrawRunLined.f k l0 = some (r1, r2, r3)) :
  Calls Try.prog 39 #[.slice A0 l0.length c0] w fun e w' => ∃ v0_ v1_ : Value, e = .returned (.tuple #[.agg #[v0_, v1_], .int .i64 r3]) ∧ Kd.R k86 86 w' w.heap.size (fun _ => True) v0_ r1 ∧ Kd.R k63 63 w' w.heap.size (fun _ => True) v1_ r2 ∧ Below w.heap.size w w' := by
 have hu38 := Try.underlying38
 have hu114 := Try.underlying114
 have HR0 := Aside0.mk hr0
 have HC0 := Aside0.mk hc0
 clear hr0 hc0
 have HB := Aside0.mk (Below.refl w.heap.size w)
 have H : ((spec_l1Cur_lined.f k l0 0 0).bind fun bt387 => ((spec_l1Cur_among.f l0 bt387.2.2.1 bt387.2.2.2 (([(-1), 0, 5, 300, 2000, 2001] : List Int))).bind fun bt398 => (some (bt387.1, bt387.2.1, bt398.1)))) = some (r1, r2, r3) := h
 clear h
 replace H := Option.bind_eq_some_iff.mp H
 obtain ⟨⟨t387, t390, t393, t394⟩, A20, H⟩ := H
 replace H : ((spec_l1Cur_among.f l0 t393 t394 (([(-1), 0, 5, 300, 2000, 2001] : List Int))).bind fun bt398 => (some (t387, t390, bt398.1))) = some (r1, r2, r3) := H
 have A2 := Aside0.mk A20
 clear A20
 obtain ⟨y395, hy395⟩ : ∃ y_ : List Int, y_ = (([(-1), 0, 5, 300, 2000, 2001] : List Int)) := ⟨_, rfl⟩
 replace H : ((spec_l1Cur_among.f l0 t393 t394 y395).bind fun bt398 => (some (t387, t390, bt398.1))) = some (r1, r2, r3) := by first | (rw [hy395]; with_reducible exact H) | (have H2_ := (Option.bind_some _ _).symm.trans H; rw [hy395]; with_reducible exact H2_) | (have H2_ := (Option.bind_some _ _).symm.trans H; with_reducible exact H2_) | with_reducible exact H | (rw [hy395]; exact H) | exact H
 have Ny395 := Aside0.mk hy395
 clear hy395
 replace H := Option.bind_eq_some_iff.mp H
 obtain ⟨⟨t398, t399, t400⟩, A30, H⟩ := H
 replace H : (some (t387, t390, t398)) = some (r1, r2, r3) := H
 have A3 := Aside0.mk A30
 clear A30
 simp only [Option.some.injEq, Prod.mk.injEq] at H
 obtain ⟨rfl, rfl, rfl⟩ := H
 go_enter Try.func39, Try.ntmps39
 go_wp2_with (first | ((with_reducible refine gate_dst (N := 2) rfl ?_); refine bxe 2 #[.slice none 0 0, .slice none 0 0] 38 ?_; intro gb385 hg w4 hbox hb; have n0_ := Aside0.mk (below_step lB hb); have n1_ := Aside0.mk (hbox); have n2_ := lG w hg; have n3_ := lG w hg; clear HB; have HB := n0_; have BK385 := n1_; have GW385 := n2_; have GE385 := n3_; clear n0_ n1_ n2_ n3_; clear hb hbox hg) | ((with_reducible refine gate_dst (N := 7) rfl ?_); refine bxe 7 #[.slice A0 l0.length c0, .int .i64 0, .int .u64 0] 114 ?_; intro gb386 hg w5 hbox hb; have n0_ := Aside0.mk (blk_below (lK BK385.out) hb); have n1_ := Aside0.mk (below_step lB hb); have n2_ := lG w hg; have n3_ := lG w hg; have n4_ := Aside0.mk ((by rw [hg]; exact Nat.ne_of_lt (blk_lt (lK BK385.out)) : gb385 ≠ gb386)); have n5_ := Aside0.mk ((by rw [hg]; exact Nat.ne_of_gt (blk_lt (lK BK385.out)) : gb386 ≠ gb385)); have n6_ := Aside0.mk ((show IsS114 w _ gb386 l0 0 0 from ⟨_, _, hbox, (by rw [hg]; exact (below_size lB)), HR0.out⟩)); clear BK385; clear HB; have BK385 := n0_; have HB := n1_; have GW386 := n2_; have GE386 := n3_; have NB385_386 := n4_; have NB386_385 := n5_; have HI386 := n6_; clear n0_ n1_ n2_ n3_ n4_ n5_ n6_; clear hb hbox hg) | ((with_reducible refine gate_callee (f := 71) rfl ?_); refine gl_ (some 9) (Try.func71) #[.pointer (some ⟨gb386, 0, none⟩)] ?_; (with_reducible refine (spec_l1Cur_lined.calls k gb386 l0 0 0 t387 t390 t393 t394 w _ ?side1 ?side2 A2.out).mono ?_); (case side1 => repeat (first | (with_reducible first | exact HI386.out | apply IsS114.alloc | apply IsS114.drewN | apply IsS114.drew | apply IsS114.set_1 | apply IsS114.set_2 | refine IsS114.far ?_ NB386_385.out _) | exact HI386.out)); (case side2 => repeat (first | (with_reducible first | exact HB.out | apply below_alloc | apply pw_below_drewN | apply below_drew1 | refine below_set ?_ (IsS114.ge HI386.out) | refine below_set ?_ GE385.out) | exact HB.out)); rintro e w6 ⟨v388, v391, rfl, ho0, ho1, hi, hb, hk⟩; refine ⟨_, rfl, ?_⟩; have n0_ := Aside0.mk (KeepBut.blk hk (g' := gb385) (o := .cells #[.slice none 0 0, .slice none 0 0] 38 (0, 0)) (lK BK385.out) NB385_386.out (by simp)); have n1_ := Aside0.mk (Kd.R_lower ho0 (below_size (by repeat (first | (with_reducible first | exact HB.out | apply below_alloc | apply pw_below_drewN | apply below_drew1 | refine below_set ?_ (IsS114.ge HI386.out) | refine below_set ?_ GE385.out) | exact HB.out)))); have n2_ := Aside0.mk (Kd.R_lower ho1 (below_size (by repeat (first | (with_reducible first | exact HB.out | apply below_alloc | apply pw_below_drewN | apply below_drew1 | refine below_set ?_ (IsS114.ge HI386.out) | refine below_set ?_ GE385.out) | exact HB.out)))); have n3_ := Aside0.mk (hb); have n4_ := Aside0.mk (hi); clear BK385; clear HB; clear HI386; have BK385 := n0_; have HO389 := n1_; have HO392 := n2_; have HB := n3_; have HI386 := n4_; clear n0_ n1_ n2_ n3_ n4_; (try clear hb); (try clear hb2); (try clear hk); (try clear hi); (try clear ho0); (try clear ho1)) | ((with_reducible refine gate_dst (N := 11) rfl ?_); refine Kd.R_lit (Kd.int .i64) _ 3 ?hg (N := 11) ?hd (xs := ([(-1), 0, 5, 300, 2000, 2001] : List Int)) (inner := [.int .i64 (-1), .int .i64 0, .int .i64 5, .int .i64 300, .int .i64 2000, .int .i64 2001]) (ok := fun _ => True) (okp := fun _ => True) ?hr ?hp (fun _ hk => hk) trivial (Below.refl _ _) (Nat.le_refl _) (by simp) ?_; (case hd => rfl); (case hg => rfl); (case hr => first | (go_simp; done) | (go_simp; rfl)); (case hp => exact (Reps.one (show Kd.M (Kd.int .i64) _ _ _ (-1) [.int .i64 (-1)] from rfl) (Reps.one (show Kd.M (Kd.int .i64) _ _ _ 0 [.int .i64 0] from rfl) (Reps.one (show Kd.M (Kd.int .i64) _ _ _ 5 [.int .i64 5] from rfl) (Reps.one (show Kd.M (Kd.int .i64) _ _ _ 300 [.int .i64 300] from rfl) (Reps.one (show Kd.M (Kd.int .i64) _ _ _ 2000 [.int .i64 2000] from rfl) (Reps.one (show Kd.M (Kd.int .i64) _ _ _ 2001 [.int .i64 2001] from rfl) (Reps.none _ _)))))))); intro v396 w7 ho8 hb hg_ hnew_; clear hg_ hnew_; (first | rw [← Ny395.out] at ho8 | (simp only [Int.reduceToNat] at ho8; rw [← Ny395.out] at ho8)); have n0_ := Aside0.mk (Kd.R_below (lR HO389.out) hb); have n1_ := Aside0.mk (Kd.R_below (lR HO392.out) hb); have n2_ := Aside0.mk (Kd.R_lower ho8 (below_size (by repeat (first | (with_reducible first | exact HB.out | apply below_alloc | apply pw_below_drewN | apply below_drew1 | refine below_set ?_ (IsS114.ge HI386.out) | refine below_set ?_ GE385.out) | exact HB.out)))); have n3_ := Aside0.mk (blk_below (lK BK385.out) hb); have n4_ := Aside0.mk (IsS114.below (by repeat (first | (with_reducible first | exact HI386.out | apply IsS114.alloc | apply IsS114.drewN | apply IsS114.drew | apply IsS114.set_1 | apply IsS114.set_2 | refine IsS114.far ?_ NB386_385.out _) | exact HI386.out)) hb); have n5_ := Aside0.mk (below_step (by repeat (first | (with_reducible first | exact HB.out | apply below_alloc | apply pw_below_drewN | apply below_drew1 | refine below_set ?_ (IsS114.ge HI386.out) | refine below_set ?_ GE385.out) | exact HB.out)) hb); clear HO389; clear HO392; clear BK385; clear HI386; clear HB; have HO389 := n0_; have HO392 := n1_; have HO397 := n2_; have BK385 := n3_; have HI386 := n4_; have HB := n5_; clear n0_ n1_ n2_ n3_ n4_ n5_; clear hb ho8; obtain ⟨Ao9, co9, eo9⟩ := Kd.R_slice HO397.out; subst eo9) | ((with_reducible refine gate_callee (f := 73) rfl ?_); refine gl_ (some 12) (Try.func73) #[.pointer (some ⟨gb386, 0, none⟩), .slice Ao9 y395.length co9] ?_; (with_reducible refine (spec_l1Cur_among.calls gb386 l0 t393 t394 _ _ y395 t398 t399 t400 w _ ?side1 ?side2 ?side3 ?side4 ?side5 A3.out).mono ?_); (case side1 => repeat (first | (with_reducible first | exact HI386.out | apply IsS114.alloc | apply IsS114.drewN | apply IsS114.drew | apply IsS114.set_1 | apply IsS114.set_2 | refine IsS114.far ?_ NB386_385.out _) | exact HI386.out)); (case side2 => repeat (first | (with_reducible first | exact HB.out | apply below_alloc | apply pw_below_drewN | apply below_drew1 | refine below_set ?_ (IsS114.ge HI386.out) | refine below_set ?_ GE385.out) | exact HB.out)); (case side3 => repeat (first | exact (Kd.R_reads' HO397.out).2.2 | (with_reducible refine Kd.C_alloc ?_ _) | (with_reducible refine Kd.C_drewN ?_ _) | (with_reducible refine Kd.C_drew ?_))); (case side4 => exact (Kd.R_reads' HO397.out).2.1); (case side5 => exact far_slice (IsS114.own_ne HI386.out HO397.out (by decide))); rintro e w10 ⟨rfl, hi, hb, hk⟩; refine ⟨_, rfl, ?_⟩; have n0_ := Aside0.mk (KeepBut.blk hk (g' := gb385) (o := .cells #[.slice none 0 0, .slice none 0 0] 38 (0, 0)) (lK BK385.out) NB385_386.out (by simp)); have n1_ := Aside0.mk (Kd.R_mono (Kd.R_keep (IsS114.apart (show IsS114 w _ gb386 l0 t393 t394 from by repeat (first | (with_reducible first | exact HI386.out | apply IsS114.alloc | apply IsS114.drewN | apply IsS114.drew | apply IsS114.set_1 | apply IsS114.set_2 | refine IsS114.far ?_ NB386_385.out _) | exact HI386.out)) (lR HO389.out) (by decide)) hk (fun _ h => h.2)) (fun _ h => h.1)); have n2_ := Aside0.mk (Kd.R_mono (Kd.R_keep (IsS114.apart (show IsS114 w _ gb386 l0 t393 t394 from by repeat (first | (with_reducible first | exact HI386.out | apply IsS114.alloc | apply IsS114.drewN | apply IsS114.drew | apply IsS114.set_1 | apply IsS114.set_2 | refine IsS114.far ?_ NB386_385.out _) | exact HI386.out)) (lR HO392.out) (by decide)) hk (fun _ h => h.2)) (fun _ h => h.1)); have n3_ := Aside0.mk (Kd.R_mono (Kd.R_keep (IsS114.apart (show IsS114 w _ gb386 l0 t393 t394 from by repeat (first | (with_reducible first | exact HI386.out | apply IsS114.alloc | apply IsS114.drewN | apply IsS114.drew | apply IsS114.set_1 | apply IsS114.set_2 | refine IsS114.far ?_ NB386_385.out _) | exact HI386.out)) (lR HO397.out) (by decide)) hk (fun _ h => h.2)) (fun _ h => h.1)); have n4_ := Aside0.mk (hb); have n5_ := Aside0.mk (hi); clear BK385; clear HO389; clear HO392; clear HO397; clear HB; clear HI386; have BK385 := n0_; have HO389 := n1_; have HO392 := n2_; have HO397 := n3_; have HB := n4_; have HI386 := n5_; clear n0_ n1_ n2_ n3_ n4_ n5_; (try clear hb); (try clear hb2); (try clear hk); (try clear hi); obtain ⟨Ao11, co11, eo11⟩ := Kd.R_slice HO389.out; subst eo11; have hnb12 := NB385_386.out; have hnc12 := NB386_385.out; obtain ⟨hcz13_0, hfz13_0, hcz13_1, hfz13_1⟩ := bk2 BK385.out; obtain ⟨Ao14, co14, eo14⟩ := Kd.R_slice HO392.out; subst eo14))
 refine bodyPost_ret (results_ct rfl _ _ gb385 38 #[.slice Ao11 t387.length co11, .slice Ao14 t390.length co14] (0, 0) _ rfl (by (with_reducible repeat first | apply bN | apply bD | apply bA); refine blk_put (cs := #[.slice Ao11 t387.length co11, .slice none 0 0]) ?_ 1 _ rfl; (with_reducible repeat first | apply bN | apply bD | apply bA); refine blk_put (cs := #[.slice none 0 0, .slice none 0 0]) ?_ 0 _ rfl; (with_reducible repeat first | apply bN | apply bD | apply bA); exact BK385.out) Try.underlying38 rfl (by kernel_rfl)) rfl ?_
 exact ⟨_, _, lE, by (with_reducible repeat (first | apply Kd.R_alloc | apply Kd.R_drewN | apply Kd.R_drew)); exact Kd.R_mono (Kd.R_far (p := ⟨gb385, 1, none⟩) (Kd.R_far (p := ⟨gb385, 0, none⟩) (Kd.R_types HO389.out BK385.out (by decide)) (fun _ hk => hk.2) (.slice Ao11 t387.length co11)) (fun _ hk => hk.2) (.slice Ao14 t390.length co14)) (fun _ hk => trivial), by (with_reducible repeat (first | apply Kd.R_alloc | apply Kd.R_drewN | apply Kd.R_drew)); exact Kd.R_mono (Kd.R_far (p := ⟨gb385, 1, none⟩) (Kd.R_far (p := ⟨gb385, 0, none⟩) (Kd.R_types HO392.out BK385.out (by decide)) (fun _ hk => hk.2) (.slice Ao11 t387.length co11)) (fun _ hk => hk.2) (.slice Ao14 t390.length co14)) (fun _ hk => trivial), by repeat (first | (with_reducible first | exact HB.out | apply below_alloc | apply pw_below_drewN | apply below_drew1 | refine below_set ?_ (IsS114.ge HI386.out) | refine below_set ?_ GE385.out) | exact HB.out)⟩

/-! ### laws_sameInts: function 40 -/
def laws_sameInts.l0 : Nat → List Int → List Int → Int → Int → Option (Bool)
 | 0, _, _, _, _ => none
 | k + 1, x0, x1, x12, x13 => if x13 < x12 then (if 0 ≤ x13 then (if x13 < (x0.length : Int) then (if x13 < (x1.length : Int) then (if (rd x0 x13) = (rd x1 x13) then (laws_sameInts.l0 k x0 x1 x12 (wrap64 (x13 + 1))) else (some false)) else (none)) else (none)) else (none)) else (some true)
def laws_sameInts.f (k : Nat) (l0 : List Int) (l1 : List Int) : Option (Bool) := if (l0.length : Int) = (l1.length : Int) then (laws_sameInts.l0 k l0 l1 (l0.length : Int) 0) else (some false)
theorem laws_sameInts.mono_l : ∀ k, (∀ y0 y1 y2 y3, LeO (laws_sameInts.l0 k y0 y1 y2 y3) (laws_sameInts.l0 (k + 1) y0 y1 y2 y3))
 | 0 => fun _ _ _ _ r h => by simp [laws_sameInts.l0] at h
 | k + 1 => by
  have ih0 := laws_sameInts.mono_l k
  ·intro y0 y1 y2 y3
   unfold laws_sameInts.l0
   repeat' first
   | with_reducible apply ih0
   | (with_reducible exact LeO.refl _)
   | (with_reducible exact LeO.none _)
   | (with_reducible refine LeO.ite ?_ ?_)
   | (with_reducible refine LeO.bind ?_ (fun _ => ?_))
   | apply ih0
   | exact LeO.none _
   | refine LeO.ite ?_ ?_
   | refine LeO.bind ?_ (fun _ => ?_)
theorem laws_sameInts.mono : ∀ a0 a1 k, LeO (laws_sameInts.f k a0 a1) (laws_sameInts.f (k + 1) a0 a1) := by
 intro a0 a1 k
 have ih0 := laws_sameInts.mono_l k
 unfold laws_sameInts.f
 repeat' first
   | with_reducible apply ih0
   | (with_reducible exact LeO.refl _)
   | (with_reducible exact LeO.none _)
   | (with_reducible refine LeO.ite ?_ ?_)
   | (with_reducible refine LeO.bind ?_ (fun _ => ?_))
   | apply ih0
   | exact LeO.none _
   | refine LeO.ite ?_ ?_
   | refine LeO.bind ?_ (fun _ => ?_)
set_option maxHeartbeats 8000000 in
set_option maxRecDepth 100000 in
theorem laws_sameInts.calls (k : Nat) (A0 : Option Addr) (c0 : Nat) (l0 : List Int) (A1 : Option Addr) (c1 : Nat) (l1 : List Int) (r : Bool) (w : World) (hr0 : Kd.C (Kd.int .i64) w A0 l0.length l0) (hc0 : l0.length ≤ c0) (hr1 : Kd.C (Kd.int .i64) w A1 l1.length l1) (hc1 : l1.length ≤ c1) (h : laws_sameInts.f k l0 l1 = some r) :
  Calls Try.prog 40 #[.slice A0 l0.length c0, .slice A1 l1.length c1] w fun e w' => e = .returned (.bool r) ∧ Drawn0 w w' := by
 have HR0 := Aside0.mk hr0
 have HC0 := Aside0.mk hc0
 clear hr0 hc0
 have HR1 := Aside0.mk hr1
 have HC1 := Aside0.mk hc1
 clear hr1 hc1
 have H : (if (l0.length : Int) = (l1.length : Int) then (laws_sameInts.l0 k l0 l1 (l0.length : Int) 0) else (some false)) = some r := h
 clear h
 by_cases c3 : (l0.length : Int) = (l1.length : Int)
 ·rw [if_pos c3] at H
  have c3b0 : ((l0.length : Int) == (l1.length : Int)) = true := beq_iff_eq.mpr c3
  have c3b1 : ((l0.length : Int) != (l1.length : Int)) = false := bne_eq_false_iff_eq.mpr c3
  have c3b2 : (l0.length == l1.length) = true := by first | simpa using c3 | (simp at c3 ⊢; omega)
  clear c3
  have H' := Aside0.mk H
  clear H
  go_enter Try.func40, Try.ntmps40
  go_wp2
  repeat (go_quiet (fail); try go_wp2)
  go_loopg [13] k (fun kq v13 w' => ∃ (x13_1 : Int), v13 = .int .i64 x13_1 ∧ Aside0 (laws_sameInts.l0 kq l0 l1 (l0.length : Int) x13_1 = some r) ∧ Aside0 (kq ≤ k) ∧ Drawn0 w w')
  case atStart => exact ⟨(0), lF, H', ⟨Nat.le_refl _⟩, by repeat (first | exact Drawn0.refl _ | apply Drawn0.step)⟩
  case round =>
   clear H'
   try clear c1
   try clear p2
   try clear c3
   try clear c3b0
   try clear c3b1
   try clear c3b2
   obtain ⟨x13_1, rfl, HA, HK1, ⟨m1, rfl⟩⟩ := hrel
   cases gk with
   | zero => exact absurd HA.out (by simp [laws_sameInts.l0])
   | succ k1 =>
    have H := HA.out
    clear HA
    simp only [laws_sameInts.l0] at H
    by_cases c4 : x13_1 < (l0.length : Int)
    ·rw [if_pos c4] at H
     have c4b0 : decide (x13_1 < (l0.length : Int)) = true := decide_eq_true c4
     clear c4
     by_cases c5 : 0 ≤ x13_1
     ·rw [if_pos c5] at H
      have c5b0 : decide (0 ≤ x13_1) = true := decide_eq_true c5
      clear c5
      by_cases c6 : x13_1 < (l0.length : Int)
      ·rw [if_pos c6] at H
       have c6b0 : decide (x13_1 < (l0.length : Int)) = true := decide_eq_true c6
       clear c6
       by_cases c7 : x13_1 < (l1.length : Int)
       ·rw [if_pos c7] at H
        have c7b0 : decide (x13_1 < (l1.length : Int)) = true := decide_eq_true c7
        clear c7
        by_cases c8 : (rd l0 x13_1) = (rd l1 x13_1)
        ·rw [if_pos c8] at H
         have c8b0 : ((rd l0 x13_1) == (rd l1 x13_1)) = true := beq_iff_eq.mpr c8
         have c8b1 : ((rd l0 x13_1) != (rd l1 x13_1)) = false := bne_eq_false_iff_eq.mpr c8
         clear c8
         have H' := Aside0.mk H
         clear H
         have p401 : 0 ≤ (x13_1 : Int) := lD
         have q401 : x13_1 < (l0.length : Int) := lD
         obtain ⟨ad401, e401, hx401_0⟩ := Kd.at_int HR0.out x13_1 p401 q401
         cases e401
         replace p401 := eq_true p401
         replace q401 := eq_true q401
         have p402 : 0 ≤ (x13_1 : Int) := lD
         have q402 : x13_1 < (l1.length : Int) := lD
         obtain ⟨ad402, e402, hx402_0⟩ := Kd.at_int HR1.out x13_1 p402 q402
         cases e402
         replace p402 := eq_true p402
         replace q402 := eq_true q402
         go_wp2
         repeat (go_quiet (fail); try go_wp2)
         go_roundg k1
         case measure => have := HK1.out; omega
         case rel => exact ⟨(wrap64 (x13_1 + 1)), lF, H', ⟨by have := HK1.out; omega⟩, by repeat (first | exact Drawn0.refl _ | apply Drawn0.step)⟩
        ·rw [if_neg c8] at H
         have c8b0 : ((rd l0 x13_1) == (rd l1 x13_1)) = false := beq_eq_false_iff_ne.mpr c8
         have c8b1 : ((rd l0 x13_1) != (rd l1 x13_1)) = true := bne_iff_ne.mpr c8
         obtain rfl := Option.some.inj H
         have p401 : 0 ≤ (x13_1 : Int) := lD
         have q401 : x13_1 < (l0.length : Int) := lD
         obtain ⟨ad401, e401, hx401_0⟩ := Kd.at_int HR0.out x13_1 p401 q401
         cases e401
         replace p401 := eq_true p401
         replace q401 := eq_true q401
         have p402 : 0 ≤ (x13_1 : Int) := lD
         have q402 : x13_1 < (l1.length : Int) := lD
         obtain ⟨ad402, e402, hx402_0⟩ := Kd.at_int HR1.out x13_1 p402 q402
         cases e402
         replace p402 := eq_true p402
         replace q402 := eq_true q402
         go_wp2
         repeat (go_quiet (fail); try go_wp2)
         go_ret
         exact ⟨by first | rfl | (simp; done) | (simp [*]; done), by repeat (first | exact Drawn0.refl _ | apply Drawn0.step)⟩
       ·rw [if_neg c7] at H
        exact absurd H (by simp)
      ·rw [if_neg c6] at H
       exact absurd H (by simp)
     ·rw [if_neg c5] at H
      exact absurd H (by simp)
    ·rw [if_neg c4] at H
     have c4b0 : decide (x13_1 < (l0.length : Int)) = false := decide_eq_false c4
     clear c4
     obtain rfl := Option.some.inj H
     go_wp2
     repeat (go_quiet (fail); try go_wp2)
     go_ret
     exact ⟨by first | rfl | (simp; done) | (simp [*]; done), by repeat (first | exact Drawn0.refl _ | apply Drawn0.step)⟩
 ·rw [if_neg c3] at H
  have c3b0 : ((l0.length : Int) == (l1.length : Int)) = false := beq_eq_false_iff_ne.mpr c3
  have c3b1 : ((l0.length : Int) != (l1.length : Int)) = true := bne_iff_ne.mpr c3
  have c3b2 : (l0.length == l1.length) = false := by first | simpa using c3 | (simp at c3 ⊢; omega)
  obtain rfl := Option.some.inj H
  go_enter Try.func40, Try.ntmps40
  go_wp2
  repeat (go_quiet (fail); try go_wp2)
  go_ret
  exact ⟨by first | rfl | (simp; done) | (simp [*]; done), by repeat (first | exact Drawn0.refl _ | apply Drawn0.step)⟩

end Go.Proofs.Ytgjojppbichaiaa.Q
