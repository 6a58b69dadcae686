-- Written by the program wip/tools/pr.py of this claim's session, over the kit's print.py.
import Derived.Test.YtjmgleomljfieaaQx0
import Derived.Test.YtjmgleomljfieaaQx1
import Derived.Test.YtjmgleomljfieaaQx5
import Derived.Test.YtjmgleomljfieaaQx6
namespace Go.Proofs.Ytjmgleomljfieaa.Q
open Go.RowKit Go.Proofs.YtjmgleomljfieaaW.PrintWords Go.Proofs.YtjmgleomljfieaaW.PrintLast Go.Proofs.YtjmgleomljfieaaW.PrintMore
attribute [local go_sem] max2_int min2_int max_two min_two max_three min_three max_four min_four   -- for this text's walks alone
set_option linter.unusedVariables false
set_option linter.unusedSimpArgs false

attribute [local go_sem high] eqA97
/-! ### spec_DrawSubclassOf: function 38 -/
def spec_DrawSubclassOf.f (k : Nat) (l0 : List Int) : Option ((List (S82)) × Int × Int × Int) := (spec_l1Cur_world.f k l0 0 0).bind fun bt325 => ((spec_l1Cur_pick.f l0 bt325.2.2.1 bt325.2.2.2 (wrap64 ((bt325.1.length : Int) + 1))).bind fun bt332 => ((spec_l1Cur_pick.f l0 bt332.2.1 bt332.2.2 (bt325.1.length : Int)).bind fun bt335 => (some (bt325.1, bt325.2.1, bt332.1, bt335.1))))
theorem spec_DrawSubclassOf.mono : ∀ a0 k, LeO (spec_DrawSubclassOf.f k a0) (spec_DrawSubclassOf.f (k + 1) a0) := by
 intro a0 k
 unfold spec_DrawSubclassOf.f
 repeat' first
   | with_reducible apply spec_l1Cur_world.mono
   | (with_reducible exact LeO.refl _)
   | (with_reducible exact LeO.none _)
   | (with_reducible refine LeO.ite ?_ ?_)
   | (with_reducible refine LeO.bind ?_ (fun _ => ?_))
   | apply spec_l1Cur_world.mono
   | exact LeO.none _
   | refine LeO.ite ?_ ?_
   | refine LeO.bind ?_ (fun _ => ?_)
def spec_DrawSubclassOf.T3 : Bool × List (List Nat × List Nat) := (true, [([], []), ([], []), ([], []), ([2], [2]), ([3], [3]), ([4], [4]), ([1, 5], [1, 5]), ([], []), ([], []), ([8], [8]), ([9], [9]), ([7, 10, 6], [7, 10]), ([0, 11, 0], [0]), ([6, 12, 0, 1, 2, 3, 4, 5, 6, 12], [6]), ([11, 13, 0, 1, 2, 3, 4, 5, 6, 7, 8, 9, 10, 11, 12, 13], [11])])
def spec_DrawSubclassOf.B3 : List Nat := [0, 0, 0, 4, 12, 28, 62, 0, 0, 256, 768, 2046, 4095, 8191, 16383]
theorem spec_DrawSubclassOf.tab3 : rtab .any (opsOf Try.f38 3) = spec_DrawSubclassOf.T3 := by kernel_rfl
theorem spec_DrawSubclassOf.bits3 : waitsOk spec_DrawSubclassOf.T3.2 spec_DrawSubclassOf.B3 = true := by kernel_rfl
set_option maxHeartbeats 8000000 in
set_option maxRecDepth 100000 in
theorem spec_DrawSubclassOf.calls (k : Nat) (A0 : Option Addr) (c0 : Nat) (l0 : List Int) (r1 : List (S82)) (r2 : Int) (r3 : Int) (r4 : Int) (w : World) (hr0 : Kd.C (Kd.int .u8) w A0 l0.length l0) (hc0 : l0.length ≤ c0) (h : spec_DrawSubclassOf.f k l0 = some (r1, r2, r3, r4)) :
  Calls Try.prog 38 #[.slice A0 l0.length c0] w fun e w' => ∃ v0_ : Value, e = .returned (.tuple #[.agg #[v0_, .int .i64 r2], .int .i64 r3, .int .i64 r4]) ∧ Kd.S k82 82 w' w.heap.size (fun _ => True) v0_ r1 ∧ Below w.heap.size w w' := by
 have hu29 := Try.underlying29
 have hu102 := Try.underlying102
 have HR0 := Aside0.mk hr0
 have HC0 := Aside0.mk hc0
 clear hr0 hc0
 have HB := Aside0.mk (Below.refl w.heap.size w)
 have H : ((spec_l1Cur_world.f k l0 0 0).bind fun bt325 => ((spec_l1Cur_pick.f l0 bt325.2.2.1 bt325.2.2.2 (wrap64 ((bt325.1.length : Int) + 1))).bind fun bt332 => ((spec_l1Cur_pick.f l0 bt332.2.1 bt332.2.2 (bt325.1.length : Int)).bind fun bt335 => (some (bt325.1, bt325.2.1, bt332.1, bt335.1))))) = some (r1, r2, r3, r4) := h
 clear h
 replace H := Option.bind_eq_some_iff.mp H
 obtain ⟨⟨t325, t328, t329, t330⟩, A20, H⟩ := H
 replace H : ((spec_l1Cur_pick.f l0 t329 t330 (wrap64 ((t325.length : Int) + 1))).bind fun bt332 => ((spec_l1Cur_pick.f l0 bt332.2.1 bt332.2.2 (t325.length : Int)).bind fun bt335 => (some (t325, t328, bt332.1, bt335.1)))) = some (r1, r2, r3, r4) := H
 have A2 := Aside0.mk A20
 clear A20
 replace H := Option.bind_eq_some_iff.mp H
 obtain ⟨⟨t332, t333, t334⟩, A30, H⟩ := H
 replace H : ((spec_l1Cur_pick.f l0 t333 t334 (t325.length : Int)).bind fun bt335 => (some (t325, t328, t332, bt335.1))) = some (r1, r2, r3, r4) := H
 have A3 := Aside0.mk A30
 clear A30
 replace H := Option.bind_eq_some_iff.mp H
 obtain ⟨⟨t335, t336, t337⟩, A40, H⟩ := H
 replace H : (some (t325, t328, t332, t335)) = some (r1, r2, r3, r4) := H
 have A4 := Aside0.mk A40
 clear A40
 simp only [Option.some.injEq, Prod.mk.injEq] at H
 obtain ⟨rfl, rfl, rfl, rfl⟩ := H
 go_enter Try.func38, Try.ntmps38
 try go_wp2_with (first | ((with_reducible refine gate_dst (N := 2) rfl ?_); refine bxe 2 #[.slice none 0 0, .int .i64 0] 29 ?_; intro gb323 hg w5 hbox hb; have n0_ := Aside0.mk (below_step lB hb); have n1_ := Aside0.mk (hbox); have n2_ := lG w hg; have n3_ := lG w hg; clear HB; have HB := n0_; have BK323 := n1_; have GW323 := n2_; have GE323 := n3_; clear n0_ n1_ n2_ n3_; clear hb hbox hg) | ((with_reducible refine gate_dst (N := 9) rfl ?_); refine bxe 9 #[.slice A0 l0.length c0, .int .i64 0, .int .u64 0] 102 ?_; intro gb324 hg w6 hbox hb; have n0_ := Aside0.mk (blk_below (lK BK323.out) hb); have n1_ := Aside0.mk (below_step lB hb); have n2_ := lG w hg; have n3_ := lG w hg; have n4_ := Aside0.mk ((by rw [hg]; exact Nat.ne_of_lt (blk_lt (lK BK323.out)) : gb323 ≠ gb324)); have n5_ := Aside0.mk ((by rw [hg]; exact Nat.ne_of_gt (blk_lt (lK BK323.out)) : gb324 ≠ gb323)); have n6_ := Aside0.mk ((show IsS102 w _ gb324 l0 0 0 from ⟨_, _, hbox, (by rw [hg]; exact (below_size lB)), HR0.out⟩)); clear BK323; clear HB; have BK323 := n0_; have HB := n1_; have GW324 := n2_; have GE324 := n3_; have NB323_324 := n4_; have NB324_323 := n5_; have HI324 := n6_; clear n0_ n1_ n2_ n3_ n4_ n5_ n6_; clear hb hbox hg) | ((with_reducible refine gate_callee (f := 73) rfl ?_); refine gl_ (some 11) (Try.func73) #[.pointer (some ⟨gb324, 0, none⟩)] ?_; (with_reducible refine (spec_l1Cur_world.calls k gb324 l0 0 0 t325 t328 t329 t330 w _ ?side1 ?side2 A2.out).mono ?_); (case side1 => repeat (first | (with_reducible first | exact HI324.out | apply IsS102.alloc | apply IsS102.drewN | apply IsS102.drew | apply IsS102.set_1 | apply IsS102.set_2 | refine IsS102.far ?_ NB324_323.out _) | exact HI324.out)); (case side2 => repeat (first | (with_reducible first | exact HB.out | apply below_alloc | apply pw_below_drewN | apply below_drew1 | refine below_set ?_ (IsS102.ge HI324.out) | refine below_set ?_ GE323.out) | exact HB.out)); rintro e w7 ⟨v326, rfl, ho0, hi, hb, hk⟩; refine ⟨_, rfl, ?_⟩; have n0_ := Aside0.mk (KeepBut.blk hk (g' := gb323) (o := .cells #[.slice none 0 0, .int .i64 0] 29 (0, 0)) (lK BK323.out) NB323_324.out (by simp)); have n1_ := Aside0.mk (Kd.S_lower ho0 (below_size (by repeat (first | (with_reducible first | exact HB.out | apply below_alloc | apply pw_below_drewN | apply below_drew1 | refine below_set ?_ (IsS102.ge HI324.out) | refine below_set ?_ GE323.out) | exact HB.out)))); have n2_ := Aside0.mk (hb); have n3_ := Aside0.mk (hi); clear BK323; clear HB; clear HI324; have BK323 := n0_; have HO327 := n1_; have HB := n2_; have HI324 := n3_; clear n0_ n1_ n2_ n3_; (try clear hb); (try clear hb2); (try clear hk); (try clear hi); (try clear ho0)) | ((with_reducible refine gate_dst (N := 6) rfl ?_); refine bxe 6 #[.slice none 0 0, .int .i64 0] 29 ?_; intro gb331 hg w8 hbox hb; have n0_ := Aside0.mk (Kd.S_below (lS HO327.out) hb); have n1_ := Aside0.mk (blk_below (lK BK323.out) hb); have n2_ := Aside0.mk (IsS102.below (by repeat (first | (with_reducible first | exact HI324.out | apply IsS102.alloc | apply IsS102.drewN | apply IsS102.drew | apply IsS102.set_1 | apply IsS102.set_2 | refine IsS102.far ?_ NB324_323.out _) | exact HI324.out)) hb); have n3_ := Aside0.mk (below_step (by repeat (first | (with_reducible first | exact HB.out | apply below_alloc | apply pw_below_drewN | apply below_drew1 | refine below_set ?_ (IsS102.ge HI324.out) | refine below_set ?_ GE323.out) | exact HB.out)) hb); have n4_ := Aside0.mk (hbox); have n5_ := Aside0.mk ((by rw [hg]; exact (below_size (by repeat (first | (with_reducible first | exact HB.out | apply below_alloc | apply pw_below_drewN | apply below_drew1 | refine below_set ?_ (IsS102.ge HI324.out) | refine below_set ?_ GE323.out) | exact HB.out))) : w.heap.size ≤ gb331)); have n6_ := Aside0.mk ((by rw [hg]; exact (below_size (by repeat (first | (with_reducible first | exact HB.out | apply below_alloc | apply pw_below_drewN | apply below_drew1 | refine below_set ?_ (IsS102.ge HI324.out) | refine below_set ?_ GE323.out) | exact HB.out))) : w.heap.size ≤ gb331)); have n7_ := Aside0.mk ((by rw [hg]; exact Nat.ne_of_lt (blk_lt (lK BK323.out)) : gb323 ≠ gb331)); have n8_ := Aside0.mk ((by rw [hg]; exact Nat.ne_of_gt (blk_lt (lK BK323.out)) : gb331 ≠ gb323)); have n9_ := Aside0.mk ((by rw [hg]; exact Nat.ne_of_lt (IsS102.lt (show IsS102 w _ gb324 l0 t329 t330 from by repeat (first | (with_reducible first | exact HI324.out | apply IsS102.alloc | apply IsS102.drewN | apply IsS102.drew | apply IsS102.set_1 | apply IsS102.set_2 | refine IsS102.far ?_ NB324_323.out _) | exact HI324.out))) : gb324 ≠ gb331)); have n10_ := Aside0.mk ((by rw [hg]; exact Nat.ne_of_gt (IsS102.lt (show IsS102 w _ gb324 l0 t329 t330 from by repeat (first | (with_reducible first | exact HI324.out | apply IsS102.alloc | apply IsS102.drewN | apply IsS102.drew | apply IsS102.set_1 | apply IsS102.set_2 | refine IsS102.far ?_ NB324_323.out _) | exact HI324.out))) : gb331 ≠ gb324)); clear HO327; clear BK323; clear HI324; clear HB; have HO327 := n0_; have BK323 := n1_; have HI324 := n2_; have HB := n3_; have BK331 := n4_; have GW331 := n5_; have GE331 := n6_; have NB323_331 := n7_; have NB331_323 := n8_; have NB324_331 := n9_; have NB331_324 := n10_; clear n0_ n1_ n2_ n3_ n4_ n5_ n6_ n7_ n8_ n9_ n10_; clear hb hbox hg; obtain ⟨Ao9, co9, eo9⟩ := Kd.S_slice HO327.out; subst eo9; have hnb10 := NB331_323.out; have hnc10 := NB323_331.out; have hnb11 := NB331_324.out; have hnc11 := NB324_331.out; obtain ⟨hcz12_0, hfz12_0, hcz12_1, hfz12_1⟩ := bk2 BK331.out))
 have n0_ : Aside0 (Kd.S k82 82 ((w8.setCell ⟨gb331, 0, none⟩ (.slice Ao9 t325.length co9)).setCell ⟨gb331, 1, none⟩ (.int .i64 t328)) w.heap.size (fun _ => True) (.slice Ao9 t325.length co9) t325) := ⟨by (with_reducible repeat (first | apply Kd.S_alloc | apply Kd.S_drewN | apply Kd.S_drew)); exact Kd.S_mono (Kd.S_far (p := ⟨gb331, 1, none⟩) (Kd.S_far (p := ⟨gb331, 0, none⟩) (Kd.S_types HO327.out BK331.out (by decide)) (fun _ hk => hk.2) (.slice Ao9 t325.length co9)) (fun _ hk => hk.2) (.int .i64 t328)) (fun _ hk => trivial)⟩
 have n1_ : Aside0 (((w8.setCell ⟨gb331, 0, none⟩ (.slice Ao9 t325.length co9)).setCell ⟨gb331, 1, none⟩ (.int .i64 t328)).heap[gb323]? = some (.cells #[.slice none 0 0, .int .i64 0] 29 (0, 0))) := ⟨lJ BK323.out⟩
 have n2_ : Aside0 (((w8.setCell ⟨gb331, 0, none⟩ (.slice Ao9 t325.length co9)).setCell ⟨gb331, 1, none⟩ (.int .i64 t328)).heap[gb331]? = some (.cells #[.slice Ao9 t325.length co9, .int .i64 t328] 29 (0, 0))) := ⟨by (with_reducible repeat first | apply bN | apply bD | apply bA); refine blk_put (cs := #[.slice Ao9 t325.length co9, .int .i64 0]) ?_ 1 _ rfl; (with_reducible repeat first | apply bN | apply bD | apply bA); refine blk_put (cs := #[.slice none 0 0, .int .i64 0]) ?_ 0 _ rfl; (with_reducible repeat first | apply bN | apply bD | apply bA); exact BK331.out⟩
 have n3_ : Aside0 (IsS102 w ((w8.setCell ⟨gb331, 0, none⟩ (.slice Ao9 t325.length co9)).setCell ⟨gb331, 1, none⟩ (.int .i64 t328)) gb324 l0 t329 t330) := ⟨by repeat (first | (with_reducible first | exact HI324.out | apply IsS102.alloc | apply IsS102.drewN | apply IsS102.drew | apply IsS102.set_1 | apply IsS102.set_2 | refine IsS102.far ?_ NB324_323.out _ | refine IsS102.far ?_ NB324_331.out _) | exact HI324.out)⟩
 have n4_ : Aside0 (Below w.heap.size w ((w8.setCell ⟨gb331, 0, none⟩ (.slice Ao9 t325.length co9)).setCell ⟨gb331, 1, none⟩ (.int .i64 t328))) := ⟨by repeat (first | (with_reducible first | exact HB.out | apply below_alloc | apply pw_below_drewN | apply below_drew1 | refine below_set ?_ (IsS102.ge HI324.out) | refine below_set ?_ GE323.out | refine below_set ?_ GE331.out) | exact HB.out)⟩
 (try clear HO327)
 (try clear BK323)
 (try clear BK331)
 (try clear HI324)
 (try clear HB)
 generalize ((w8.setCell ⟨gb331, 0, none⟩ (.slice Ao9 t325.length co9)).setCell ⟨gb331, 1, none⟩ (.int .i64 t328)) = w13 at n0_ n1_ n2_ n3_ n4_ ⊢
 have HO327 := n0_
 have BK323 := n1_
 have BK331 := n2_
 have HI324 := n3_
 have HB := n4_
 clear n0_ n1_ n2_ n3_ n4_
 have n0_ := Aside0.mk (Kd.S_drew HO327.out)
 have n1_ := Aside0.mk (blk_drew BK323.out)
 have n2_ := Aside0.mk (blk_drew BK331.out)
 have n3_ := Aside0.mk (IsS102.drew HI324.out)
 have n4_ := Aside0.mk (below_drew1 HB.out)
 clear HO327
 clear BK323
 clear BK331
 clear HI324
 clear HB
 have HO327 := n0_
 have BK323 := n1_
 have BK331 := n2_
 have HI324 := n3_
 have HB := n4_
 clear n0_ n1_ n2_ n3_ n4_
 refine start_ (n := 15) (S := fun w' => w'.cell? ⟨gb331, 0, none⟩ = some (.slice Ao9 t325.length co9) ∧ w'.cell? ⟨gb331, 1, none⟩ = some (.int .i64 t328)) (ds := []) (bs 15 0) kR rfl kR ⟨bZ BK331.out 0, bZ BK331.out 1⟩ (fun hHeld => ?_); refine with_tabW spec_DrawSubclassOf.tab3 spec_DrawSubclassOf.bits3 (fun HT_ HW_ => ?_)
 generalize w13.drew = w14 at HO327 BK323 BK331 HI324 HB hHeld ⊢
 refine pur_ 1 13 (bs 15 2) (any_of HT_.out kR) ?_
 refine pur_ 2 14 (bs 15 6) (any_of HT_.out kR) ?_
 refine pur_ 7 19 (bs 15 134) (any_of HT_.out kR) ?_
 refine pur_ 8 20 (bs 15 390) (any_of HT_.out kR) ?_
 refine tak_ 0 12 (bs 15 391) (take_ofW HT_.out HW_.out kR) hHeld ?_
 refine tak_ 3 15 (bs 15 399) (take_ofW HT_.out HW_.out kR) hHeld ?_
 refine pur_ 4 16 (bs 15 415) (any_of HT_.out kR) ?_
 refine pur_ 5 17 (bs 15 447) (any_of HT_.out kR) ?_
 refine tak_ 9 21 (bs 15 959) (take_ofW HT_.out HW_.out kR) hHeld ?_
 refine pur_ 10 22 (bs 15 1983) (any_of HT_.out kR) ?_
 refine one_ (i := 6) (N := some 18) (bs 15 2047) rfl rfl (one_of HT_.out (by kernel_rfl)) (by decide) (fun K hK => ?_)
 refine goes_ Try.func74 (by kernel_rfl) rfl #[.pointer (some ⟨gb324, 0, none⟩), .int .i64 (wrap64 ((t325.length : Int) + 1))] (by rfl) rfl rfl (by (try simp only [List.map_toArray, List.map_cons, List.map_nil]); first | done | rfl | (simp only [List.length_drop, List.length_take]; rfl)) ?_
 with_reducible refine (spec_l1Cur_pick.calls gb324 l0 t329 t330 (wrap64 ((t325.length : Int) + 1)) t332 t333 t334 w _ ?side1 ?side2 A3.out).mono ?_
 (case side1 => repeat (first | (with_reducible first | exact HI324.out | apply IsS102.alloc | apply IsS102.drewN | apply IsS102.drew | apply IsS102.set_1 | apply IsS102.set_2 | refine IsS102.far ?_ NB324_323.out _ | refine IsS102.far ?_ NB324_331.out _) | exact HI324.out))
 (case side2 => repeat (first | (with_reducible first | exact HB.out | apply below_alloc | apply pw_below_drewN | apply below_drew1 | refine below_set ?_ (IsS102.ge HI324.out) | refine below_set ?_ GE323.out | refine below_set ?_ GE331.out) | exact HB.out))
 rintro e w15 ⟨rfl, hi, hb, hk⟩
 refine ⟨_, rfl, ?_⟩
 have n0_ := Aside0.mk (KeepBut.blk hk (g' := gb323) (o := .cells #[.slice none 0 0, .int .i64 0] 29 (0, 0)) (lK BK323.out) NB323_324.out (by simp))
 have n1_ := Aside0.mk (Kd.S_mono (Kd.S_keep (IsS102.apartS (show IsS102 w _ gb324 l0 t329 t330 from by repeat (first | (with_reducible first | exact HI324.out | apply IsS102.alloc | apply IsS102.drewN | apply IsS102.drew | apply IsS102.set_1 | apply IsS102.set_2 | refine IsS102.far ?_ NB324_323.out _ | refine IsS102.far ?_ NB324_331.out _) | exact HI324.out)) (lS HO327.out) (by decide)) hk (fun _ h => h.2)) (fun _ h => h.1))
 have n2_ := Aside0.mk (KeepBut.blk hk (g' := gb331) (o := .cells #[.slice Ao9 t325.length co9, .int .i64 t328] 29 (0, 0)) (lK BK331.out) NB331_324.out (by simp))
 have n3_ := Aside0.mk (hb)
 have n4_ := Aside0.mk (hi)
 clear BK323
 clear HO327
 clear BK331
 clear HB
 clear HI324
 have BK323 := n0_
 have HO327 := n1_
 have BK331 := n2_
 have HB := n3_
 have HI324 := n4_
 clear n0_ n1_ n2_ n3_ n4_
 (try clear hb)
 (try clear hb2)
 (try clear hk)
 (try clear hi)
 refine hK.out _ _ ⟨bZ BK331.out 0, bZ BK331.out 1⟩ (fun hHeld => ?_)
 clear hK K
 refine norm_ (a' := ?_) ?_ ?_
 rotate_left
 ·show Act.put _ (some 18) _ = _
  simp only [Act.put, List.setIfInBounds_toArray, List.set_cons_zero, List.set_cons_succ, i64_w, i32_w]
  rfl
 refine one_ (i := 11) (N := some 23) (bs 15 4095) rfl rfl (one_of HT_.out (by kernel_rfl)) (by decide) (fun K hK => ?_)
 refine goes_ Try.func74 (by kernel_rfl) rfl #[.pointer (some ⟨gb324, 0, none⟩), .int .i64 (t325.length : Int)] (by rfl) rfl rfl (by (try simp only [List.map_toArray, List.map_cons, List.map_nil]); first | done | rfl | (simp only [List.length_drop, List.length_take]; rfl)) ?_
 with_reducible refine (spec_l1Cur_pick.calls gb324 l0 t333 t334 (t325.length : Int) t335 t336 t337 w _ ?side1 ?side2 A4.out).mono ?_
 (case side1 => repeat (first | (with_reducible first | exact HI324.out | apply IsS102.alloc | apply IsS102.drewN | apply IsS102.drew | apply IsS102.set_1 | apply IsS102.set_2 | refine IsS102.far ?_ NB324_323.out _ | refine IsS102.far ?_ NB324_331.out _) | exact HI324.out))
 (case side2 => repeat (first | (with_reducible first | exact HB.out | apply below_alloc | apply pw_below_drewN | apply below_drew1 | refine below_set ?_ (IsS102.ge HI324.out) | refine below_set ?_ GE323.out | refine below_set ?_ GE331.out) | exact HB.out))
 rintro e w16 ⟨rfl, hi, hb, hk⟩
 refine ⟨_, rfl, ?_⟩
 have n0_ := Aside0.mk (KeepBut.blk hk (g' := gb323) (o := .cells #[.slice none 0 0, .int .i64 0] 29 (0, 0)) (lK BK323.out) NB323_324.out (by simp))
 have n1_ := Aside0.mk (Kd.S_mono (Kd.S_keep (IsS102.apartS (show IsS102 w _ gb324 l0 t333 t334 from by repeat (first | (with_reducible first | exact HI324.out | apply IsS102.alloc | apply IsS102.drewN | apply IsS102.drew | apply IsS102.set_1 | apply IsS102.set_2 | refine IsS102.far ?_ NB324_323.out _ | refine IsS102.far ?_ NB324_331.out _) | exact HI324.out)) (lS HO327.out) (by decide)) hk (fun _ h => h.2)) (fun _ h => h.1))
 have n2_ := Aside0.mk (KeepBut.blk hk (g' := gb331) (o := .cells #[.slice Ao9 t325.length co9, .int .i64 t328] 29 (0, 0)) (lK BK331.out) NB331_324.out (by simp))
 have n3_ := Aside0.mk (hb)
 have n4_ := Aside0.mk (hi)
 clear BK323
 clear HO327
 clear BK331
 clear HB
 clear HI324
 have BK323 := n0_
 have HO327 := n1_
 have BK331 := n2_
 have HB := n3_
 have HI324 := n4_
 clear n0_ n1_ n2_ n3_ n4_
 (try clear hb)
 (try clear hb2)
 (try clear hk)
 (try clear hi)
 refine hK.out _ _ ⟨bZ BK331.out 0, bZ BK331.out 1⟩ (fun hHeld => ?_)
 clear hK K
 refine norm_ (a' := ?_) ?_ ?_
 rotate_left
 ·show Act.put _ (some 23) _ = _
  simp only [Act.put, List.setIfInBounds_toArray, List.set_cons_zero, List.set_cons_succ, i64_w, i32_w]
  rfl
 refine one_ (i := 12) (N := none) (bs 15 8191) rfl rfl (one_of HT_.out (by kernel_rfl)) (by decide) (fun K hK => ?_)
 have hs17 : w16.cell? ⟨gb323, 0, none⟩ = some (.slice none 0 0) := bZ BK323.out 0
 have hfs17 := blk_frozen BK323.out 0
 have hns17_1 := NB331_323.out
 have hms17_1 := NB323_331.out
 have hs18 : w16.cell? ⟨gb323, 1, none⟩ = some (.int .i64 0) := bZ BK323.out 1
 have hfs18 := blk_frozen BK323.out 1
 have hns18_1 := NB331_323.out
 have hms18_1 := NB323_331.out
 refine skip_ (w1 := ?_) (by rfl) rfl ?_ ?_
 rotate_left
 ·go_simp
  rfl
 refine hK.out _ _ ⟨((cell_far (p := ⟨gb323, _, none⟩) NB331_323.out _).trans (((cell_far (p := ⟨gb323, _, none⟩) NB331_323.out _).trans (hHeld.1)))), ((cell_far (p := ⟨gb323, _, none⟩) NB331_323.out _).trans (((cell_far (p := ⟨gb323, _, none⟩) NB331_323.out _).trans (hHeld.2))))⟩ (fun hHeld => ?_)
 clear hK K
 refine pur_ 13 3 (bs 15 16383) (any_of HT_.out kR) ?_
 refine pur_ 14 4 (bs 15 32767) (any_of HT_.out kR) ?_
 refine done_ (done_of HT_.out (by kernel_rfl)) ?_
 try go_wp2
 refine bodyPost_ret (results_ctt rfl _ _ gb323 29 #[.slice Ao9 t325.length co9, .int .i64 t328] (0, 0) _ rfl (by (with_reducible repeat first | apply bN | apply bD | apply bA); refine blk_put (cs := #[.slice Ao9 t325.length co9, .int .i64 0]) ?_ 1 _ rfl; (with_reducible repeat first | apply bN | apply bD | apply bA); refine blk_put (cs := #[.slice none 0 0, .int .i64 0]) ?_ 0 _ rfl; (with_reducible repeat first | apply bN | apply bD | apply bA); exact BK323.out) Try.underlying29 rfl (by kernel_rfl)) rfl ?_
 exact ⟨_, lE, by (with_reducible repeat (first | apply Kd.S_alloc | apply Kd.S_drewN | apply Kd.S_drew)); exact Kd.S_mono (Kd.S_far (p := ⟨gb323, 1, none⟩) (Kd.S_far (p := ⟨gb323, 0, none⟩) (Kd.S_types HO327.out BK323.out (by decide)) (fun _ hk => hk.2) (.slice Ao9 t325.length co9)) (fun _ hk => hk.2) (.int .i64 t328)) (fun _ hk => trivial), by repeat (first | (with_reducible first | exact HB.out | apply below_alloc | apply pw_below_drewN | apply below_drew1 | refine below_set ?_ (IsS102.ge HI324.out) | refine below_set ?_ GE323.out | refine below_set ?_ GE331.out) | exact HB.out)⟩

/-! ### spec_DrawNewCache: function 39 -/
def spec_DrawNewCache.f (k : Nat) (l0 : List Int) : Option ((List (S82)) × Int × Int) := (spec_l1Cur_world.f k l0 0 0).bind fun bt340 => ((spec_l1Cur_pick.f l0 bt340.2.2.1 bt340.2.2.2 7).bind fun bt346 => (some (bt340.1, bt340.2.1, wrap64 (bt346.1 - 1))))
theorem spec_DrawNewCache.mono : ∀ a0 k, LeO (spec_DrawNewCache.f k a0) (spec_DrawNewCache.f (k + 1) a0) := by
 intro a0 k
 unfold spec_DrawNewCache.f
 repeat' first
   | with_reducible apply spec_l1Cur_world.mono
   | (with_reducible exact LeO.refl _)
   | (with_reducible exact LeO.none _)
   | (with_reducible refine LeO.ite ?_ ?_)
   | (with_reducible refine LeO.bind ?_ (fun _ => ?_))
   | apply spec_l1Cur_world.mono
   | exact LeO.none _
   | refine LeO.ite ?_ ?_
   | refine LeO.bind ?_ (fun _ => ?_)
set_option maxHeartbeats 8000000 in
set_option maxRecDepth 100000 in
theorem spec_DrawNewCache.calls (k : Nat) (A0 : Option Addr) (c0 : Nat) (l0 : List Int) (r1 : List (S82)) (r2 : Int) (r3 : Int) (w : World) (hr0 : Kd.C (Kd.int .u8) w A0 l0.length l0) (hc0 : l0.length ≤ c0) (h : spec_DrawNewCache.f k l0 = some (r1, r2, r3)) :
  Calls Try.prog 39 #[.slice A0 l0.length c0] w fun e w' => ∃ v0_ : Value, e = .returned (.tuple #[.agg #[v0_, .int .i64 r2], .int .i64 r3]) ∧ Kd.S k82 82 w' w.heap.size (fun _ => True) v0_ r1 ∧ Below w.heap.size w w' := by
 have hu29 := Try.underlying29
 have hu102 := Try.underlying102
 have HR0 := Aside0.mk hr0
 have HC0 := Aside0.mk hc0
 clear hr0 hc0
 have HB := Aside0.mk (Below.refl w.heap.size w)
 have H : ((spec_l1Cur_world.f k l0 0 0).bind fun bt340 => ((spec_l1Cur_pick.f l0 bt340.2.2.1 bt340.2.2.2 7).bind fun bt346 => (some (bt340.1, bt340.2.1, wrap64 (bt346.1 - 1))))) = some (r1, r2, r3) := h
 clear h
 replace H := Option.bind_eq_some_iff.mp H
 obtain ⟨⟨t340, t343, t344, t345⟩, A20, H⟩ := H
 replace H : ((spec_l1Cur_pick.f l0 t344 t345 7).bind fun bt346 => (some (t340, t343, wrap64 (bt346.1 - 1)))) = some (r1, r2, r3) := H
 have A2 := Aside0.mk A20
 clear A20
 replace H := Option.bind_eq_some_iff.mp H
 obtain ⟨⟨t346, t347, t348⟩, A30, H⟩ := H
 replace H : (some (t340, t343, wrap64 (t346 - 1))) = some (r1, r2, r3) := H
 have A3 := Aside0.mk A30
 clear A30
 simp only [Option.some.injEq, Prod.mk.injEq] at H
 obtain ⟨rfl, rfl, rfl⟩ := H
 go_enter Try.func39, Try.ntmps39
 go_wp2_with (first | ((with_reducible refine gate_dst (N := 2) rfl ?_); refine bxe 2 #[.slice none 0 0, .int .i64 0] 29 ?_; intro gb338 hg w4 hbox hb; have n0_ := Aside0.mk (below_step lB hb); have n1_ := Aside0.mk (hbox); have n2_ := lG w hg; have n3_ := lG w hg; clear HB; have HB := n0_; have BK338 := n1_; have GW338 := n2_; have GE338 := n3_; clear n0_ n1_ n2_ n3_; clear hb hbox hg) | ((with_reducible refine gate_dst (N := 7) rfl ?_); refine bxe 7 #[.slice A0 l0.length c0, .int .i64 0, .int .u64 0] 102 ?_; intro gb339 hg w5 hbox hb; have n0_ := Aside0.mk (blk_below (lK BK338.out) hb); have n1_ := Aside0.mk (below_step lB hb); have n2_ := lG w hg; have n3_ := lG w hg; have n4_ := Aside0.mk ((by rw [hg]; exact Nat.ne_of_lt (blk_lt (lK BK338.out)) : gb338 ≠ gb339)); have n5_ := Aside0.mk ((by rw [hg]; exact Nat.ne_of_gt (blk_lt (lK BK338.out)) : gb339 ≠ gb338)); have n6_ := Aside0.mk ((show IsS102 w _ gb339 l0 0 0 from ⟨_, _, hbox, (by rw [hg]; exact (below_size lB)), HR0.out⟩)); clear BK338; clear HB; have BK338 := n0_; have HB := n1_; have GW339 := n2_; have GE339 := n3_; have NB338_339 := n4_; have NB339_338 := n5_; have HI339 := n6_; clear n0_ n1_ n2_ n3_ n4_ n5_ n6_; clear hb hbox hg) | ((with_reducible refine gate_callee (f := 73) rfl ?_); refine gl_ (some 9) (Try.func73) #[.pointer (some ⟨gb339, 0, none⟩)] ?_; (with_reducible refine (spec_l1Cur_world.calls k gb339 l0 0 0 t340 t343 t344 t345 w _ ?side1 ?side2 A2.out).mono ?_); (case side1 => repeat (first | (with_reducible first | exact HI339.out | apply IsS102.alloc | apply IsS102.drewN | apply IsS102.drew | apply IsS102.set_1 | apply IsS102.set_2 | refine IsS102.far ?_ NB339_338.out _) | exact HI339.out)); (case side2 => repeat (first | (with_reducible first | exact HB.out | apply below_alloc | apply pw_below_drewN | apply below_drew1 | refine below_set ?_ (IsS102.ge HI339.out) | refine below_set ?_ GE338.out) | exact HB.out)); rintro e w6 ⟨v341, rfl, ho0, hi, hb, hk⟩; refine ⟨_, rfl, ?_⟩; have n0_ := Aside0.mk (KeepBut.blk hk (g' := gb338) (o := .cells #[.slice none 0 0, .int .i64 0] 29 (0, 0)) (lK BK338.out) NB338_339.out (by simp)); have n1_ := Aside0.mk (Kd.S_lower ho0 (below_size (by repeat (first | (with_reducible first | exact HB.out | apply below_alloc | apply pw_below_drewN | apply below_drew1 | refine below_set ?_ (IsS102.ge HI339.out) | refine below_set ?_ GE338.out) | exact HB.out)))); have n2_ := Aside0.mk (hb); have n3_ := Aside0.mk (hi); clear BK338; clear HB; clear HI339; have BK338 := n0_; have HO342 := n1_; have HB := n2_; have HI339 := n3_; clear n0_ n1_ n2_ n3_; (try clear hb); (try clear hb2); (try clear hk); (try clear hi); (try clear ho0)) | ((with_reducible refine gate_callee (f := 74) rfl ?_); refine gl_ (some 11) (Try.func74) #[.pointer (some ⟨gb339, 0, none⟩), .int .i64 7] ?_; (with_reducible refine (spec_l1Cur_pick.calls gb339 l0 t344 t345 7 t346 t347 t348 w _ ?side1 ?side2 A3.out).mono ?_); (case side1 => repeat (first | (with_reducible first | exact HI339.out | apply IsS102.alloc | apply IsS102.drewN | apply IsS102.drew | apply IsS102.set_1 | apply IsS102.set_2 | refine IsS102.far ?_ NB339_338.out _) | exact HI339.out)); (case side2 => repeat (first | (with_reducible first | exact HB.out | apply below_alloc | apply pw_below_drewN | apply below_drew1 | refine below_set ?_ (IsS102.ge HI339.out) | refine below_set ?_ GE338.out) | exact HB.out)); rintro e w7 ⟨rfl, hi, hb, hk⟩; refine ⟨_, rfl, ?_⟩; have n0_ := Aside0.mk (KeepBut.blk hk (g' := gb338) (o := .cells #[.slice none 0 0, .int .i64 0] 29 (0, 0)) (lK BK338.out) NB338_339.out (by simp)); have n1_ := Aside0.mk (Kd.S_mono (Kd.S_keep (IsS102.apartS (show IsS102 w _ gb339 l0 t344 t345 from by repeat (first | (with_reducible first | exact HI339.out | apply IsS102.alloc | apply IsS102.drewN | apply IsS102.drew | apply IsS102.set_1 | apply IsS102.set_2 | refine IsS102.far ?_ NB339_338.out _) | exact HI339.out)) (lS HO342.out) (by decide)) hk (fun _ h => h.2)) (fun _ h => h.1)); have n2_ := Aside0.mk (hb); have n3_ := Aside0.mk (hi); clear BK338; clear HO342; clear HB; clear HI339; have BK338 := n0_; have HO342 := n1_; have HB := n2_; have HI339 := n3_; clear n0_ n1_ n2_ n3_; (try clear hb); (try clear hb2); (try clear hk); (try clear hi); obtain ⟨Ao8, co8, eo8⟩ := Kd.S_slice HO342.out; subst eo8; have hnb9 := NB338_339.out; have hnc9 := NB339_338.out; obtain ⟨hcz10_0, hfz10_0, hcz10_1, hfz10_1⟩ := bk2 BK338.out))
 refine bodyPost_ret (results_ct rfl _ _ gb338 29 #[.slice Ao8 t340.length co8, .int .i64 t343] (0, 0) _ rfl (by (with_reducible repeat first | apply bN | apply bD | apply bA); refine blk_put (cs := #[.slice Ao8 t340.length co8, .int .i64 0]) ?_ 1 _ rfl; (with_reducible repeat first | apply bN | apply bD | apply bA); refine blk_put (cs := #[.slice none 0 0, .int .i64 0]) ?_ 0 _ rfl; (with_reducible repeat first | apply bN | apply bD | apply bA); exact BK338.out) Try.underlying29 rfl (by kernel_rfl)) rfl ?_
 exact ⟨_, lE, by (with_reducible repeat (first | apply Kd.S_alloc | apply Kd.S_drewN | apply Kd.S_drew)); exact Kd.S_mono (Kd.S_far (p := ⟨gb338, 1, none⟩) (Kd.S_far (p := ⟨gb338, 0, none⟩) (Kd.S_types HO342.out BK338.out (by decide)) (fun _ hk => hk.2) (.slice Ao8 t340.length co8)) (fun _ hk => hk.2) (.int .i64 t343)) (fun _ hk => trivial), by repeat (first | (with_reducible first | exact HB.out | apply below_alloc | apply pw_below_drewN | apply below_drew1 | refine below_set ?_ (IsS102.ge HI339.out) | refine below_set ?_ GE338.out) | exact HB.out)⟩

/-! ### laws_sameCaches: function 40 -/
mutual
def laws_sameCaches.j0 : Nat → Bool → Int → Int → List (S97) → Int → Int → Int → Int → Int → List (S97) → Int → Int → Int → Option (Bool)
 | 0, _, _, _, _, _, _, _, _, _, _, _, _, _ => none
 | k + 1, x47, x350000, x350001, x350002, x350003, x350004, x350005, x351000, x351001, x351002, x351003, x351004, x351005 => if x47 = true then (some false) else (laws_sameCaches.l0 k (x350002.length : Int) 0 x350000 x350001 x350002 x350003 x350004 x350005 x351000 x351001 x351002 x351003 x351004 x351005)
def laws_sameCaches.l0 : Nat → Int → Int → Int → Int → List (S97) → Int → Int → Int → Int → Int → List (S97) → Int → Int → Int → Option (Bool)
 | 0, _, _, _, _, _, _, _, _, _, _, _, _, _, _ => none
 | k + 1, x50, x51, x350000, x350001, x350002, x350003, x350004, x350005, x351000, x351001, x351002, x351003, x351004, x351005 => if x51 < x50 then (if 0 ≤ x51 then (if x51 < (x350002.length : Int) then (if x51 < (x351002.length : Int) then (if (!(((rd_T97 x350002 x51).f0) == ((rd_T97 x351002 x51).f0)) || (!(((rd_T97 x350002 x51).f1) == ((rd_T97 x351002 x51).f1)))) = true then (some false) else (laws_sameCaches.l0 k x50 (wrap64 (x51 + 1)) x350000 x350001 x350002 x350003 x350004 x350005 x351000 x351001 x351002 x351003 x351004 x351005)) else (none)) else (none)) else (none)) else (some true)
end
def laws_sameCaches.f (k : Nat) (a0_0 : Int) (a0_1 : Int) (l0_2 : List (S97)) (a0_3 : Int) (a0_4 : Int) (a0_5 : Int) (a1_0 : Int) (a1_1 : Int) (l1_2 : List (S97)) (a1_3 : Int) (a1_4 : Int) (a1_5 : Int) : Option (Bool) := if a0_0 = a1_0 then (if a0_1 = a1_1 then (if a0_3 = a1_3 then (if a0_4 = a1_4 then (if a0_5 = a1_5 then (laws_sameCaches.j0 k ((l0_2.length : Int) != (l1_2.length : Int)) a0_0 a0_1 l0_2 a0_3 a0_4 a0_5 a1_0 a1_1 l1_2 a1_3 a1_4 a1_5) else (laws_sameCaches.j0 k true a0_0 a0_1 l0_2 a0_3 a0_4 a0_5 a1_0 a1_1 l1_2 a1_3 a1_4 a1_5)) else (laws_sameCaches.j0 k true a0_0 a0_1 l0_2 a0_3 a0_4 a0_5 a1_0 a1_1 l1_2 a1_3 a1_4 a1_5)) else (laws_sameCaches.j0 k true a0_0 a0_1 l0_2 a0_3 a0_4 a0_5 a1_0 a1_1 l1_2 a1_3 a1_4 a1_5)) else (laws_sameCaches.j0 k true a0_0 a0_1 l0_2 a0_3 a0_4 a0_5 a1_0 a1_1 l1_2 a1_3 a1_4 a1_5)) else (laws_sameCaches.j0 k true a0_0 a0_1 l0_2 a0_3 a0_4 a0_5 a1_0 a1_1 l1_2 a1_3 a1_4 a1_5)
theorem laws_sameCaches.mono_l : ∀ k, (∀ y0 y1 y2 y3 y4 y5 y6 y7 y8 y9 y10 y11 y12, LeO (laws_sameCaches.j0 k y0 y1 y2 y3 y4 y5 y6 y7 y8 y9 y10 y11 y12) (laws_sameCaches.j0 (k + 1) y0 y1 y2 y3 y4 y5 y6 y7 y8 y9 y10 y11 y12)) ∧ (∀ y0 y1 y2 y3 y4 y5 y6 y7 y8 y9 y10 y11 y12 y13, LeO (laws_sameCaches.l0 k y0 y1 y2 y3 y4 y5 y6 y7 y8 y9 y10 y11 y12 y13) (laws_sameCaches.l0 (k + 1) y0 y1 y2 y3 y4 y5 y6 y7 y8 y9 y10 y11 y12 y13))
 | 0 => ⟨fun _ _ _ _ _ _ _ _ _ _ _ _ _ r h => by simp [laws_sameCaches.j0] at h, fun _ _ _ _ _ _ _ _ _ _ _ _ _ _ r h => by simp [laws_sameCaches.l0] at h⟩
 | k + 1 => by
  obtain ⟨ih0, ih1⟩ := laws_sameCaches.mono_l k
  refine ⟨?_, ?_⟩
  ·intro y0 y1 y2 y3 y4 y5 y6 y7 y8 y9 y10 y11 y12
   unfold laws_sameCaches.j0
   repeat' first
   | with_reducible apply ih0
   | with_reducible apply ih1
   | (with_reducible exact LeO.refl _)
   | (with_reducible exact LeO.none _)
   | (with_reducible refine LeO.ite ?_ ?_)
   | (with_reducible refine LeO.bind ?_ (fun _ => ?_))
   | apply ih0
   | apply ih1
   | exact LeO.none _
   | refine LeO.ite ?_ ?_
   | refine LeO.bind ?_ (fun _ => ?_)
  ·intro y0 y1 y2 y3 y4 y5 y6 y7 y8 y9 y10 y11 y12 y13
   unfold laws_sameCaches.l0
   repeat' first
   | with_reducible apply ih0
   | with_reducible apply ih1
   | (with_reducible exact LeO.refl _)
   | (with_reducible exact LeO.none _)
   | (with_reducible refine LeO.ite ?_ ?_)
   | (with_reducible refine LeO.bind ?_ (fun _ => ?_))
   | apply ih0
   | apply ih1
   | exact LeO.none _
   | refine LeO.ite ?_ ?_
   | refine LeO.bind ?_ (fun _ => ?_)
theorem laws_sameCaches.mono : ∀ a0 a1 a2 a3 a4 a5 a6 a7 a8 a9 a10 a11 k, LeO (laws_sameCaches.f k a0 a1 a2 a3 a4 a5 a6 a7 a8 a9 a10 a11) (laws_sameCaches.f (k + 1) a0 a1 a2 a3 a4 a5 a6 a7 a8 a9 a10 a11) := by
 intro a0 a1 a2 a3 a4 a5 a6 a7 a8 a9 a10 a11 k
 obtain ⟨ih0, ih1⟩ := laws_sameCaches.mono_l k
 unfold laws_sameCaches.f
 repeat' first
   | with_reducible apply ih0
   | with_reducible apply ih1
   | (with_reducible exact LeO.refl _)
   | (with_reducible exact LeO.none _)
   | (with_reducible refine LeO.ite ?_ ?_)
   | (with_reducible refine LeO.bind ?_ (fun _ => ?_))
   | apply ih0
   | apply ih1
   | exact LeO.none _
   | refine LeO.ite ?_ ?_
   | refine LeO.bind ?_ (fun _ => ?_)
set_option maxHeartbeats 8000000 in
set_option maxRecDepth 100000 in
theorem laws_sameCaches.calls (k : Nat) (a0_0 : Int) (a0_1 : Int) (A0_2 : Option Addr) (c0_2 : Nat) (l0_2 : List (S97)) (a0_3 : Int) (a0_4 : Int) (a0_5 : Int) (a1_0 : Int) (a1_1 : Int) (A1_2 : Option Addr) (c1_2 : Nat) (l1_2 : List (S97)) (a1_3 : Int) (a1_4 : Int) (a1_5 : Int) (r : Bool) (w : World) (hr0_2 : Kd.C k97 w A0_2 l0_2.length l0_2) (hc0_2 : l0_2.length ≤ c0_2) (hr1_2 : Kd.C k97 w A1_2 l1_2.length l1_2) (hc1_2 : l1_2.length ≤ c1_2) (h : laws_sameCaches.f k a0_0 a0_1 l0_2 a0_3 a0_4 a0_5 a1_0 a1_1 l1_2 a1_3 a1_4 a1_5 = some r) :
  Calls Try.prog 40 #[.agg #[.int .i64 a0_0, .int .i64 a0_1, .slice A0_2 l0_2.length c0_2, .int .i64 a0_3, .int .i64 a0_4, .int .i64 a0_5], .agg #[.int .i64 a1_0, .int .i64 a1_1, .slice A1_2 l1_2.length c1_2, .int .i64 a1_3, .int .i64 a1_4, .int .i64 a1_5]] w fun e w' => e = .returned (.bool r) ∧ Below w.heap.size w w' := by
 have hu44 := Try.underlying44
 have hu97 := Try.underlying97
 have HR0_2 := Aside0.mk hr0_2
 have HC0_2 := Aside0.mk hc0_2
 clear hr0_2 hc0_2
 have HR1_2 := Aside0.mk hr1_2
 have HC1_2 := Aside0.mk hc1_2
 clear hr1_2 hc1_2
 have HB := Aside0.mk (Below.refl w.heap.size w)
 have H : (if a0_0 = a1_0 then (if a0_1 = a1_1 then (if a0_3 = a1_3 then (if a0_4 = a1_4 then (if a0_5 = a1_5 then (laws_sameCaches.j0 k ((l0_2.length : Int) != (l1_2.length : Int)) a0_0 a0_1 l0_2 a0_3 a0_4 a0_5 a1_0 a1_1 l1_2 a1_3 a1_4 a1_5) else (laws_sameCaches.j0 k true a0_0 a0_1 l0_2 a0_3 a0_4 a0_5 a1_0 a1_1 l1_2 a1_3 a1_4 a1_5)) else (laws_sameCaches.j0 k true a0_0 a0_1 l0_2 a0_3 a0_4 a0_5 a1_0 a1_1 l1_2 a1_3 a1_4 a1_5)) else (laws_sameCaches.j0 k true a0_0 a0_1 l0_2 a0_3 a0_4 a0_5 a1_0 a1_1 l1_2 a1_3 a1_4 a1_5)) else (laws_sameCaches.j0 k true a0_0 a0_1 l0_2 a0_3 a0_4 a0_5 a1_0 a1_1 l1_2 a1_3 a1_4 a1_5)) else (laws_sameCaches.j0 k true a0_0 a0_1 l0_2 a0_3 a0_4 a0_5 a1_0 a1_1 l1_2 a1_3 a1_4 a1_5)) = some r := h
 clear h
 have HC3 := Aside0.mk H
 clear H
 go_enter Try.func40, Try.ntmps40
 go_upto_region 1 with (first | ((with_reducible refine gate_dst (N := 2) rfl ?_); (try (refine gate_guard (by rfl) ?_; dsimp only)); refine bxe 2 #[.int .i64 a0_0, .int .i64 a0_1, .slice A0_2 l0_2.length c0_2, .int .i64 a0_3, .int .i64 a0_4, .int .i64 a0_5] 44 ?_; intro gb349 hg w4 hbox hb; have n0_ := Aside0.mk (below_step lB hb); have n1_ := Aside0.mk (hbox); have n2_ := lG w hg; have n3_ := lG w hg; clear HB; have HB := n0_; have BK349 := n1_; have GW349 := n2_; have GE349 := n3_; clear n0_ n1_ n2_ n3_; clear hb hbox hg) | ((with_reducible refine gate_dst (N := 3) rfl ?_); (try (refine gate_guard (by rfl) ?_; dsimp only)); refine bxe 3 #[.int .i64 a1_0, .int .i64 a1_1, .slice A1_2 l1_2.length c1_2, .int .i64 a1_3, .int .i64 a1_4, .int .i64 a1_5] 44 ?_; intro gb350 hg w5 hbox hb; have n0_ := Aside0.mk (blk_below (lK BK349.out) hb); have n1_ := Aside0.mk (below_step lB hb); have n2_ := Aside0.mk (hbox); have n3_ := lG w hg; have n4_ := lG w hg; have n5_ := Aside0.mk ((by rw [hg]; exact Nat.ne_of_lt (blk_lt (lK BK349.out)) : gb349 ≠ gb350)); have n6_ := Aside0.mk ((by rw [hg]; exact Nat.ne_of_gt (blk_lt (lK BK349.out)) : gb350 ≠ gb349)); clear BK349; clear HB; have BK349 := n0_; have HB := n1_; have BK350 := n2_; have GW350 := n3_; have GE350 := n4_; have NB349_350 := n5_; have NB350_349 := n6_; clear n0_ n1_ n2_ n3_ n4_ n5_ n6_; clear hb hbox hg))
 repeat (go_quiet (fail); go_upto_region 1 with (first | ((with_reducible refine gate_dst (N := 2) rfl ?_); (try (refine gate_guard (by rfl) ?_; dsimp only)); refine bxe 2 #[.int .i64 a0_0, .int .i64 a0_1, .slice A0_2 l0_2.length c0_2, .int .i64 a0_3, .int .i64 a0_4, .int .i64 a0_5] 44 ?_; intro gb349 hg w4 hbox hb; have n0_ := Aside0.mk (below_step lB hb); have n1_ := Aside0.mk (hbox); have n2_ := lG w hg; have n3_ := lG w hg; clear HB; have HB := n0_; have BK349 := n1_; have GW349 := n2_; have GE349 := n3_; clear n0_ n1_ n2_ n3_; clear hb hbox hg) | ((with_reducible refine gate_dst (N := 3) rfl ?_); (try (refine gate_guard (by rfl) ?_; dsimp only)); refine bxe 3 #[.int .i64 a1_0, .int .i64 a1_1, .slice A1_2 l1_2.length c1_2, .int .i64 a1_3, .int .i64 a1_4, .int .i64 a1_5] 44 ?_; intro gb350 hg w5 hbox hb; have n0_ := Aside0.mk (blk_below (lK BK349.out) hb); have n1_ := Aside0.mk (below_step lB hb); have n2_ := Aside0.mk (hbox); have n3_ := lG w hg; have n4_ := lG w hg; have n5_ := Aside0.mk ((by rw [hg]; exact Nat.ne_of_lt (blk_lt (lK BK349.out)) : gb349 ≠ gb350)); have n6_ := Aside0.mk ((by rw [hg]; exact Nat.ne_of_gt (blk_lt (lK BK349.out)) : gb350 ≠ gb349)); clear BK349; clear HB; have BK349 := n0_; have HB := n1_; have BK350 := n2_; have GW350 := n3_; have GE350 := n4_; have NB349_350 := n5_; have NB350_349 := n6_; clear n0_ n1_ n2_ n3_ n4_ n5_ n6_; clear hb hbox hg)))
 (try simp only [Act.put, List.setIfInBounds_toArray, List.set_cons_zero, List.set_cons_succ])
 go_cut [47] (fun v47 wc => ∃ (kq : Nat) (x47_2 : Bool), v47 = .bool x47_2 ∧ Aside0 (laws_sameCaches.j0 kq x47_2 a0_0 a0_1 l0_2 a0_3 a0_4 a0_5 a1_0 a1_1 l1_2 a1_3 a1_4 a1_5 = some r) ∧ Aside0 (kq ≤ k) ∧ Aside0 (wc.heap[gb349]? = some (.cells #[.int .i64 a0_0, .int .i64 a0_1, (.slice A0_2 l0_2.length c0_2), .int .i64 a0_3, .int .i64 a0_4, .int .i64 a0_5] 44 (0, 0))) ∧ Aside0 (wc.heap[gb350]? = some (.cells #[.int .i64 a1_0, .int .i64 a1_1, (.slice A1_2 l1_2.length c1_2), .int .i64 a1_3, .int .i64 a1_4, .int .i64 a1_5] 44 (0, 0))) ∧ Aside0 (Below w.heap.size w wc))
 case first =>
  have H := HC3.out
  clear HC3
  by_cases c6 : a0_0 = a1_0
  ·rw [if_pos c6] at H
   have c6b0 : (a0_0 == a1_0) = true := beq_iff_eq.mpr c6
   have c6b1 : (a0_0 != a1_0) = false := bne_eq_false_iff_eq.mpr c6
   clear c6
   (first | rw [c6b0] | (simp only [i64_w, i32_w]; rw [c6b0]) | skip)
   by_cases c7 : a0_1 = a1_1
   ·rw [if_pos c7] at H
    have c7b0 : (a0_1 == a1_1) = true := beq_iff_eq.mpr c7
    have c7b1 : (a0_1 != a1_1) = false := bne_eq_false_iff_eq.mpr c7
    clear c7
    by_cases c8 : a0_3 = a1_3
    ·rw [if_pos c8] at H
     have c8b0 : (a0_3 == a1_3) = true := beq_iff_eq.mpr c8
     have c8b1 : (a0_3 != a1_3) = false := bne_eq_false_iff_eq.mpr c8
     clear c8
     by_cases c9 : a0_4 = a1_4
     ·rw [if_pos c9] at H
      have c9b0 : (a0_4 == a1_4) = true := beq_iff_eq.mpr c9
      have c9b1 : (a0_4 != a1_4) = false := bne_eq_false_iff_eq.mpr c9
      clear c9
      by_cases c10 : a0_5 = a1_5
      ·rw [if_pos c10] at H
       have c10b0 : (a0_5 == a1_5) = true := beq_iff_eq.mpr c10
       have c10b1 : (a0_5 != a1_5) = false := bne_eq_false_iff_eq.mpr c10
       clear c10
       have H' := Aside0.mk H
       clear H
       have hnb11 := NB349_350.out
       have hnc11 := NB350_349.out
       obtain ⟨hcz12_0, hfz12_0, hcz12_1, hfz12_1, hcz12_2, hfz12_2, hcz12_3, hfz12_3, hcz12_4, hfz12_4, hcz12_5, hfz12_5⟩ := bk6 BK349.out
       obtain ⟨hcz13_0, hfz13_0, hcz13_1, hfz13_1, hcz13_2, hfz13_2, hcz13_3, hfz13_3, hcz13_4, hfz13_4, hcz13_5, hfz13_5⟩ := bk6 BK350.out
       go_wp2
       repeat (go_quiet (fail); try go_wp2)
       go_meet
       case rel => exact ⟨_, (((l0_2.length : Int) != (l1_2.length : Int))), lF, H', ⟨lN⟩, ⟨lK BK349.out⟩, ⟨lK BK350.out⟩, ⟨lB⟩⟩
      ·rw [if_neg c10] at H
       have c10b0 : (a0_5 == a1_5) = false := beq_eq_false_iff_ne.mpr c10
       have c10b1 : (a0_5 != a1_5) = true := bne_iff_ne.mpr c10
       have H' := Aside0.mk H
       clear H
       have hnb14 := NB349_350.out
       have hnc14 := NB350_349.out
       obtain ⟨hcz15_0, hfz15_0, hcz15_1, hfz15_1, hcz15_2, hfz15_2, hcz15_3, hfz15_3, hcz15_4, hfz15_4, hcz15_5, hfz15_5⟩ := bk6 BK349.out
       obtain ⟨hcz16_0, hfz16_0, hcz16_1, hfz16_1, hcz16_2, hfz16_2, hcz16_3, hfz16_3, hcz16_4, hfz16_4, hcz16_5, hfz16_5⟩ := bk6 BK350.out
       go_wp2
       repeat (go_quiet (fail); try go_wp2)
       go_meet
       case rel => exact ⟨_, (true), lF, H', ⟨lN⟩, ⟨lK BK349.out⟩, ⟨lK BK350.out⟩, ⟨lB⟩⟩
     ·rw [if_neg c9] at H
      have c9b0 : (a0_4 == a1_4) = false := beq_eq_false_iff_ne.mpr c9
      have c9b1 : (a0_4 != a1_4) = true := bne_iff_ne.mpr c9
      have H' := Aside0.mk H
      clear H
      have hnb17 := NB349_350.out
      have hnc17 := NB350_349.out
      obtain ⟨hcz18_0, hfz18_0, hcz18_1, hfz18_1, hcz18_2, hfz18_2, hcz18_3, hfz18_3, hcz18_4, hfz18_4, hcz18_5, hfz18_5⟩ := bk6 BK349.out
      obtain ⟨hcz19_0, hfz19_0, hcz19_1, hfz19_1, hcz19_2, hfz19_2, hcz19_3, hfz19_3, hcz19_4, hfz19_4, hcz19_5, hfz19_5⟩ := bk6 BK350.out
      go_wp2
      repeat (go_quiet (fail); try go_wp2)
      go_meet
      case rel => exact ⟨_, (true), lF, H', ⟨lN⟩, ⟨lK BK349.out⟩, ⟨lK BK350.out⟩, ⟨lB⟩⟩
    ·rw [if_neg c8] at H
     have c8b0 : (a0_3 == a1_3) = false := beq_eq_false_iff_ne.mpr c8
     have c8b1 : (a0_3 != a1_3) = true := bne_iff_ne.mpr c8
     have H' := Aside0.mk H
     clear H
     have hnb20 := NB349_350.out
     have hnc20 := NB350_349.out
     obtain ⟨hcz21_0, hfz21_0, hcz21_1, hfz21_1, hcz21_2, hfz21_2, hcz21_3, hfz21_3, hcz21_4, hfz21_4, hcz21_5, hfz21_5⟩ := bk6 BK349.out
     obtain ⟨hcz22_0, hfz22_0, hcz22_1, hfz22_1, hcz22_2, hfz22_2, hcz22_3, hfz22_3, hcz22_4, hfz22_4, hcz22_5, hfz22_5⟩ := bk6 BK350.out
     go_wp2
     repeat (go_quiet (fail); try go_wp2)
     go_meet
     case rel => exact ⟨_, (true), lF, H', ⟨lN⟩, ⟨lK BK349.out⟩, ⟨lK BK350.out⟩, ⟨lB⟩⟩
   ·rw [if_neg c7] at H
    have c7b0 : (a0_1 == a1_1) = false := beq_eq_false_iff_ne.mpr c7
    have c7b1 : (a0_1 != a1_1) = true := bne_iff_ne.mpr c7
    have H' := Aside0.mk H
    clear H
    have hnb23 := NB349_350.out
    have hnc23 := NB350_349.out
    obtain ⟨hcz24_0, hfz24_0, hcz24_1, hfz24_1, hcz24_2, hfz24_2, hcz24_3, hfz24_3, hcz24_4, hfz24_4, hcz24_5, hfz24_5⟩ := bk6 BK349.out
    obtain ⟨hcz25_0, hfz25_0, hcz25_1, hfz25_1, hcz25_2, hfz25_2, hcz25_3, hfz25_3, hcz25_4, hfz25_4, hcz25_5, hfz25_5⟩ := bk6 BK350.out
    go_wp2
    repeat (go_quiet (fail); try go_wp2)
    go_meet
    case rel => exact ⟨_, (true), lF, H', ⟨lN⟩, ⟨lK BK349.out⟩, ⟨lK BK350.out⟩, ⟨lB⟩⟩
  ·rw [if_neg c6] at H
   have c6b0 : (a0_0 == a1_0) = false := beq_eq_false_iff_ne.mpr c6
   have c6b1 : (a0_0 != a1_0) = true := bne_iff_ne.mpr c6
   (first | rw [c6b0] | (simp only [i64_w, i32_w]; rw [c6b0]) | skip)
   have H' := Aside0.mk H
   clear H
   have hnb26 := NB349_350.out
   have hnc26 := NB350_349.out
   obtain ⟨hcz27_0, hfz27_0, hcz27_1, hfz27_1, hcz27_2, hfz27_2, hcz27_3, hfz27_3, hcz27_4, hfz27_4, hcz27_5, hfz27_5⟩ := bk6 BK349.out
   obtain ⟨hcz28_0, hfz28_0, hcz28_1, hfz28_1, hcz28_2, hfz28_2, hcz28_3, hfz28_3, hcz28_4, hfz28_4, hcz28_5, hfz28_5⟩ := bk6 BK350.out
   go_wp2
   repeat (go_quiet (fail); try go_wp2)
   go_meet
   case rel => exact ⟨_, (true), lF, H', ⟨lN⟩, ⟨lK BK349.out⟩, ⟨lK BK350.out⟩, ⟨lB⟩⟩
 case rest =>
  clear HC3
  try clear c1
  try clear c2
  try clear p2
  try clear c4
  try clear c6
  try clear c6b0
  try clear c6b1
  try clear c7
  try clear c7b0
  try clear c7b1
  try clear c8
  try clear c8b0
  try clear c8b1
  try clear c9
  try clear c9b0
  try clear c9b1
  try clear c10
  try clear c10b0
  try clear c10b1
  try clear c11
  try clear c14
  try clear c17
  try clear c20
  try clear c23
  try clear c26
  try clear hcz12_0 hcz12_1 hcz12_2 hcz12_3 hcz12_4 hcz12_5
  try clear hcz13_0 hcz13_1 hcz13_2 hcz13_3 hcz13_4 hcz13_5
  try clear hcz15_0 hcz15_1 hcz15_2 hcz15_3 hcz15_4 hcz15_5
  try clear hcz16_0 hcz16_1 hcz16_2 hcz16_3 hcz16_4 hcz16_5
  try clear hcz18_0 hcz18_1 hcz18_2 hcz18_3 hcz18_4 hcz18_5
  try clear hcz19_0 hcz19_1 hcz19_2 hcz19_3 hcz19_4 hcz19_5
  try clear hcz21_0 hcz21_1 hcz21_2 hcz21_3 hcz21_4 hcz21_5
  try clear hcz22_0 hcz22_1 hcz22_2 hcz22_3 hcz22_4 hcz22_5
  try clear hcz24_0 hcz24_1 hcz24_2 hcz24_3 hcz24_4 hcz24_5
  try clear hcz25_0 hcz25_1 hcz25_2 hcz25_3 hcz25_4 hcz25_5
  try clear hcz27_0 hcz27_1 hcz27_2 hcz27_3 hcz27_4 hcz27_5
  try clear hcz28_0 hcz28_1 hcz28_2 hcz28_3 hcz28_4 hcz28_5
  try clear hfz12_0 hfz12_1 hfz12_2 hfz12_3 hfz12_4 hfz12_5
  try clear hfz13_0 hfz13_1 hfz13_2 hfz13_3 hfz13_4 hfz13_5
  try clear hfz15_0 hfz15_1 hfz15_2 hfz15_3 hfz15_4 hfz15_5
  try clear hfz16_0 hfz16_1 hfz16_2 hfz16_3 hfz16_4 hfz16_5
  try clear hfz18_0 hfz18_1 hfz18_2 hfz18_3 hfz18_4 hfz18_5
  try clear hfz19_0 hfz19_1 hfz19_2 hfz19_3 hfz19_4 hfz19_5
  try clear hfz21_0 hfz21_1 hfz21_2 hfz21_3 hfz21_4 hfz21_5
  try clear hfz22_0 hfz22_1 hfz22_2 hfz22_3 hfz22_4 hfz22_5
  try clear hfz24_0 hfz24_1 hfz24_2 hfz24_3 hfz24_4 hfz24_5
  try clear hfz25_0 hfz25_1 hfz25_2 hfz25_3 hfz25_4 hfz25_5
  try clear hfz27_0 hfz27_1 hfz27_2 hfz27_3 hfz27_4 hfz27_5
  try clear hfz28_0 hfz28_1 hfz28_2 hfz28_3 hfz28_4 hfz28_5
  obtain ⟨kq, x47_2, rfl, HA, HJ2, BK349, BK350, HB⟩ := hcut
  cases kq with
  | zero => exact absurd HA.out (by simp [laws_sameCaches.j0])
  | succ kj2 =>
   have H := HA.out
   clear HA
   simp only [laws_sameCaches.j0] at H
   by_cases c29 : x47_2 = true
   ·subst c29
    rw [if_pos rfl] at H
    obtain rfl := Option.some.inj H
    go_wp2
    repeat (go_quiet (fail); try go_wp2)
    go_ret
    exact ⟨lE, lB⟩
   ·replace c29 := Bool.eq_false_iff.mpr c29
    subst c29
    rw [if_neg (show ¬ (false = true) by decide)] at H
    have H' := Aside0.mk H
    clear H
    have hnb30 := NB349_350.out
    have hnc30 := NB350_349.out
    obtain ⟨hcz31_0, hfz31_0, hcz31_1, hfz31_1, hcz31_2, hfz31_2, hcz31_3, hfz31_3, hcz31_4, hfz31_4, hcz31_5, hfz31_5⟩ := bk6 BK349.out
    go_wp2
    repeat (go_quiet (fail); try go_wp2)
    go_loopg [51] kj2 (fun kq v51 w' => ∃ (x51_2 : Int), v51 = .int .i64 x51_2 ∧ Aside0 (laws_sameCaches.l0 kq (l0_2.length : Int) x51_2 a0_0 a0_1 l0_2 a0_3 a0_4 a0_5 a1_0 a1_1 l1_2 a1_3 a1_4 a1_5 = some r) ∧ Aside0 (kq ≤ kj2) ∧ Aside0 (w'.heap[gb349]? = some (.cells #[.int .i64 a0_0, .int .i64 a0_1, (.slice A0_2 l0_2.length c0_2), .int .i64 a0_3, .int .i64 a0_4, .int .i64 a0_5] 44 (0, 0))) ∧ Aside0 (w'.heap[gb350]? = some (.cells #[.int .i64 a1_0, .int .i64 a1_1, (.slice A1_2 l1_2.length c1_2), .int .i64 a1_3, .int .i64 a1_4, .int .i64 a1_5] 44 (0, 0))) ∧ Aside0 (Below w.heap.size w w'))
    case atStart => exact ⟨(0), lF, H', ⟨Nat.le_refl _⟩, ⟨lK BK349.out⟩, ⟨lK BK350.out⟩, ⟨lB⟩⟩
    case round =>
     clear H'
     try clear c1
     try clear c2
     try clear p2
     try clear c3
     try clear c4
     try clear c6
     try clear c6b0
     try clear c6b1
     try clear c7
     try clear c7b0
     try clear c7b1
     try clear c8
     try clear c8b0
     try clear c8b1
     try clear c9
     try clear c9b0
     try clear c9b1
     try clear c10
     try clear c10b0
     try clear c10b1
     try clear c11
     try clear c14
     try clear c17
     try clear c20
     try clear c23
     try clear c26
     try clear c29
     try clear c30
     try clear hcz12_0 hcz12_1 hcz12_2 hcz12_3 hcz12_4 hcz12_5
     try clear hcz13_0 hcz13_1 hcz13_2 hcz13_3 hcz13_4 hcz13_5
     try clear hcz15_0 hcz15_1 hcz15_2 hcz15_3 hcz15_4 hcz15_5
     try clear hcz16_0 hcz16_1 hcz16_2 hcz16_3 hcz16_4 hcz16_5
     try clear hcz18_0 hcz18_1 hcz18_2 hcz18_3 hcz18_4 hcz18_5
     try clear hcz19_0 hcz19_1 hcz19_2 hcz19_3 hcz19_4 hcz19_5
     try clear hcz21_0 hcz21_1 hcz21_2 hcz21_3 hcz21_4 hcz21_5
     try clear hcz22_0 hcz22_1 hcz22_2 hcz22_3 hcz22_4 hcz22_5
     try clear hcz24_0 hcz24_1 hcz24_2 hcz24_3 hcz24_4 hcz24_5
     try clear hcz25_0 hcz25_1 hcz25_2 hcz25_3 hcz25_4 hcz25_5
     try clear hcz27_0 hcz27_1 hcz27_2 hcz27_3 hcz27_4 hcz27_5
     try clear hcz28_0 hcz28_1 hcz28_2 hcz28_3 hcz28_4 hcz28_5
     try clear hcz31_0 hcz31_1 hcz31_2 hcz31_3 hcz31_4 hcz31_5
     try clear hfz12_0 hfz12_1 hfz12_2 hfz12_3 hfz12_4 hfz12_5
     try clear hfz13_0 hfz13_1 hfz13_2 hfz13_3 hfz13_4 hfz13_5
     try clear hfz15_0 hfz15_1 hfz15_2 hfz15_3 hfz15_4 hfz15_5
     try clear hfz16_0 hfz16_1 hfz16_2 hfz16_3 hfz16_4 hfz16_5
     try clear hfz18_0 hfz18_1 hfz18_2 hfz18_3 hfz18_4 hfz18_5
     try clear hfz19_0 hfz19_1 hfz19_2 hfz19_3 hfz19_4 hfz19_5
     try clear hfz21_0 hfz21_1 hfz21_2 hfz21_3 hfz21_4 hfz21_5
     try clear hfz22_0 hfz22_1 hfz22_2 hfz22_3 hfz22_4 hfz22_5
     try clear hfz24_0 hfz24_1 hfz24_2 hfz24_3 hfz24_4 hfz24_5
     try clear hfz25_0 hfz25_1 hfz25_2 hfz25_3 hfz25_4 hfz25_5
     try clear hfz27_0 hfz27_1 hfz27_2 hfz27_3 hfz27_4 hfz27_5
     try clear hfz28_0 hfz28_1 hfz28_2 hfz28_3 hfz28_4 hfz28_5
     try clear hfz31_0 hfz31_1 hfz31_2 hfz31_3 hfz31_4 hfz31_5
     try clear p2
     obtain ⟨x51_2, rfl, HA, HK2, BK349, BK350, HB⟩ := hrel
     cases gk with
     | zero => exact absurd HA.out (by simp [laws_sameCaches.l0])
     | succ k2 =>
      have H := HA.out
      clear HA
      simp only [laws_sameCaches.l0] at H
      by_cases c32 : x51_2 < (l0_2.length : Int)
      ·rw [if_pos c32] at H
       have c32b0 : decide (x51_2 < (l0_2.length : Int)) = true := decide_eq_true c32
       clear c32
       by_cases c33 : 0 ≤ x51_2
       ·rw [if_pos c33] at H
        have c33b0 : decide (0 ≤ x51_2) = true := decide_eq_true c33
        clear c33
        by_cases c34 : x51_2 < (l0_2.length : Int)
        ·rw [if_pos c34] at H
         have c34b0 : decide (x51_2 < (l0_2.length : Int)) = true := decide_eq_true c34
         clear c34
         by_cases c35 : x51_2 < (l1_2.length : Int)
         ·rw [if_pos c35] at H
          have c35b0 : decide (x51_2 < (l1_2.length : Int)) = true := decide_eq_true c35
          clear c35
          by_cases c36 : (!(((rd_T97 l0_2 x51_2).f0) == ((rd_T97 l1_2 x51_2).f0)) || (!(((rd_T97 l0_2 x51_2).f1) == ((rd_T97 l1_2 x51_2).f1)))) = true
          ·rw [if_pos c36] at H
           have c36b0 : (!(((rd_T97 l0_2 x51_2).f0) == ((rd_T97 l1_2 x51_2).f0)) || (!(((rd_T97 l0_2 x51_2).f1) == ((rd_T97 l1_2 x51_2).f1)))) = true := c36
           clear c36
           obtain rfl := Option.some.inj H
           have hnb37 := NB349_350.out
           have hnc37 := NB350_349.out
           obtain ⟨hcz38_0, hfz38_0, hcz38_1, hfz38_1, hcz38_2, hfz38_2, hcz38_3, hfz38_3, hcz38_4, hfz38_4, hcz38_5, hfz38_5⟩ := bk6 BK349.out
           have p351 : 0 ≤ (x51_2 : Int) := lD
           have q351 : x51_2 < (l0_2.length : Int) := lD
           obtain ⟨ad351, e351, hx351_0, hx351_1⟩ := at_T97 HR0_2.out x51_2 p351 q351
           cases e351
           replace hx351_0 := pw_cell_below HB.out hx351_0
           replace hx351_1 := pw_cell_below HB.out hx351_1
           replace p351 := eq_true p351
           replace q351 := eq_true q351
           obtain ⟨hcz39_0, hfz39_0, hcz39_1, hfz39_1, hcz39_2, hfz39_2, hcz39_3, hfz39_3, hcz39_4, hfz39_4, hcz39_5, hfz39_5⟩ := bk6 BK350.out
           have p352 : 0 ≤ (x51_2 : Int) := lD
           have q352 : x51_2 < (l1_2.length : Int) := lD
           obtain ⟨ad352, e352, hx352_0, hx352_1⟩ := at_T97 HR1_2.out x51_2 p352 q352
           cases e352
           replace hx352_0 := pw_cell_below HB.out hx352_0
           replace hx352_1 := pw_cell_below HB.out hx352_1
           replace p352 := eq_true p352
           replace q352 := eq_true q352
           go_wp2
           repeat (go_quiet (fail); try go_wp2)
           go_ret
           exact ⟨lE, lB⟩
          ·rw [if_neg c36] at H
           have c36b0 : (!(((rd_T97 l0_2 x51_2).f0) == ((rd_T97 l1_2 x51_2).f0)) || (!(((rd_T97 l0_2 x51_2).f1) == ((rd_T97 l1_2 x51_2).f1)))) = false := by simpa using c36
           clear c36
           have H' := Aside0.mk H
           clear H
           have hnb40 := NB349_350.out
           have hnc40 := NB350_349.out
           obtain ⟨hcz41_0, hfz41_0, hcz41_1, hfz41_1, hcz41_2, hfz41_2, hcz41_3, hfz41_3, hcz41_4, hfz41_4, hcz41_5, hfz41_5⟩ := bk6 BK349.out
           have p351 : 0 ≤ (x51_2 : Int) := lD
           have q351 : x51_2 < (l0_2.length : Int) := lD
           obtain ⟨ad351, e351, hx351_0, hx351_1⟩ := at_T97 HR0_2.out x51_2 p351 q351
           cases e351
           replace hx351_0 := pw_cell_below HB.out hx351_0
           replace hx351_1 := pw_cell_below HB.out hx351_1
           replace p351 := eq_true p351
           replace q351 := eq_true q351
           obtain ⟨hcz42_0, hfz42_0, hcz42_1, hfz42_1, hcz42_2, hfz42_2, hcz42_3, hfz42_3, hcz42_4, hfz42_4, hcz42_5, hfz42_5⟩ := bk6 BK350.out
           have p352 : 0 ≤ (x51_2 : Int) := lD
           have q352 : x51_2 < (l1_2.length : Int) := lD
           obtain ⟨ad352, e352, hx352_0, hx352_1⟩ := at_T97 HR1_2.out x51_2 p352 q352
           cases e352
           replace hx352_0 := pw_cell_below HB.out hx352_0
           replace hx352_1 := pw_cell_below HB.out hx352_1
           replace p352 := eq_true p352
           replace q352 := eq_true q352
           go_wp2
           repeat (go_quiet (fail); try go_wp2)
           go_roundg k2
           case measure => have := HJ2.out; have := HK2.out; omega
           case rel => exact ⟨(wrap64 (x51_2 + 1)), lF, H', ⟨by have := HJ2.out; have := HK2.out; omega⟩, ⟨lK BK349.out⟩, ⟨lK BK350.out⟩, ⟨lB⟩⟩
         ·rw [if_neg c35] at H
          exact absurd H (by simp)
        ·rw [if_neg c34] at H
         exact absurd H (by simp)
       ·rw [if_neg c33] at H
        exact absurd H (by simp)
      ·rw [if_neg c32] at H
       have c32b0 : decide (x51_2 < (l0_2.length : Int)) = false := decide_eq_false c32
       clear c32
       obtain rfl := Option.some.inj H
       go_wp2
       repeat (go_quiet (fail); try go_wp2)
       go_ret
       exact ⟨lE, lB⟩

end Go.Proofs.Ytjmgleomljfieaa.Q
