/- The law FnExactCallBy of this seat: the walk along its one way. Conditions: none. -/
import Derived.Test.YtjmgleomljfieaaQx0
import Derived.Test.YtjmgleomljfieaaQx1
import Derived.Test.YtjmgleomljfieaaQx2
import Derived.Test.YtjmgleomljfieaaQx3
import Derived.Test.YtjmgleomljfieaaQx6
import Derived.Test.YtjmgleomljfieaaQx9
import Derived.Test.YtjmgleomljfieaaGoodFnExactCallBy
import Derived.Test.YtjmgleomljfieaaLk
namespace Go.Proofs.Ytjmgleomljfieaa.Q
open Go.RowKit Go.Proofs.YtjmgleomljfieaaW.PrintWords Go.Proofs.YtjmgleomljfieaaW.PrintLast Go.Proofs.YtjmgleomljfieaaW.PrintMore
set_option linter.unusedVariables false
set_option linter.unusedSimpArgs false
open Lk in
set_option maxHeartbeats 8000000 in
set_option maxRecDepth 100000 in
theorem laws_FnExactCallBy.calls (k : Nat) (A0_0 : Option Addr) (c0_0 : Nat) (l0_0 : List (S111)) (a0_1 : Int) (a1_0 : Int) (a1_1 : Int) (A1_2 : Option Addr) (c1_2 : Nat) (l1_2 : List (S117)) (a1_3 : Int) (a1_4 : Int) (a1_5 : Int) (a2 : Int) (r : Bool) (w : World) (hr0_0 : Kd.C k111 w A0_0 l0_0.length l0_0) (hc0_0 : l0_0.length ≤ c0_0) (hr1_2 : Kd.C k117 w A1_2 l1_2.length l1_2) (hc1_2 : l1_2.length ≤ c1_2) (h : laws_FnExactCallBy.f k l0_0 a0_1 a1_0 a1_1 l1_2 a1_3 a1_4 a1_5 a2 = some r) :
    Calls Try.prog 10 #[.agg #[.slice A0_0 l0_0.length c0_0, .int .i64 a0_1], .agg #[.int .i64 a1_0, .int .i64 a1_1, .slice A1_2 l1_2.length c1_2, .int .i64 a1_3, .int .i64 a1_4, .int .i64 a1_5], .int .i64 a2] w fun e w' => e = .returned (.bool r) ∧ Below w.heap.size w w' := by
  unfold laws_FnExactCallBy.f at h
  split at h
  case isFalse => cases h
  rename_i hg
  obtain rfl := Option.some.inj h
  clear h
  have HR0_0 := Aside0.mk hr0_0
  have HC0_0 := Aside0.mk hc0_0
  clear hr0_0 hc0_0
  have HR1_2 := Aside0.mk hr1_2
  have HC1_2 := Aside0.mk hc1_2
  clear hr1_2 hc1_2
  have HB := Aside0.mk (Below.refl w.heap.size w)
  unfold laws_FnExactCallBy.good at hg
  obtain ⟨t15, H160, hg⟩ := hg
  have H16 := Aside0.mk H160
  clear H160
  rcases hg with hs | ⟨hs, hg⟩
  · have hs1_ : decide (t15 < 0) = true := decide_eq_true hs
    clear hs
    go_enter Try.func10, Try.ntmps10
    go_wp2_with (first | ((with_reducible refine gate_dst (N := 3) rfl ?_); refine bxe 3 #[.slice A0_0 l0_0.length c0_0, .int .i64 a0_1] 24 ?_; intro gb2 hg_ w5 hx_ hb; have hg2_ : gb2 = w.heap.size := hg_; have hq_ : Below w.heap.size w w5 := ⟨hb.os, hb.tape, hb.output, hb.size, hb.block⟩; have HZ6 := Aside0.mk (show w.heap.size ≤ w5.heap.size from hq_.size); replace HB := Aside0.mk (below_then HB.out HB.out.size hq_); have HA7 := Aside0.mk (show w.heap.size ≤ w5.heap.size from HB.out.size); clear hq_; have BK3 := Aside0.mk hx_; have GQ4 := Aside0.mk (show w.heap.size ≤ gb2 ∧ gb2 < w5.heap.size from ⟨Nat.le_of_eq hg2_.symm, blk_lt hx_⟩); clear hb hg_ hg2_ hx_; obtain ⟨hczb1_0, hfzb1_0, hczb1_1, hfzb1_1⟩ := bk2 BK3.out) | ((with_reducible refine gate_dst (N := 4) rfl ?_); refine bxe 4 #[.int .i64 a1_0, .int .i64 a1_1, .slice A1_2 l1_2.length c1_2, .int .i64 a1_3, .int .i64 a1_4, .int .i64 a1_5] 52 ?_; intro gb9 hg_ w12 hx_ hb; have hg2_ : gb9 = w5.heap.size := hg_; have hq_ : Below w5.heap.size w5 w12 := ⟨hb.os, hb.tape, hb.output, hb.size, hb.block⟩; have HZ13 := Aside0.mk (show w5.heap.size ≤ w12.heap.size from hq_.size); replace HB := Aside0.mk (below_then HB.out HB.out.size hq_); have HA14 := Aside0.mk (show w.heap.size ≤ w12.heap.size from HB.out.size); have hn_ := Aside0.mk (blk_below BK3.out hq_); clear hczb1_0 hfzb1_0; clear hczb1_1 hfzb1_1; clear BK3; have BK3 := hn_; clear hn_; clear hq_; obtain ⟨hczb1_0, hfzb1_0, hczb1_1, hfzb1_1⟩ := bk2 BK3.out; have BK10 := Aside0.mk hx_; have GQ11 := Aside0.mk (show w5.heap.size ≤ gb9 ∧ gb9 < w12.heap.size from ⟨Nat.le_of_eq hg2_.symm, blk_lt hx_⟩); clear hb hg_ hg2_ hx_; obtain ⟨hczb8_0, hfzb8_0, hczb8_1, hfzb8_1, hczb8_2, hfzb8_2, hczb8_3, hfzb8_3, hczb8_4, hfzb8_4, hczb8_5, hfzb8_5⟩ := bk6 BK10.out))
    refine (laws_szWorld.calls k _ _ l0_0 a0_1 1048576 t15 _ (Kd.C_below HR0_0.out HB.out) HC0_0.out H16.out).mono ?_
    rintro e_ w17 ⟨rfl, hb⟩
    have hq_ : Below w12.heap.size w12 w17 := ⟨hb.os, hb.tape, hb.output, hb.size, hb.block⟩
    have HZ18 := Aside0.mk (show w12.heap.size ≤ w17.heap.size from hq_.size)
    replace HB := Aside0.mk (below_then HB.out HB.out.size hq_)
    have HA19 := Aside0.mk (show w.heap.size ≤ w17.heap.size from HB.out.size)
    have hn_ := Aside0.mk (blk_below BK3.out hq_)
    clear hczb1_0 hfzb1_0; clear hczb1_1 hfzb1_1
    clear BK3
    have BK3 := hn_
    clear hn_
    have hn_ := Aside0.mk (blk_below BK10.out hq_)
    clear hczb8_0 hfzb8_0; clear hczb8_1 hfzb8_1; clear hczb8_2 hfzb8_2; clear hczb8_3 hfzb8_3; clear hczb8_4 hfzb8_4; clear hczb8_5 hfzb8_5
    clear BK10
    have BK10 := hn_
    clear hn_
    clear hq_
    obtain ⟨hczb1_0, hfzb1_0, hczb1_1, hfzb1_1⟩ := bk2 BK3.out
    obtain ⟨hczb8_0, hfzb8_0, hczb8_1, hfzb8_1, hczb8_2, hfzb8_2, hczb8_3, hfzb8_3, hczb8_4, hfzb8_4, hczb8_5, hfzb8_5⟩ := bk6 BK10.out
    clear hb
    go_wp2_with fail
    go_ret
    exact ⟨rfl, by repeat first | exact HB.out | apply below_alloc⟩
  have hs2_ : decide (t15 < 0) = false := decide_eq_false hs
  clear hs
  obtain ⟨t20, H210, hg⟩ := hg
  have H21 := Aside0.mk H210
  clear H210
  rcases hg with hs | ⟨hs, hg⟩
  · have hs1_ : decide (t20 < 0) = true := decide_eq_true hs
    clear hs
    go_enter Try.func10, Try.ntmps10
    go_wp2_with (first | ((with_reducible refine gate_dst (N := 3) rfl ?_); refine bxe 3 #[.slice A0_0 l0_0.length c0_0, .int .i64 a0_1] 24 ?_; intro gb2 hg_ w5 hx_ hb; have hg2_ : gb2 = w.heap.size := hg_; have hq_ : Below w.heap.size w w5 := ⟨hb.os, hb.tape, hb.output, hb.size, hb.block⟩; have HZ6 := Aside0.mk (show w.heap.size ≤ w5.heap.size from hq_.size); replace HB := Aside0.mk (below_then HB.out HB.out.size hq_); have HA7 := Aside0.mk (show w.heap.size ≤ w5.heap.size from HB.out.size); clear hq_; have BK3 := Aside0.mk hx_; have GQ4 := Aside0.mk (show w.heap.size ≤ gb2 ∧ gb2 < w5.heap.size from ⟨Nat.le_of_eq hg2_.symm, blk_lt hx_⟩); clear hb hg_ hg2_ hx_; obtain ⟨hczb1_0, hfzb1_0, hczb1_1, hfzb1_1⟩ := bk2 BK3.out) | ((with_reducible refine gate_dst (N := 4) rfl ?_); refine bxe 4 #[.int .i64 a1_0, .int .i64 a1_1, .slice A1_2 l1_2.length c1_2, .int .i64 a1_3, .int .i64 a1_4, .int .i64 a1_5] 52 ?_; intro gb9 hg_ w12 hx_ hb; have hg2_ : gb9 = w5.heap.size := hg_; have hq_ : Below w5.heap.size w5 w12 := ⟨hb.os, hb.tape, hb.output, hb.size, hb.block⟩; have HZ13 := Aside0.mk (show w5.heap.size ≤ w12.heap.size from hq_.size); replace HB := Aside0.mk (below_then HB.out HB.out.size hq_); have HA14 := Aside0.mk (show w.heap.size ≤ w12.heap.size from HB.out.size); have hn_ := Aside0.mk (blk_below BK3.out hq_); clear hczb1_0 hfzb1_0; clear hczb1_1 hfzb1_1; clear BK3; have BK3 := hn_; clear hn_; clear hq_; obtain ⟨hczb1_0, hfzb1_0, hczb1_1, hfzb1_1⟩ := bk2 BK3.out; have BK10 := Aside0.mk hx_; have GQ11 := Aside0.mk (show w5.heap.size ≤ gb9 ∧ gb9 < w12.heap.size from ⟨Nat.le_of_eq hg2_.symm, blk_lt hx_⟩); clear hb hg_ hg2_ hx_; obtain ⟨hczb8_0, hfzb8_0, hczb8_1, hfzb8_1, hczb8_2, hfzb8_2, hczb8_3, hfzb8_3, hczb8_4, hfzb8_4, hczb8_5, hfzb8_5⟩ := bk6 BK10.out))
    refine (laws_szWorld.calls k _ _ l0_0 a0_1 1048576 t15 _ (Kd.C_below HR0_0.out HB.out) HC0_0.out H16.out).mono ?_
    rintro e_ w17 ⟨rfl, hb⟩
    have hq_ : Below w12.heap.size w12 w17 := ⟨hb.os, hb.tape, hb.output, hb.size, hb.block⟩
    have HZ18 := Aside0.mk (show w12.heap.size ≤ w17.heap.size from hq_.size)
    replace HB := Aside0.mk (below_then HB.out HB.out.size hq_)
    have HA19 := Aside0.mk (show w.heap.size ≤ w17.heap.size from HB.out.size)
    have hn_ := Aside0.mk (blk_below BK3.out hq_)
    clear hczb1_0 hfzb1_0; clear hczb1_1 hfzb1_1
    clear BK3
    have BK3 := hn_
    clear hn_
    have hn_ := Aside0.mk (blk_below BK10.out hq_)
    clear hczb8_0 hfzb8_0; clear hczb8_1 hfzb8_1; clear hczb8_2 hfzb8_2; clear hczb8_3 hfzb8_3; clear hczb8_4 hfzb8_4; clear hczb8_5 hfzb8_5
    clear BK10
    have BK10 := hn_
    clear hn_
    clear hq_
    obtain ⟨hczb1_0, hfzb1_0, hczb1_1, hfzb1_1⟩ := bk2 BK3.out
    obtain ⟨hczb8_0, hfzb8_0, hczb8_1, hfzb8_1, hczb8_2, hfzb8_2, hczb8_3, hfzb8_3, hczb8_4, hfzb8_4, hczb8_5, hfzb8_5⟩ := bk6 BK10.out
    clear hb
    go_wp2_with fail
    refine (laws_szCache.calls a1_0 a1_1 _ _ l1_2 a1_3 a1_4 a1_5 t15 t20 _ (Kd.C_below HR1_2.out HB.out) HC1_2.out H21.out).mono ?_
    rintro e_ w22 ⟨rfl, hb⟩
    have hq_ : Below w17.heap.size w17 w22 := ⟨hb.os, hb.tape, hb.output, hb.size, hb.block⟩
    have HZ23 := Aside0.mk (show w17.heap.size ≤ w22.heap.size from hq_.size)
    replace HB := Aside0.mk (below_then HB.out HB.out.size hq_)
    have HA24 := Aside0.mk (show w.heap.size ≤ w22.heap.size from HB.out.size)
    have hn_ := Aside0.mk (blk_below BK3.out hq_)
    clear hczb1_0 hfzb1_0; clear hczb1_1 hfzb1_1
    clear BK3
    have BK3 := hn_
    clear hn_
    have hn_ := Aside0.mk (blk_below BK10.out hq_)
    clear hczb8_0 hfzb8_0; clear hczb8_1 hfzb8_1; clear hczb8_2 hfzb8_2; clear hczb8_3 hfzb8_3; clear hczb8_4 hfzb8_4; clear hczb8_5 hfzb8_5
    clear BK10
    have BK10 := hn_
    clear hn_
    clear hq_
    obtain ⟨hczb1_0, hfzb1_0, hczb1_1, hfzb1_1⟩ := bk2 BK3.out
    obtain ⟨hczb8_0, hfzb8_0, hczb8_1, hfzb8_1, hczb8_2, hfzb8_2, hczb8_3, hfzb8_3, hczb8_4, hfzb8_4, hczb8_5, hfzb8_5⟩ := bk6 BK10.out
    clear hb
    go_wp2_with fail
    go_ret
    exact ⟨rfl, by repeat first | exact HB.out | apply below_alloc⟩
  have hs3_ : decide (t20 < 0) = false := decide_eq_false hs
  clear hs
  obtain ⟨t28, t29, H300, t39, t40, t41, t42, t43, t44, H450, t54, t55, t56, t57, t58, t59, t60, t61, H620, t208, t209, H2100, t229, t230, t231, t232, t233, t234, H2350, t254, t255, t256, t257, t258, t259, H2620, H2820, t289, t290, H2910, H3010, t308, t309, t310, t311, t312, t313, H3140, H3240, H3290, t334, t335, H3360, H3370, H3420, t347, t348, H3490, H3500, H3550, t362, t363, H3640, t373, t374, t375, t376, t377, t378, H3790, t388, t389, t390, t391, t392, t393, H3960, H5430, H5480, hg⟩ := hg
  have H30 := Aside0.mk H300
  clear H300
  have H45 := Aside0.mk H450
  clear H450
  have H62 := Aside0.mk H620
  clear H620
  have H210 := Aside0.mk H2100
  clear H2100
  have H235 := Aside0.mk H2350
  clear H2350
  have H262 := Aside0.mk H2620
  clear H2620
  have H282 := Aside0.mk H2820
  clear H2820
  have H291 := Aside0.mk H2910
  clear H2910
  have H301 := Aside0.mk H3010
  clear H3010
  have H314 := Aside0.mk H3140
  clear H3140
  have H324 := Aside0.mk H3240
  clear H3240
  have H329 := Aside0.mk H3290
  clear H3290
  have H336 := Aside0.mk H3360
  clear H3360
  have H337 := Aside0.mk H3370
  clear H3370
  have H342 := Aside0.mk H3420
  clear H3420
  have H349 := Aside0.mk H3490
  clear H3490
  have H350 := Aside0.mk H3500
  clear H3500
  have H355 := Aside0.mk H3550
  clear H3550
  have H364 := Aside0.mk H3640
  clear H3640
  have H379 := Aside0.mk H3790
  clear H3790
  have H396 := Aside0.mk H3960
  clear H3960
  have H543 := Aside0.mk H5430
  clear H5430
  have H548 := Aside0.mk H5480
  clear H5480
  clear hg
  go_enter Try.func10, Try.ntmps10
  go_wp2_with (first | ((with_reducible refine gate_dst (N := 3) rfl ?_); refine bxe 3 #[.slice A0_0 l0_0.length c0_0, .int .i64 a0_1] 24 ?_; intro gb2 hg_ w5 hx_ hb; have hg2_ : gb2 = w.heap.size := hg_; have hq_ : Below w.heap.size w w5 := ⟨hb.os, hb.tape, hb.output, hb.size, hb.block⟩; have HZ6 := Aside0.mk (show w.heap.size ≤ w5.heap.size from hq_.size); replace HB := Aside0.mk (below_then HB.out HB.out.size hq_); have HA7 := Aside0.mk (show w.heap.size ≤ w5.heap.size from HB.out.size); clear hq_; have BK3 := Aside0.mk hx_; have GQ4 := Aside0.mk (show w.heap.size ≤ gb2 ∧ gb2 < w5.heap.size from ⟨Nat.le_of_eq hg2_.symm, blk_lt hx_⟩); clear hb hg_ hg2_ hx_; obtain ⟨hczb1_0, hfzb1_0, hczb1_1, hfzb1_1⟩ := bk2 BK3.out) | ((with_reducible refine gate_dst (N := 4) rfl ?_); refine bxe 4 #[.int .i64 a1_0, .int .i64 a1_1, .slice A1_2 l1_2.length c1_2, .int .i64 a1_3, .int .i64 a1_4, .int .i64 a1_5] 52 ?_; intro gb9 hg_ w12 hx_ hb; have hg2_ : gb9 = w5.heap.size := hg_; have hq_ : Below w5.heap.size w5 w12 := ⟨hb.os, hb.tape, hb.output, hb.size, hb.block⟩; have HZ13 := Aside0.mk (show w5.heap.size ≤ w12.heap.size from hq_.size); replace HB := Aside0.mk (below_then HB.out HB.out.size hq_); have HA14 := Aside0.mk (show w.heap.size ≤ w12.heap.size from HB.out.size); have hn_ := Aside0.mk (blk_below BK3.out hq_); clear hczb1_0 hfzb1_0; clear hczb1_1 hfzb1_1; clear BK3; have BK3 := hn_; clear hn_; clear hq_; obtain ⟨hczb1_0, hfzb1_0, hczb1_1, hfzb1_1⟩ := bk2 BK3.out; have BK10 := Aside0.mk hx_; have GQ11 := Aside0.mk (show w5.heap.size ≤ gb9 ∧ gb9 < w12.heap.size from ⟨Nat.le_of_eq hg2_.symm, blk_lt hx_⟩); clear hb hg_ hg2_ hx_; obtain ⟨hczb8_0, hfzb8_0, hczb8_1, hfzb8_1, hczb8_2, hfzb8_2, hczb8_3, hfzb8_3, hczb8_4, hfzb8_4, hczb8_5, hfzb8_5⟩ := bk6 BK10.out))
  refine (laws_szWorld.calls k _ _ l0_0 a0_1 1048576 t15 _ (Kd.C_below HR0_0.out HB.out) HC0_0.out H16.out).mono ?_
  rintro e_ w17 ⟨rfl, hb⟩
  have hq_ : Below w12.heap.size w12 w17 := ⟨hb.os, hb.tape, hb.output, hb.size, hb.block⟩
  have HZ18 := Aside0.mk (show w12.heap.size ≤ w17.heap.size from hq_.size)
  replace HB := Aside0.mk (below_then HB.out HB.out.size hq_)
  have HA19 := Aside0.mk (show w.heap.size ≤ w17.heap.size from HB.out.size)
  have hn_ := Aside0.mk (blk_below BK3.out hq_)
  clear hczb1_0 hfzb1_0; clear hczb1_1 hfzb1_1
  clear BK3
  have BK3 := hn_
  clear hn_
  have hn_ := Aside0.mk (blk_below BK10.out hq_)
  clear hczb8_0 hfzb8_0; clear hczb8_1 hfzb8_1; clear hczb8_2 hfzb8_2; clear hczb8_3 hfzb8_3; clear hczb8_4 hfzb8_4; clear hczb8_5 hfzb8_5
  clear BK10
  have BK10 := hn_
  clear hn_
  clear hq_
  obtain ⟨hczb1_0, hfzb1_0, hczb1_1, hfzb1_1⟩ := bk2 BK3.out
  obtain ⟨hczb8_0, hfzb8_0, hczb8_1, hfzb8_1, hczb8_2, hfzb8_2, hczb8_3, hfzb8_3, hczb8_4, hfzb8_4, hczb8_5, hfzb8_5⟩ := bk6 BK10.out
  clear hb
  go_wp2_with fail
  refine (laws_szCache.calls a1_0 a1_1 _ _ l1_2 a1_3 a1_4 a1_5 t15 t20 _ (Kd.C_below HR1_2.out HB.out) HC1_2.out H21.out).mono ?_
  rintro e_ w22 ⟨rfl, hb⟩
  have hq_ : Below w17.heap.size w17 w22 := ⟨hb.os, hb.tape, hb.output, hb.size, hb.block⟩
  have HZ23 := Aside0.mk (show w17.heap.size ≤ w22.heap.size from hq_.size)
  replace HB := Aside0.mk (below_then HB.out HB.out.size hq_)
  have HA24 := Aside0.mk (show w.heap.size ≤ w22.heap.size from HB.out.size)
  have hn_ := Aside0.mk (blk_below BK3.out hq_)
  clear hczb1_0 hfzb1_0; clear hczb1_1 hfzb1_1
  clear BK3
  have BK3 := hn_
  clear hn_
  have hn_ := Aside0.mk (blk_below BK10.out hq_)
  clear hczb8_0 hfzb8_0; clear hczb8_1 hfzb8_1; clear hczb8_2 hfzb8_2; clear hczb8_3 hfzb8_3; clear hczb8_4 hfzb8_4; clear hczb8_5 hfzb8_5
  clear BK10
  have BK10 := hn_
  clear hn_
  clear hq_
  obtain ⟨hczb1_0, hfzb1_0, hczb1_1, hfzb1_1⟩ := bk2 BK3.out
  obtain ⟨hczb8_0, hfzb8_0, hczb8_1, hfzb8_1, hczb8_2, hfzb8_2, hczb8_3, hfzb8_3, hczb8_4, hfzb8_4, hczb8_5, hfzb8_5⟩ := bk6 BK10.out
  clear hb
  go_wp2_with fail
  have hb : Below w22.heap.size w22 w22.drew := below_drew (Below.refl _ _)
  obtain ⟨w25, hw_⟩ : ∃ w25, w22.drew = w25 := ⟨_, rfl⟩
  rw [hw_] at hb
  have hq_ : Below w22.heap.size w22 w25 := ⟨hb.os, hb.tape, hb.output, hb.size, hb.block⟩
  have HZ26 := Aside0.mk (show w22.heap.size ≤ w25.heap.size from hq_.size)
  replace HB := Aside0.mk (below_then HB.out HB.out.size hq_)
  have HA27 := Aside0.mk (show w.heap.size ≤ w25.heap.size from HB.out.size)
  have hn_ := Aside0.mk (blk_below BK3.out hq_)
  clear hczb1_0 hfzb1_0; clear hczb1_1 hfzb1_1
  clear BK3
  have BK3 := hn_
  clear hn_
  have hn_ := Aside0.mk (blk_below BK10.out hq_)
  clear hczb8_0 hfzb8_0; clear hczb8_1 hfzb8_1; clear hczb8_2 hfzb8_2; clear hczb8_3 hfzb8_3; clear hczb8_4 hfzb8_4; clear hczb8_5 hfzb8_5
  clear BK10
  have BK10 := hn_
  clear hn_
  clear hq_
  obtain ⟨hczb1_0, hfzb1_0, hczb1_1, hfzb1_1⟩ := bk2 BK3.out
  obtain ⟨hczb8_0, hfzb8_0, hczb8_1, hfzb8_1, hczb8_2, hfzb8_2, hczb8_3, hfzb8_3, hczb8_4, hfzb8_4, hczb8_5, hfzb8_5⟩ := bk6 BK10.out
  refine start_ (n := 14) (S := fun w' => w'.cell? ⟨gb2, 0, none⟩ = some (.slice A0_0 l0_0.length c0_0) ∧ w'.cell? ⟨gb2, 1, none⟩ = some (.int .i64 a0_1) ∧ w'.cell? ⟨gb9, 0, none⟩ = some (.int .i64 a1_0) ∧ w'.cell? ⟨gb9, 1, none⟩ = some (.int .i64 a1_1) ∧ w'.cell? ⟨gb9, 2, none⟩ = some (.slice A1_2 l1_2.length c1_2) ∧ w'.cell? ⟨gb9, 3, none⟩ = some (.int .i64 a1_3) ∧ w'.cell? ⟨gb9, 4, none⟩ = some (.int .i64 a1_4) ∧ w'.cell? ⟨gb9, 5, none⟩ = some (.int .i64 a1_5)) (ds := []) (bs 14 0) kR rfl kR (by rw [hw_]; exact ⟨bZ BK3.out 0, bZ BK3.out 1, bZ BK10.out 0, bZ BK10.out 1, bZ BK10.out 2, bZ BK10.out 3, bZ BK10.out 4, bZ BK10.out 5⟩) (fun hHeld => ?_)
  rw [hw_] at hHeld ⊢
  clear hw_ hb
  have HBr := Aside0.mk (Below.refl w25.heap.size w25)
  refine take_ (i := 0) (N := some 33) (v := ?_) (a' := ?_) (bs 14 1) rfl rfl (by kernel_rfl) (fun _ _ _ h => h) (Or.inl ⟨by rfl, ?_⟩) hHeld ?_ ?_
  rotate_left
  · rintro w' ⟨s0, s1, s2, s3, s4, s5, s6, s7⟩
    go_simp
    with_reducible rfl
  rotate_left
  · simp only [Act.put, List.setIfInBounds_toArray, List.set_cons_zero, List.set_cons_succ, i64_w, i32_w]
    rfl
  refine take_ (i := 2) (N := some 35) (v := ?_) (a' := ?_) (bs 14 5) rfl rfl (by kernel_rfl) (fun _ _ _ h => h) (Or.inl ⟨by rfl, ?_⟩) hHeld ?_ ?_
  rotate_left
  · rintro w' ⟨s0, s1, s2, s3, s4, s5, s6, s7⟩
    go_simp
    with_reducible rfl
  rotate_left
  · simp only [Act.put, List.setIfInBounds_toArray, List.set_cons_zero, List.set_cons_succ, i64_w, i32_w]
    rfl
  refine pure_ (i := 4) (N := some 37) (v := ?_) (a' := ?_) (bs 14 21) rfl rfl (by kernel_rfl) (fun _ _ _ h => h) (Or.inl ⟨by rfl, ?_⟩) ?_ ?_
  rotate_left
  · intro w'
    go_simp
    with_reducible rfl
  rotate_left
  · simp only [Act.put, List.setIfInBounds_toArray, List.set_cons_zero, List.set_cons_succ, i64_w, i32_w]
    rfl
  refine join_ (σ := Value × Value × Option Addr × Nat × Nat) 3 #[true, true, true, true, true, true, true, true, true, true, true, false, false, false] (fun (v191, v192, A189, c190, gb188) => [(34, v191), (36, v192), (38, .tuple #[.agg #[.int .i64 t54, .int .i64 t55, .slice A189 t56.length c190, .int .i64 t57, .int .i64 t58, .int .i64 t59], .int .i64 t60, .bool t61]), (32, .tuple #[.agg #[.int .i64 t54, .int .i64 t55, .slice A189 t56.length c190, .int .i64 t57, .int .i64 t58, .int .i64 t59], .int .i64 t60, .bool t61]), (39, .agg #[.int .i64 t54, .int .i64 t55, .slice A189 t56.length c190, .int .i64 t57, .int .i64 t58, .int .i64 t59]), (40, .int .i64 t60), (41, .bool t61), (8, .pointer (some ⟨gb188, 0, none⟩))]) (fun (v191, v192, A189, c190, gb188) w' => Below w25.heap.size w25 w' ∧ ∃ w185 w186 : World, w25.heap.size ≤ w185.heap.size ∧ w185.heap.size ≤ w186.heap.size ∧ w186.heap.size ≤ w'.heap.size ∧ Kd.R k97 97 w' w.heap.size (fun k_ => (w185.heap.size ≤ k_ ∧ k_ < w186.heap.size) ∧ some k_ = (.slice A189 t56.length c190 : Value).ownBlock ∧ (True)) (.slice A189 t56.length c190) t56 ∧ w'.heap[gb188]? = some (.cells #[(.int .i64 0), (.int .i64 0), (.slice none 0 0), (.int .i64 0), (.int .i64 0), (.int .i64 0)] 44 (0, 0)) ∧ w25.heap.size ≤ gb188 ∧ gb188 < w'.heap.size ∧ (gb188 < w185.heap.size ∨ w186.heap.size ≤ gb188)) ?_ ?_
  rotate_left
  · intro hcont_
    refine two_ (i := 1) (j := 10) (Ni := some 34) (Nj := some 8) (bs 14 23) #[true, false, true, false, true, false, false, false, false, false, true, false, false, false] rfl rfl rfl rfl (by kernel_rfl) (by decide) (by decide) (fun K hK => ?_) (fun K hK => ?_)
    · skip
      refine goes_ Try.func15 (by kernel_rfl) rfl #[.agg #[.slice A0_0 l0_0.length c0_0, .int .i64 a0_1]] (by rfl) rfl rfl (by (try simp only [List.map_toArray, List.map_cons, List.map_nil]); first | done | rfl | (simp only [List.length_drop, List.length_take]; rfl)) ?_
      refine (laws_toWorld.calls k _ _ l0_0 a0_1 t28 t29 _ (Kd.C_below HR0_0.out HB.out) HC0_0.out H30.out).mono ?_
      rintro e_ w31 ⟨v32, rfl, f33, hb⟩
      have hq_ : Below w25.heap.size w25 w31 := ⟨hb.os, hb.tape, hb.output, hb.size, hb.block⟩
      have HZ34 := Aside0.mk (show w25.heap.size ≤ w31.heap.size from hq_.size)
      replace HB := Aside0.mk (below_then HB.out HB.out.size hq_)
      have HA35 := Aside0.mk (show w.heap.size ≤ w31.heap.size from HB.out.size)
      have hn_ := Aside0.mk (blk_below BK3.out hq_)
      clear hczb1_0 hfzb1_0; clear hczb1_1 hfzb1_1
      clear BK3
      have BK3 := hn_
      clear hn_
      have hn_ := Aside0.mk (blk_below BK10.out hq_)
      clear hczb8_0 hfzb8_0; clear hczb8_1 hfzb8_1; clear hczb8_2 hfzb8_2; clear hczb8_3 hfzb8_3; clear hczb8_4 hfzb8_4; clear hczb8_5 hfzb8_5
      clear BK10
      have BK10 := hn_
      clear hn_
      clear hq_
      obtain ⟨hczb1_0, hfzb1_0, hczb1_1, hfzb1_1⟩ := bk2 BK3.out
      obtain ⟨hczb8_0, hfzb8_0, hczb8_1, hfzb8_1, hczb8_2, hfzb8_2, hczb8_3, hfzb8_3, hczb8_4, hfzb8_4, hczb8_5, hfzb8_5⟩ := bk6 BK10.out
      replace HBr := Aside0.mk (below_then HBr.out HBr.out.size hb)
      clear hb
      refine ⟨_, rfl, ?_⟩
      have F36 := Aside0.mk (Lk.newS (b := w25.heap.size) (base := w.heap.size) (Sep := fun k_ => True) f33 (HA27.out) (fun k_ hk_ => hk_))
      clear f33
      obtain ⟨A37, c38, e_⟩ := Kd.S_slice F36.out
      subst e_
      refine hK.out _ _ ⟨bZ BK3.out 0, bZ BK3.out 1, bZ BK10.out 0, bZ BK10.out 1, bZ BK10.out 2, bZ BK10.out 3, bZ BK10.out 4, bZ BK10.out 5⟩ (fun hHeld => ?_)
      clear hK K
      refine norm_ (a' := ?_) ?_ ?_
      rotate_left
      · show Act.put _ (some 34) _ = _
        simp only [Act.put, List.setIfInBounds_toArray, List.set_cons_zero, List.set_cons_succ, i64_w, i32_w]
        rfl
      refine two_ (i := 3) (j := 10) (Ni := some 36) (Nj := some 8) (bs 14 31) #[true, true, true, false, true, false, false, false, false, false, true, false, false, false] rfl rfl rfl rfl (by kernel_rfl) (by decide) (by decide) (fun K hK => ?_) (fun K hK => ?_)
      · skip
        refine goes_ Try.func33 (by kernel_rfl) rfl #[.agg #[.int .i64 a1_0, .int .i64 a1_1, .slice A1_2 l1_2.length c1_2, .int .i64 a1_3, .int .i64 a1_4, .int .i64 a1_5]] (by rfl) rfl rfl (by (try simp only [List.map_toArray, List.map_cons, List.map_nil]); first | done | rfl | (simp only [List.length_drop, List.length_take]; rfl)) ?_
        refine (laws_toCache.calls k a1_0 a1_1 _ _ l1_2 a1_3 a1_4 a1_5 t39 t40 t41 t42 t43 t44 _ (Kd.C_below HR1_2.out HB.out) HC1_2.out H45.out).mono ?_
        rintro e_ w46 ⟨v47, rfl, f48, hb⟩
        have hq_ : Below w31.heap.size w31 w46 := ⟨hb.os, hb.tape, hb.output, hb.size, hb.block⟩
        have HZ49 := Aside0.mk (show w31.heap.size ≤ w46.heap.size from hq_.size)
        replace HB := Aside0.mk (below_then HB.out HB.out.size hq_)
        have HA50 := Aside0.mk (show w.heap.size ≤ w46.heap.size from HB.out.size)
        replace F36 := Aside0.mk (Kd.S_below F36.out hq_)
        have hn_ := Aside0.mk (blk_below BK3.out hq_)
        clear hczb1_0 hfzb1_0; clear hczb1_1 hfzb1_1
        clear BK3
        have BK3 := hn_
        clear hn_
        have hn_ := Aside0.mk (blk_below BK10.out hq_)
        clear hczb8_0 hfzb8_0; clear hczb8_1 hfzb8_1; clear hczb8_2 hfzb8_2; clear hczb8_3 hfzb8_3; clear hczb8_4 hfzb8_4; clear hczb8_5 hfzb8_5
        clear BK10
        have BK10 := hn_
        clear hn_
        clear hq_
        obtain ⟨hczb1_0, hfzb1_0, hczb1_1, hfzb1_1⟩ := bk2 BK3.out
        obtain ⟨hczb8_0, hfzb8_0, hczb8_1, hfzb8_1, hczb8_2, hfzb8_2, hczb8_3, hfzb8_3, hczb8_4, hfzb8_4, hczb8_5, hfzb8_5⟩ := bk6 BK10.out
        replace HBr := Aside0.mk (below_then HBr.out HBr.out.size hb)
        clear hb
        refine ⟨_, rfl, ?_⟩
        have F51 := Aside0.mk (Lk.newR (b := w31.heap.size) (base := w.heap.size) (Sep := fun k_ => True) rfl f48 (HA35.out) (fun k_ hk_ => hk_))
        clear f48
        obtain ⟨A52, c53, e_⟩ := Kd.R_slice F51.out
        subst e_
        refine hK.out _ _ ⟨bZ BK3.out 0, bZ BK3.out 1, bZ BK10.out 0, bZ BK10.out 1, bZ BK10.out 2, bZ BK10.out 3, bZ BK10.out 4, bZ BK10.out 5⟩ (fun hHeld => ?_)
        clear hK K
        refine norm_ (a' := ?_) ?_ ?_
        rotate_left
        · show Act.put _ (some 36) _ = _
          simp only [Act.put, List.setIfInBounds_toArray, List.set_cons_zero, List.set_cons_succ, i64_w, i32_w]
          rfl
        refine two_ (i := 5) (j := 10) (Ni := some 38) (Nj := some 8) (bs 14 63) #[true, true, true, true, true, false, false, false, false, false, true, false, false, false] rfl rfl rfl rfl (by kernel_rfl) (by decide) (by decide) (fun K hK => ?_) (fun K hK => ?_)
        · skip
          refine goes_ Try.func41 (by kernel_rfl) rfl #[.agg #[.slice A37 t28.length c38, .int .i64 t29], .agg #[.int .i64 t39, .int .i64 t40, .slice A52 t41.length c53, .int .i64 t42, .int .i64 t43, .int .i64 t44], .int .i64 a2] (by rfl) rfl rfl (by (try simp only [List.map_toArray, List.map_cons, List.map_nil]); first | done | rfl | (simp only [List.length_drop, List.length_take]; rfl)) ?_
          refine (spec_CallBy.calls k _ _ t28 t29 t39 t40 _ _ t41 t42 t43 t44 a2 t54 t55 t56 t57 t58 t59 t60 t61 _ (Lk.Sr F36.out).2 (Lk.Sr F36.out).1 (Lk.Rr F51.out).2 (Lk.Rr F51.out).1 H62.out).mono ?_
          rintro e_ w63 ⟨v64, rfl, f65, hb⟩
          have hq_ : Below w46.heap.size w46 w63 := ⟨hb.os, hb.tape, hb.output, hb.size, hb.block⟩
          have HZ66 := Aside0.mk (show w46.heap.size ≤ w63.heap.size from hq_.size)
          replace HB := Aside0.mk (below_then HB.out HB.out.size hq_)
          have HA67 := Aside0.mk (show w.heap.size ≤ w63.heap.size from HB.out.size)
          replace F36 := Aside0.mk (Kd.S_below F36.out hq_)
          replace F51 := Aside0.mk (Kd.R_below F51.out hq_)
          have hn_ := Aside0.mk (blk_below BK3.out hq_)
          clear hczb1_0 hfzb1_0; clear hczb1_1 hfzb1_1
          clear BK3
          have BK3 := hn_
          clear hn_
          have hn_ := Aside0.mk (blk_below BK10.out hq_)
          clear hczb8_0 hfzb8_0; clear hczb8_1 hfzb8_1; clear hczb8_2 hfzb8_2; clear hczb8_3 hfzb8_3; clear hczb8_4 hfzb8_4; clear hczb8_5 hfzb8_5
          clear BK10
          have BK10 := hn_
          clear hn_
          clear hq_
          obtain ⟨hczb1_0, hfzb1_0, hczb1_1, hfzb1_1⟩ := bk2 BK3.out
          obtain ⟨hczb8_0, hfzb8_0, hczb8_1, hfzb8_1, hczb8_2, hfzb8_2, hczb8_3, hfzb8_3, hczb8_4, hfzb8_4, hczb8_5, hfzb8_5⟩ := bk6 BK10.out
          replace HBr := Aside0.mk (below_then HBr.out HBr.out.size hb)
          clear hb
          refine ⟨_, rfl, ?_⟩
          have F68 := Aside0.mk (Lk.newR (b := w46.heap.size) (base := w.heap.size) (Sep := fun k_ => True) rfl f65 (HA50.out) (fun k_ hk_ => hk_))
          clear f65
          obtain ⟨A69, c70, e_⟩ := Kd.R_slice F68.out
          subst e_
          refine hK.out _ _ ⟨bZ BK3.out 0, bZ BK3.out 1, bZ BK10.out 0, bZ BK10.out 1, bZ BK10.out 2, bZ BK10.out 3, bZ BK10.out 4, bZ BK10.out 5⟩ (fun hHeld => ?_)
          clear hK K
          refine norm_ (a' := ?_) ?_ ?_
          rotate_left
          · show Act.put _ (some 38) _ = _
            simp only [Act.put, List.setIfInBounds_toArray, List.set_cons_zero, List.set_cons_succ, i64_w, i32_w]
            rfl
          refine pure_ (i := 6) (N := some 32) (v := ?_) (a' := ?_) (bs 14 127) rfl rfl (by kernel_rfl) (fun _ _ _ h => h) (Or.inl ⟨by rfl, ?_⟩) ?_ ?_
          rotate_left
          · intro w'
            go_simp
            with_reducible rfl
          rotate_left
          · simp only [Act.put, List.setIfInBounds_toArray, List.set_cons_zero, List.set_cons_succ, i64_w, i32_w]
            rfl
          refine pure_ (i := 7) (N := some 39) (v := ?_) (a' := ?_) (bs 14 255) rfl rfl (by kernel_rfl) (fun _ _ _ h => h) (Or.inl ⟨by rfl, ?_⟩) ?_ ?_
          rotate_left
          · intro w'
            go_simp
            with_reducible rfl
          rotate_left
          · simp only [Act.put, List.setIfInBounds_toArray, List.set_cons_zero, List.set_cons_succ, i64_w, i32_w]
            rfl
          refine pure_ (i := 8) (N := some 40) (v := ?_) (a' := ?_) (bs 14 511) rfl rfl (by kernel_rfl) (fun _ _ _ h => h) (Or.inl ⟨by rfl, ?_⟩) ?_ ?_
          rotate_left
          · intro w'
            go_simp
            with_reducible rfl
          rotate_left
          · simp only [Act.put, List.setIfInBounds_toArray, List.set_cons_zero, List.set_cons_succ, i64_w, i32_w]
            rfl
          refine pure_ (i := 9) (N := some 41) (v := ?_) (a' := ?_) (bs 14 1023) rfl rfl (by kernel_rfl) (fun _ _ _ h => h) (Or.inl ⟨by rfl, ?_⟩) ?_ ?_
          rotate_left
          · intro w'
            go_simp
            with_reducible rfl
          rotate_left
          · simp only [Act.put, List.setIfInBounds_toArray, List.set_cons_zero, List.set_cons_succ, i64_w, i32_w]
            rfl
          refine one_ (i := 10) (N := some 8) (bs 14 2047) rfl rfl (by kernel_rfl) (by decide) (fun K hK => ?_)
          refine Lk.alloc_step (cs := #[(.int .i64 0), (.int .i64 0), (.slice none 0 0), (.int .i64 0), (.int .i64 0), (.int .i64 0)]) (t := 44) (by rfl) rfl (by first | (go_simp; done) | (go_simp; rfl)) ?_
          intro gb71 w72 hg_ hx_ hb
          have hg2_ : gb71 = w63.heap.size := hg_
          replace HBr := Aside0.mk (below_then HBr.out HBr.out.size hb)
          have hq_ : Below w63.heap.size w63 w72 := ⟨hb.os, hb.tape, hb.output, hb.size, hb.block⟩
          have HZ74 := Aside0.mk (show w63.heap.size ≤ w72.heap.size from hq_.size)
          replace HB := Aside0.mk (below_then HB.out HB.out.size hq_)
          have HA75 := Aside0.mk (show w.heap.size ≤ w72.heap.size from HB.out.size)
          replace F36 := Aside0.mk (Kd.S_below F36.out hq_)
          replace F51 := Aside0.mk (Kd.R_below F51.out hq_)
          replace F68 := Aside0.mk (Kd.R_below F68.out hq_)
          have hn_ := Aside0.mk (blk_below BK3.out hq_)
          clear hczb1_0 hfzb1_0; clear hczb1_1 hfzb1_1
          clear BK3
          have BK3 := hn_
          clear hn_
          have hn_ := Aside0.mk (blk_below BK10.out hq_)
          clear hczb8_0 hfzb8_0; clear hczb8_1 hfzb8_1; clear hczb8_2 hfzb8_2; clear hczb8_3 hfzb8_3; clear hczb8_4 hfzb8_4; clear hczb8_5 hfzb8_5
          clear BK10
          have BK10 := hn_
          clear hn_
          clear hq_
          obtain ⟨hczb1_0, hfzb1_0, hczb1_1, hfzb1_1⟩ := bk2 BK3.out
          obtain ⟨hczb8_0, hfzb8_0, hczb8_1, hfzb8_1, hczb8_2, hfzb8_2, hczb8_3, hfzb8_3, hczb8_4, hfzb8_4, hczb8_5, hfzb8_5⟩ := bk6 BK10.out
          have BK73 := Aside0.mk hx_
          have GQ77 := Aside0.mk (show w63.heap.size ≤ gb71 ∧ gb71 < w72.heap.size from ⟨Nat.le_of_eq hg2_.symm, blk_lt hx_⟩)
          clear hb hg_ hg2_ hx_
          obtain ⟨hczb76_0, hfzb76_0, hczb76_1, hfzb76_1, hczb76_2, hfzb76_2, hczb76_3, hfzb76_3, hczb76_4, hfzb76_4, hczb76_5, hfzb76_5⟩ := bk6 BK73.out
          refine hK.out _ _ ⟨bZ BK3.out 0, bZ BK3.out 1, bZ BK10.out 0, bZ BK10.out 1, bZ BK10.out 2, bZ BK10.out 3, bZ BK10.out 4, bZ BK10.out 5⟩ (fun hHeld => ?_)
          clear hK K
          refine norm_ (a' := ?_) ?_ ?_
          rotate_left
          · show Act.put _ (some 8) _ = _
            simp only [Act.put, List.setIfInBounds_toArray, List.set_cons_zero, List.set_cons_succ, i64_w, i32_w]
            rfl
          refine norm_ ?_ (hcont_ (.agg #[.slice A37 t28.length c38, .int .i64 t29], .agg #[.int .i64 t39, .int .i64 t40, .slice A52 t41.length c53, .int .i64 t42, .int .i64 t43, .int .i64 t44], A69, c70, gb71) _ ⟨HBr.out, w46, w63, by have := HZ6.out; have := HZ13.out; have := HZ18.out; have := HZ23.out; have := HZ26.out; have := HZ34.out; have := HZ49.out; have := HZ66.out; have := HZ74.out; have := GQ77.out; have := HBr.out.size; omega, by have := HZ6.out; have := HZ13.out; have := HZ18.out; have := HZ23.out; have := HZ26.out; have := HZ34.out; have := HZ49.out; have := HZ66.out; have := HZ74.out; have := GQ77.out; have := HBr.out.size; omega, by have := HZ6.out; have := HZ13.out; have := HZ18.out; have := HZ23.out; have := HZ26.out; have := HZ34.out; have := HZ49.out; have := HZ66.out; have := HZ74.out; have := GQ77.out; have := HBr.out.size; omega, F68.out, BK73.out, by have := HZ6.out; have := HZ13.out; have := HZ18.out; have := HZ23.out; have := HZ26.out; have := HZ34.out; have := HZ49.out; have := HZ66.out; have := HZ74.out; have := GQ77.out; have := HBr.out.size; omega, by have := HZ6.out; have := HZ13.out; have := HZ18.out; have := HZ23.out; have := HZ26.out; have := HZ34.out; have := HZ49.out; have := HZ66.out; have := HZ74.out; have := GQ77.out; have := HBr.out.size; omega, by have := HZ6.out; have := HZ13.out; have := HZ18.out; have := HZ23.out; have := HZ26.out; have := HZ34.out; have := HZ49.out; have := HZ66.out; have := HZ74.out; have := GQ77.out; have := HBr.out.size; omega⟩)
          simp only [putAll, Act.put, List.setIfInBounds_toArray, List.set_cons_zero, List.set_cons_succ]
        · skip
          refine Lk.alloc_step (cs := #[(.int .i64 0), (.int .i64 0), (.slice none 0 0), (.int .i64 0), (.int .i64 0), (.int .i64 0)]) (t := 44) (by rfl) rfl (by first | (go_simp; done) | (go_simp; rfl)) ?_
          intro gb78 w79 hg_ hx_ hb
          have hg2_ : gb78 = w46.heap.size := hg_
          replace HBr := Aside0.mk (below_then HBr.out HBr.out.size hb)
          have hq_ : Below w46.heap.size w46 w79 := ⟨hb.os, hb.tape, hb.output, hb.size, hb.block⟩
          have HZ81 := Aside0.mk (show w46.heap.size ≤ w79.heap.size from hq_.size)
          replace HB := Aside0.mk (below_then HB.out HB.out.size hq_)
          have HA82 := Aside0.mk (show w.heap.size ≤ w79.heap.size from HB.out.size)
          replace F36 := Aside0.mk (Kd.S_below F36.out hq_)
          replace F51 := Aside0.mk (Kd.R_below F51.out hq_)
          have hn_ := Aside0.mk (blk_below BK3.out hq_)
          clear hczb1_0 hfzb1_0; clear hczb1_1 hfzb1_1
          clear BK3
          have BK3 := hn_
          clear hn_
          have hn_ := Aside0.mk (blk_below BK10.out hq_)
          clear hczb8_0 hfzb8_0; clear hczb8_1 hfzb8_1; clear hczb8_2 hfzb8_2; clear hczb8_3 hfzb8_3; clear hczb8_4 hfzb8_4; clear hczb8_5 hfzb8_5
          clear BK10
          have BK10 := hn_
          clear hn_
          clear hq_
          obtain ⟨hczb1_0, hfzb1_0, hczb1_1, hfzb1_1⟩ := bk2 BK3.out
          obtain ⟨hczb8_0, hfzb8_0, hczb8_1, hfzb8_1, hczb8_2, hfzb8_2, hczb8_3, hfzb8_3, hczb8_4, hfzb8_4, hczb8_5, hfzb8_5⟩ := bk6 BK10.out
          have BK80 := Aside0.mk hx_
          have GQ84 := Aside0.mk (show w46.heap.size ≤ gb78 ∧ gb78 < w79.heap.size from ⟨Nat.le_of_eq hg2_.symm, blk_lt hx_⟩)
          clear hb hg_ hg2_ hx_
          obtain ⟨hczb83_0, hfzb83_0, hczb83_1, hfzb83_1, hczb83_2, hfzb83_2, hczb83_3, hfzb83_3, hczb83_4, hfzb83_4, hczb83_5, hfzb83_5⟩ := bk6 BK80.out
          refine hK.out _ _ ⟨bZ BK3.out 0, bZ BK3.out 1, bZ BK10.out 0, bZ BK10.out 1, bZ BK10.out 2, bZ BK10.out 3, bZ BK10.out 4, bZ BK10.out 5⟩ (fun hHeld => ?_)
          clear hK K
          refine norm_ (a' := ?_) ?_ ?_
          rotate_left
          · show Act.put _ (some 8) _ = _
            simp only [Act.put, List.setIfInBounds_toArray, List.set_cons_zero, List.set_cons_succ, i64_w, i32_w]
            rfl
          refine one_ (i := 5) (N := some 38) (bs 14 1087) rfl rfl (by kernel_rfl) (by decide) (fun K hK => ?_)
          refine goes_ Try.func41 (by kernel_rfl) rfl #[.agg #[.slice A37 t28.length c38, .int .i64 t29], .agg #[.int .i64 t39, .int .i64 t40, .slice A52 t41.length c53, .int .i64 t42, .int .i64 t43, .int .i64 t44], .int .i64 a2] (by rfl) rfl rfl (by (try simp only [List.map_toArray, List.map_cons, List.map_nil]); first | done | rfl | (simp only [List.length_drop, List.length_take]; rfl)) ?_
          refine (spec_CallBy.calls k _ _ t28 t29 t39 t40 _ _ t41 t42 t43 t44 a2 t54 t55 t56 t57 t58 t59 t60 t61 _ (Lk.Sr F36.out).2 (Lk.Sr F36.out).1 (Lk.Rr F51.out).2 (Lk.Rr F51.out).1 H62.out).mono ?_
          rintro e_ w93 ⟨v94, rfl, f95, hb⟩
          have hq_ : Below w79.heap.size w79 w93 := ⟨hb.os, hb.tape, hb.output, hb.size, hb.block⟩
          have HZ96 := Aside0.mk (show w79.heap.size ≤ w93.heap.size from hq_.size)
          replace HB := Aside0.mk (below_then HB.out HB.out.size hq_)
          have HA97 := Aside0.mk (show w.heap.size ≤ w93.heap.size from HB.out.size)
          replace F36 := Aside0.mk (Kd.S_below F36.out hq_)
          replace F51 := Aside0.mk (Kd.R_below F51.out hq_)
          have hn_ := Aside0.mk (blk_below BK3.out hq_)
          clear hczb1_0 hfzb1_0; clear hczb1_1 hfzb1_1
          clear BK3
          have BK3 := hn_
          clear hn_
          have hn_ := Aside0.mk (blk_below BK10.out hq_)
          clear hczb8_0 hfzb8_0; clear hczb8_1 hfzb8_1; clear hczb8_2 hfzb8_2; clear hczb8_3 hfzb8_3; clear hczb8_4 hfzb8_4; clear hczb8_5 hfzb8_5
          clear BK10
          have BK10 := hn_
          clear hn_
          have hn_ := Aside0.mk (blk_below BK80.out hq_)
          clear hczb83_0 hfzb83_0; clear hczb83_1 hfzb83_1; clear hczb83_2 hfzb83_2; clear hczb83_3 hfzb83_3; clear hczb83_4 hfzb83_4; clear hczb83_5 hfzb83_5
          clear BK80
          have BK80 := hn_
          clear hn_
          clear hq_
          obtain ⟨hczb1_0, hfzb1_0, hczb1_1, hfzb1_1⟩ := bk2 BK3.out
          obtain ⟨hczb8_0, hfzb8_0, hczb8_1, hfzb8_1, hczb8_2, hfzb8_2, hczb8_3, hfzb8_3, hczb8_4, hfzb8_4, hczb8_5, hfzb8_5⟩ := bk6 BK10.out
          obtain ⟨hczb83_0, hfzb83_0, hczb83_1, hfzb83_1, hczb83_2, hfzb83_2, hczb83_3, hfzb83_3, hczb83_4, hfzb83_4, hczb83_5, hfzb83_5⟩ := bk6 BK80.out
          replace HBr := Aside0.mk (below_then HBr.out HBr.out.size hb)
          clear hb
          refine ⟨_, rfl, ?_⟩
          have F98 := Aside0.mk (Lk.newR (b := w79.heap.size) (base := w.heap.size) (Sep := fun k_ => True) rfl f95 (HA82.out) (fun k_ hk_ => hk_))
          clear f95
          obtain ⟨A99, c100, e_⟩ := Kd.R_slice F98.out
          subst e_
          refine hK.out _ _ ⟨bZ BK3.out 0, bZ BK3.out 1, bZ BK10.out 0, bZ BK10.out 1, bZ BK10.out 2, bZ BK10.out 3, bZ BK10.out 4, bZ BK10.out 5⟩ (fun hHeld => ?_)
          clear hK K
          refine norm_ (a' := ?_) ?_ ?_
          rotate_left
          · show Act.put _ (some 38) _ = _
            simp only [Act.put, List.setIfInBounds_toArray, List.set_cons_zero, List.set_cons_succ, i64_w, i32_w]
            rfl
          refine pure_ (i := 6) (N := some 32) (v := ?_) (a' := ?_) (bs 14 1151) rfl rfl (by kernel_rfl) (fun _ _ _ h => h) (Or.inl ⟨by rfl, ?_⟩) ?_ ?_
          rotate_left
          · intro w'
            go_simp
            with_reducible rfl
          rotate_left
          · simp only [Act.put, List.setIfInBounds_toArray, List.set_cons_zero, List.set_cons_succ, i64_w, i32_w]
            rfl
          refine pure_ (i := 7) (N := some 39) (v := ?_) (a' := ?_) (bs 14 1279) rfl rfl (by kernel_rfl) (fun _ _ _ h => h) (Or.inl ⟨by rfl, ?_⟩) ?_ ?_
          rotate_left
          · intro w'
            go_simp
            with_reducible rfl
          rotate_left
          · simp only [Act.put, List.setIfInBounds_toArray, List.set_cons_zero, List.set_cons_succ, i64_w, i32_w]
            rfl
          refine pure_ (i := 8) (N := some 40) (v := ?_) (a' := ?_) (bs 14 1535) rfl rfl (by kernel_rfl) (fun _ _ _ h => h) (Or.inl ⟨by rfl, ?_⟩) ?_ ?_
          rotate_left
          · intro w'
            go_simp
            with_reducible rfl
          rotate_left
          · simp only [Act.put, List.setIfInBounds_toArray, List.set_cons_zero, List.set_cons_succ, i64_w, i32_w]
            rfl
          refine pure_ (i := 9) (N := some 41) (v := ?_) (a' := ?_) (bs 14 2047) rfl rfl (by kernel_rfl) (fun _ _ _ h => h) (Or.inl ⟨by rfl, ?_⟩) ?_ ?_
          rotate_left
          · intro w'
            go_simp
            with_reducible rfl
          rotate_left
          · simp only [Act.put, List.setIfInBounds_toArray, List.set_cons_zero, List.set_cons_succ, i64_w, i32_w]
            rfl
          refine norm_ ?_ (hcont_ (.agg #[.slice A37 t28.length c38, .int .i64 t29], .agg #[.int .i64 t39, .int .i64 t40, .slice A52 t41.length c53, .int .i64 t42, .int .i64 t43, .int .i64 t44], A99, c100, gb78) _ ⟨HBr.out, w79, w93, by have := HZ6.out; have := HZ13.out; have := HZ18.out; have := HZ23.out; have := HZ26.out; have := HZ34.out; have := HZ49.out; have := HZ81.out; have := HZ96.out; have := GQ84.out; have := HBr.out.size; omega, by have := HZ6.out; have := HZ13.out; have := HZ18.out; have := HZ23.out; have := HZ26.out; have := HZ34.out; have := HZ49.out; have := HZ81.out; have := HZ96.out; have := GQ84.out; have := HBr.out.size; omega, by have := HZ6.out; have := HZ13.out; have := HZ18.out; have := HZ23.out; have := HZ26.out; have := HZ34.out; have := HZ49.out; have := HZ81.out; have := HZ96.out; have := GQ84.out; have := HBr.out.size; omega, F98.out, BK80.out, by have := HZ6.out; have := HZ13.out; have := HZ18.out; have := HZ23.out; have := HZ26.out; have := HZ34.out; have := HZ49.out; have := HZ81.out; have := HZ96.out; have := GQ84.out; have := HBr.out.size; omega, by have := HZ6.out; have := HZ13.out; have := HZ18.out; have := HZ23.out; have := HZ26.out; have := HZ34.out; have := HZ49.out; have := HZ81.out; have := HZ96.out; have := GQ84.out; have := HBr.out.size; omega, by have := HZ6.out; have := HZ13.out; have := HZ18.out; have := HZ23.out; have := HZ26.out; have := HZ34.out; have := HZ49.out; have := HZ81.out; have := HZ96.out; have := GQ84.out; have := HBr.out.size; omega⟩)
          simp only [putAll, Act.put, List.setIfInBounds_toArray, List.set_cons_zero, List.set_cons_succ]
      · skip
        refine Lk.alloc_step (cs := #[(.int .i64 0), (.int .i64 0), (.slice none 0 0), (.int .i64 0), (.int .i64 0), (.int .i64 0)]) (t := 44) (by rfl) rfl (by first | (go_simp; done) | (go_simp; rfl)) ?_
        intro gb101 w102 hg_ hx_ hb
        have hg2_ : gb101 = w31.heap.size := hg_
        replace HBr := Aside0.mk (below_then HBr.out HBr.out.size hb)
        have hq_ : Below w31.heap.size w31 w102 := ⟨hb.os, hb.tape, hb.output, hb.size, hb.block⟩
        have HZ104 := Aside0.mk (show w31.heap.size ≤ w102.heap.size from hq_.size)
        replace HB := Aside0.mk (below_then HB.out HB.out.size hq_)
        have HA105 := Aside0.mk (show w.heap.size ≤ w102.heap.size from HB.out.size)
        replace F36 := Aside0.mk (Kd.S_below F36.out hq_)
        have hn_ := Aside0.mk (blk_below BK3.out hq_)
        clear hczb1_0 hfzb1_0; clear hczb1_1 hfzb1_1
        clear BK3
        have BK3 := hn_
        clear hn_
        have hn_ := Aside0.mk (blk_below BK10.out hq_)
        clear hczb8_0 hfzb8_0; clear hczb8_1 hfzb8_1; clear hczb8_2 hfzb8_2; clear hczb8_3 hfzb8_3; clear hczb8_4 hfzb8_4; clear hczb8_5 hfzb8_5
        clear BK10
        have BK10 := hn_
        clear hn_
        clear hq_
        obtain ⟨hczb1_0, hfzb1_0, hczb1_1, hfzb1_1⟩ := bk2 BK3.out
        obtain ⟨hczb8_0, hfzb8_0, hczb8_1, hfzb8_1, hczb8_2, hfzb8_2, hczb8_3, hfzb8_3, hczb8_4, hfzb8_4, hczb8_5, hfzb8_5⟩ := bk6 BK10.out
        have BK103 := Aside0.mk hx_
        have GQ107 := Aside0.mk (show w31.heap.size ≤ gb101 ∧ gb101 < w102.heap.size from ⟨Nat.le_of_eq hg2_.symm, blk_lt hx_⟩)
        clear hb hg_ hg2_ hx_
        obtain ⟨hczb106_0, hfzb106_0, hczb106_1, hfzb106_1, hczb106_2, hfzb106_2, hczb106_3, hfzb106_3, hczb106_4, hfzb106_4, hczb106_5, hfzb106_5⟩ := bk6 BK103.out
        refine hK.out _ _ ⟨bZ BK3.out 0, bZ BK3.out 1, bZ BK10.out 0, bZ BK10.out 1, bZ BK10.out 2, bZ BK10.out 3, bZ BK10.out 4, bZ BK10.out 5⟩ (fun hHeld => ?_)
        clear hK K
        refine norm_ (a' := ?_) ?_ ?_
        rotate_left
        · show Act.put _ (some 8) _ = _
          simp only [Act.put, List.setIfInBounds_toArray, List.set_cons_zero, List.set_cons_succ, i64_w, i32_w]
          rfl
        refine one_ (i := 3) (N := some 36) (bs 14 1055) rfl rfl (by kernel_rfl) (by decide) (fun K hK => ?_)
        refine goes_ Try.func33 (by kernel_rfl) rfl #[.agg #[.int .i64 a1_0, .int .i64 a1_1, .slice A1_2 l1_2.length c1_2, .int .i64 a1_3, .int .i64 a1_4, .int .i64 a1_5]] (by rfl) rfl rfl (by (try simp only [List.map_toArray, List.map_cons, List.map_nil]); first | done | rfl | (simp only [List.length_drop, List.length_take]; rfl)) ?_
        refine (laws_toCache.calls k a1_0 a1_1 _ _ l1_2 a1_3 a1_4 a1_5 t39 t40 t41 t42 t43 t44 _ (Kd.C_below HR1_2.out HB.out) HC1_2.out H45.out).mono ?_
        rintro e_ w114 ⟨v115, rfl, f116, hb⟩
        have hq_ : Below w102.heap.size w102 w114 := ⟨hb.os, hb.tape, hb.output, hb.size, hb.block⟩
        have HZ117 := Aside0.mk (show w102.heap.size ≤ w114.heap.size from hq_.size)
        replace HB := Aside0.mk (below_then HB.out HB.out.size hq_)
        have HA118 := Aside0.mk (show w.heap.size ≤ w114.heap.size from HB.out.size)
        replace F36 := Aside0.mk (Kd.S_below F36.out hq_)
        have hn_ := Aside0.mk (blk_below BK3.out hq_)
        clear hczb1_0 hfzb1_0; clear hczb1_1 hfzb1_1
        clear BK3
        have BK3 := hn_
        clear hn_
        have hn_ := Aside0.mk (blk_below BK10.out hq_)
        clear hczb8_0 hfzb8_0; clear hczb8_1 hfzb8_1; clear hczb8_2 hfzb8_2; clear hczb8_3 hfzb8_3; clear hczb8_4 hfzb8_4; clear hczb8_5 hfzb8_5
        clear BK10
        have BK10 := hn_
        clear hn_
        have hn_ := Aside0.mk (blk_below BK103.out hq_)
        clear hczb106_0 hfzb106_0; clear hczb106_1 hfzb106_1; clear hczb106_2 hfzb106_2; clear hczb106_3 hfzb106_3; clear hczb106_4 hfzb106_4; clear hczb106_5 hfzb106_5
        clear BK103
        have BK103 := hn_
        clear hn_
        clear hq_
        obtain ⟨hczb1_0, hfzb1_0, hczb1_1, hfzb1_1⟩ := bk2 BK3.out
        obtain ⟨hczb8_0, hfzb8_0, hczb8_1, hfzb8_1, hczb8_2, hfzb8_2, hczb8_3, hfzb8_3, hczb8_4, hfzb8_4, hczb8_5, hfzb8_5⟩ := bk6 BK10.out
        obtain ⟨hczb106_0, hfzb106_0, hczb106_1, hfzb106_1, hczb106_2, hfzb106_2, hczb106_3, hfzb106_3, hczb106_4, hfzb106_4, hczb106_5, hfzb106_5⟩ := bk6 BK103.out
        replace HBr := Aside0.mk (below_then HBr.out HBr.out.size hb)
        clear hb
        refine ⟨_, rfl, ?_⟩
        have F119 := Aside0.mk (Lk.newR (b := w102.heap.size) (base := w.heap.size) (Sep := fun k_ => True) rfl f116 (HA105.out) (fun k_ hk_ => hk_))
        clear f116
        obtain ⟨A120, c121, e_⟩ := Kd.R_slice F119.out
        subst e_
        refine hK.out _ _ ⟨bZ BK3.out 0, bZ BK3.out 1, bZ BK10.out 0, bZ BK10.out 1, bZ BK10.out 2, bZ BK10.out 3, bZ BK10.out 4, bZ BK10.out 5⟩ (fun hHeld => ?_)
        clear hK K
        refine norm_ (a' := ?_) ?_ ?_
        rotate_left
        · show Act.put _ (some 36) _ = _
          simp only [Act.put, List.setIfInBounds_toArray, List.set_cons_zero, List.set_cons_succ, i64_w, i32_w]
          rfl
        refine one_ (i := 5) (N := some 38) (bs 14 1087) rfl rfl (by kernel_rfl) (by decide) (fun K hK => ?_)
        refine goes_ Try.func41 (by kernel_rfl) rfl #[.agg #[.slice A37 t28.length c38, .int .i64 t29], .agg #[.int .i64 t39, .int .i64 t40, .slice A120 t41.length c121, .int .i64 t42, .int .i64 t43, .int .i64 t44], .int .i64 a2] (by rfl) rfl rfl (by (try simp only [List.map_toArray, List.map_cons, List.map_nil]); first | done | rfl | (simp only [List.length_drop, List.length_take]; rfl)) ?_
        refine (spec_CallBy.calls k _ _ t28 t29 t39 t40 _ _ t41 t42 t43 t44 a2 t54 t55 t56 t57 t58 t59 t60 t61 _ (Lk.Sr F36.out).2 (Lk.Sr F36.out).1 (Lk.Rr F119.out).2 (Lk.Rr F119.out).1 H62.out).mono ?_
        rintro e_ w130 ⟨v131, rfl, f132, hb⟩
        have hq_ : Below w114.heap.size w114 w130 := ⟨hb.os, hb.tape, hb.output, hb.size, hb.block⟩
        have HZ133 := Aside0.mk (show w114.heap.size ≤ w130.heap.size from hq_.size)
        replace HB := Aside0.mk (below_then HB.out HB.out.size hq_)
        have HA134 := Aside0.mk (show w.heap.size ≤ w130.heap.size from HB.out.size)
        replace F36 := Aside0.mk (Kd.S_below F36.out hq_)
        replace F119 := Aside0.mk (Kd.R_below F119.out hq_)
        have hn_ := Aside0.mk (blk_below BK3.out hq_)
        clear hczb1_0 hfzb1_0; clear hczb1_1 hfzb1_1
        clear BK3
        have BK3 := hn_
        clear hn_
        have hn_ := Aside0.mk (blk_below BK10.out hq_)
        clear hczb8_0 hfzb8_0; clear hczb8_1 hfzb8_1; clear hczb8_2 hfzb8_2; clear hczb8_3 hfzb8_3; clear hczb8_4 hfzb8_4; clear hczb8_5 hfzb8_5
        clear BK10
        have BK10 := hn_
        clear hn_
        have hn_ := Aside0.mk (blk_below BK103.out hq_)
        clear hczb106_0 hfzb106_0; clear hczb106_1 hfzb106_1; clear hczb106_2 hfzb106_2; clear hczb106_3 hfzb106_3; clear hczb106_4 hfzb106_4; clear hczb106_5 hfzb106_5
        clear BK103
        have BK103 := hn_
        clear hn_
        clear hq_
        obtain ⟨hczb1_0, hfzb1_0, hczb1_1, hfzb1_1⟩ := bk2 BK3.out
        obtain ⟨hczb8_0, hfzb8_0, hczb8_1, hfzb8_1, hczb8_2, hfzb8_2, hczb8_3, hfzb8_3, hczb8_4, hfzb8_4, hczb8_5, hfzb8_5⟩ := bk6 BK10.out
        obtain ⟨hczb106_0, hfzb106_0, hczb106_1, hfzb106_1, hczb106_2, hfzb106_2, hczb106_3, hfzb106_3, hczb106_4, hfzb106_4, hczb106_5, hfzb106_5⟩ := bk6 BK103.out
        replace HBr := Aside0.mk (below_then HBr.out HBr.out.size hb)
        clear hb
        refine ⟨_, rfl, ?_⟩
        have F135 := Aside0.mk (Lk.newR (b := w114.heap.size) (base := w.heap.size) (Sep := fun k_ => True) rfl f132 (HA118.out) (fun k_ hk_ => hk_))
        clear f132
        obtain ⟨A136, c137, e_⟩ := Kd.R_slice F135.out
        subst e_
        refine hK.out _ _ ⟨bZ BK3.out 0, bZ BK3.out 1, bZ BK10.out 0, bZ BK10.out 1, bZ BK10.out 2, bZ BK10.out 3, bZ BK10.out 4, bZ BK10.out 5⟩ (fun hHeld => ?_)
        clear hK K
        refine norm_ (a' := ?_) ?_ ?_
        rotate_left
        · show Act.put _ (some 38) _ = _
          simp only [Act.put, List.setIfInBounds_toArray, List.set_cons_zero, List.set_cons_succ, i64_w, i32_w]
          rfl
        refine pure_ (i := 6) (N := some 32) (v := ?_) (a' := ?_) (bs 14 1151) rfl rfl (by kernel_rfl) (fun _ _ _ h => h) (Or.inl ⟨by rfl, ?_⟩) ?_ ?_
        rotate_left
        · intro w'
          go_simp
          with_reducible rfl
        rotate_left
        · simp only [Act.put, List.setIfInBounds_toArray, List.set_cons_zero, List.set_cons_succ, i64_w, i32_w]
          rfl
        refine pure_ (i := 7) (N := some 39) (v := ?_) (a' := ?_) (bs 14 1279) rfl rfl (by kernel_rfl) (fun _ _ _ h => h) (Or.inl ⟨by rfl, ?_⟩) ?_ ?_
        rotate_left
        · intro w'
          go_simp
          with_reducible rfl
        rotate_left
        · simp only [Act.put, List.setIfInBounds_toArray, List.set_cons_zero, List.set_cons_succ, i64_w, i32_w]
          rfl
        refine pure_ (i := 8) (N := some 40) (v := ?_) (a' := ?_) (bs 14 1535) rfl rfl (by kernel_rfl) (fun _ _ _ h => h) (Or.inl ⟨by rfl, ?_⟩) ?_ ?_
        rotate_left
        · intro w'
          go_simp
          with_reducible rfl
        rotate_left
        · simp only [Act.put, List.setIfInBounds_toArray, List.set_cons_zero, List.set_cons_succ, i64_w, i32_w]
          rfl
        refine pure_ (i := 9) (N := some 41) (v := ?_) (a' := ?_) (bs 14 2047) rfl rfl (by kernel_rfl) (fun _ _ _ h => h) (Or.inl ⟨by rfl, ?_⟩) ?_ ?_
        rotate_left
        · intro w'
          go_simp
          with_reducible rfl
        rotate_left
        · simp only [Act.put, List.setIfInBounds_toArray, List.set_cons_zero, List.set_cons_succ, i64_w, i32_w]
          rfl
        refine norm_ ?_ (hcont_ (.agg #[.slice A37 t28.length c38, .int .i64 t29], .agg #[.int .i64 t39, .int .i64 t40, .slice A120 t41.length c121, .int .i64 t42, .int .i64 t43, .int .i64 t44], A136, c137, gb101) _ ⟨HBr.out, w114, w130, by have := HZ6.out; have := HZ13.out; have := HZ18.out; have := HZ23.out; have := HZ26.out; have := HZ34.out; have := HZ104.out; have := HZ117.out; have := HZ133.out; have := GQ107.out; have := HBr.out.size; omega, by have := HZ6.out; have := HZ13.out; have := HZ18.out; have := HZ23.out; have := HZ26.out; have := HZ34.out; have := HZ104.out; have := HZ117.out; have := HZ133.out; have := GQ107.out; have := HBr.out.size; omega, by have := HZ6.out; have := HZ13.out; have := HZ18.out; have := HZ23.out; have := HZ26.out; have := HZ34.out; have := HZ104.out; have := HZ117.out; have := HZ133.out; have := GQ107.out; have := HBr.out.size; omega, F135.out, BK103.out, by have := HZ6.out; have := HZ13.out; have := HZ18.out; have := HZ23.out; have := HZ26.out; have := HZ34.out; have := HZ104.out; have := HZ117.out; have := HZ133.out; have := GQ107.out; have := HBr.out.size; omega, by have := HZ6.out; have := HZ13.out; have := HZ18.out; have := HZ23.out; have := HZ26.out; have := HZ34.out; have := HZ104.out; have := HZ117.out; have := HZ133.out; have := GQ107.out; have := HBr.out.size; omega, by have := HZ6.out; have := HZ13.out; have := HZ18.out; have := HZ23.out; have := HZ26.out; have := HZ34.out; have := HZ104.out; have := HZ117.out; have := HZ133.out; have := GQ107.out; have := HBr.out.size; omega⟩)
        simp only [putAll, Act.put, List.setIfInBounds_toArray, List.set_cons_zero, List.set_cons_succ]
    · skip
      refine Lk.alloc_step (cs := #[(.int .i64 0), (.int .i64 0), (.slice none 0 0), (.int .i64 0), (.int .i64 0), (.int .i64 0)]) (t := 44) (by rfl) rfl (by first | (go_simp; done) | (go_simp; rfl)) ?_
      intro gb138 w139 hg_ hx_ hb
      have hg2_ : gb138 = w25.heap.size := hg_
      replace HBr := Aside0.mk (below_then HBr.out HBr.out.size hb)
      have hq_ : Below w25.heap.size w25 w139 := ⟨hb.os, hb.tape, hb.output, hb.size, hb.block⟩
      have HZ141 := Aside0.mk (show w25.heap.size ≤ w139.heap.size from hq_.size)
      replace HB := Aside0.mk (below_then HB.out HB.out.size hq_)
      have HA142 := Aside0.mk (show w.heap.size ≤ w139.heap.size from HB.out.size)
      have hn_ := Aside0.mk (blk_below BK3.out hq_)
      clear hczb1_0 hfzb1_0; clear hczb1_1 hfzb1_1
      clear BK3
      have BK3 := hn_
      clear hn_
      have hn_ := Aside0.mk (blk_below BK10.out hq_)
      clear hczb8_0 hfzb8_0; clear hczb8_1 hfzb8_1; clear hczb8_2 hfzb8_2; clear hczb8_3 hfzb8_3; clear hczb8_4 hfzb8_4; clear hczb8_5 hfzb8_5
      clear BK10
      have BK10 := hn_
      clear hn_
      clear hq_
      obtain ⟨hczb1_0, hfzb1_0, hczb1_1, hfzb1_1⟩ := bk2 BK3.out
      obtain ⟨hczb8_0, hfzb8_0, hczb8_1, hfzb8_1, hczb8_2, hfzb8_2, hczb8_3, hfzb8_3, hczb8_4, hfzb8_4, hczb8_5, hfzb8_5⟩ := bk6 BK10.out
      have BK140 := Aside0.mk hx_
      have GQ144 := Aside0.mk (show w25.heap.size ≤ gb138 ∧ gb138 < w139.heap.size from ⟨Nat.le_of_eq hg2_.symm, blk_lt hx_⟩)
      clear hb hg_ hg2_ hx_
      obtain ⟨hczb143_0, hfzb143_0, hczb143_1, hfzb143_1, hczb143_2, hfzb143_2, hczb143_3, hfzb143_3, hczb143_4, hfzb143_4, hczb143_5, hfzb143_5⟩ := bk6 BK140.out
      refine hK.out _ _ ⟨bZ BK3.out 0, bZ BK3.out 1, bZ BK10.out 0, bZ BK10.out 1, bZ BK10.out 2, bZ BK10.out 3, bZ BK10.out 4, bZ BK10.out 5⟩ (fun hHeld => ?_)
      clear hK K
      refine norm_ (a' := ?_) ?_ ?_
      rotate_left
      · show Act.put _ (some 8) _ = _
        simp only [Act.put, List.setIfInBounds_toArray, List.set_cons_zero, List.set_cons_succ, i64_w, i32_w]
        rfl
      refine one_ (i := 1) (N := some 34) (bs 14 1047) rfl rfl (by kernel_rfl) (by decide) (fun K hK => ?_)
      refine goes_ Try.func15 (by kernel_rfl) rfl #[.agg #[.slice A0_0 l0_0.length c0_0, .int .i64 a0_1]] (by rfl) rfl rfl (by (try simp only [List.map_toArray, List.map_cons, List.map_nil]); first | done | rfl | (simp only [List.length_drop, List.length_take]; rfl)) ?_
      refine (laws_toWorld.calls k _ _ l0_0 a0_1 t28 t29 _ (Kd.C_below HR0_0.out HB.out) HC0_0.out H30.out).mono ?_
      rintro e_ w147 ⟨v148, rfl, f149, hb⟩
      have hq_ : Below w139.heap.size w139 w147 := ⟨hb.os, hb.tape, hb.output, hb.size, hb.block⟩
      have HZ150 := Aside0.mk (show w139.heap.size ≤ w147.heap.size from hq_.size)
      replace HB := Aside0.mk (below_then HB.out HB.out.size hq_)
      have HA151 := Aside0.mk (show w.heap.size ≤ w147.heap.size from HB.out.size)
      have hn_ := Aside0.mk (blk_below BK3.out hq_)
      clear hczb1_0 hfzb1_0; clear hczb1_1 hfzb1_1
      clear BK3
      have BK3 := hn_
      clear hn_
      have hn_ := Aside0.mk (blk_below BK10.out hq_)
      clear hczb8_0 hfzb8_0; clear hczb8_1 hfzb8_1; clear hczb8_2 hfzb8_2; clear hczb8_3 hfzb8_3; clear hczb8_4 hfzb8_4; clear hczb8_5 hfzb8_5
      clear BK10
      have BK10 := hn_
      clear hn_
      have hn_ := Aside0.mk (blk_below BK140.out hq_)
      clear hczb143_0 hfzb143_0; clear hczb143_1 hfzb143_1; clear hczb143_2 hfzb143_2; clear hczb143_3 hfzb143_3; clear hczb143_4 hfzb143_4; clear hczb143_5 hfzb143_5
      clear BK140
      have BK140 := hn_
      clear hn_
      clear hq_
      obtain ⟨hczb1_0, hfzb1_0, hczb1_1, hfzb1_1⟩ := bk2 BK3.out
      obtain ⟨hczb8_0, hfzb8_0, hczb8_1, hfzb8_1, hczb8_2, hfzb8_2, hczb8_3, hfzb8_3, hczb8_4, hfzb8_4, hczb8_5, hfzb8_5⟩ := bk6 BK10.out
      obtain ⟨hczb143_0, hfzb143_0, hczb143_1, hfzb143_1, hczb143_2, hfzb143_2, hczb143_3, hfzb143_3, hczb143_4, hfzb143_4, hczb143_5, hfzb143_5⟩ := bk6 BK140.out
      replace HBr := Aside0.mk (below_then HBr.out HBr.out.size hb)
      clear hb
      refine ⟨_, rfl, ?_⟩
      have F152 := Aside0.mk (Lk.newS (b := w139.heap.size) (base := w.heap.size) (Sep := fun k_ => True) f149 (HA142.out) (fun k_ hk_ => hk_))
      clear f149
      obtain ⟨A153, c154, e_⟩ := Kd.S_slice F152.out
      subst e_
      refine hK.out _ _ ⟨bZ BK3.out 0, bZ BK3.out 1, bZ BK10.out 0, bZ BK10.out 1, bZ BK10.out 2, bZ BK10.out 3, bZ BK10.out 4, bZ BK10.out 5⟩ (fun hHeld => ?_)
      clear hK K
      refine norm_ (a' := ?_) ?_ ?_
      rotate_left
      · show Act.put _ (some 34) _ = _
        simp only [Act.put, List.setIfInBounds_toArray, List.set_cons_zero, List.set_cons_succ, i64_w, i32_w]
        rfl
      refine one_ (i := 3) (N := some 36) (bs 14 1055) rfl rfl (by kernel_rfl) (by decide) (fun K hK => ?_)
      refine goes_ Try.func33 (by kernel_rfl) rfl #[.agg #[.int .i64 a1_0, .int .i64 a1_1, .slice A1_2 l1_2.length c1_2, .int .i64 a1_3, .int .i64 a1_4, .int .i64 a1_5]] (by rfl) rfl rfl (by (try simp only [List.map_toArray, List.map_cons, List.map_nil]); first | done | rfl | (simp only [List.length_drop, List.length_take]; rfl)) ?_
      refine (laws_toCache.calls k a1_0 a1_1 _ _ l1_2 a1_3 a1_4 a1_5 t39 t40 t41 t42 t43 t44 _ (Kd.C_below HR1_2.out HB.out) HC1_2.out H45.out).mono ?_
      rintro e_ w161 ⟨v162, rfl, f163, hb⟩
      have hq_ : Below w147.heap.size w147 w161 := ⟨hb.os, hb.tape, hb.output, hb.size, hb.block⟩
      have HZ164 := Aside0.mk (show w147.heap.size ≤ w161.heap.size from hq_.size)
      replace HB := Aside0.mk (below_then HB.out HB.out.size hq_)
      have HA165 := Aside0.mk (show w.heap.size ≤ w161.heap.size from HB.out.size)
      replace F152 := Aside0.mk (Kd.S_below F152.out hq_)
      have hn_ := Aside0.mk (blk_below BK3.out hq_)
      clear hczb1_0 hfzb1_0; clear hczb1_1 hfzb1_1
      clear BK3
      have BK3 := hn_
      clear hn_
      have hn_ := Aside0.mk (blk_below BK10.out hq_)
      clear hczb8_0 hfzb8_0; clear hczb8_1 hfzb8_1; clear hczb8_2 hfzb8_2; clear hczb8_3 hfzb8_3; clear hczb8_4 hfzb8_4; clear hczb8_5 hfzb8_5
      clear BK10
      have BK10 := hn_
      clear hn_
      have hn_ := Aside0.mk (blk_below BK140.out hq_)
      clear hczb143_0 hfzb143_0; clear hczb143_1 hfzb143_1; clear hczb143_2 hfzb143_2; clear hczb143_3 hfzb143_3; clear hczb143_4 hfzb143_4; clear hczb143_5 hfzb143_5
      clear BK140
      have BK140 := hn_
      clear hn_
      clear hq_
      obtain ⟨hczb1_0, hfzb1_0, hczb1_1, hfzb1_1⟩ := bk2 BK3.out
      obtain ⟨hczb8_0, hfzb8_0, hczb8_1, hfzb8_1, hczb8_2, hfzb8_2, hczb8_3, hfzb8_3, hczb8_4, hfzb8_4, hczb8_5, hfzb8_5⟩ := bk6 BK10.out
      obtain ⟨hczb143_0, hfzb143_0, hczb143_1, hfzb143_1, hczb143_2, hfzb143_2, hczb143_3, hfzb143_3, hczb143_4, hfzb143_4, hczb143_5, hfzb143_5⟩ := bk6 BK140.out
      replace HBr := Aside0.mk (below_then HBr.out HBr.out.size hb)
      clear hb
      refine ⟨_, rfl, ?_⟩
      have F166 := Aside0.mk (Lk.newR (b := w147.heap.size) (base := w.heap.size) (Sep := fun k_ => True) rfl f163 (HA151.out) (fun k_ hk_ => hk_))
      clear f163
      obtain ⟨A167, c168, e_⟩ := Kd.R_slice F166.out
      subst e_
      refine hK.out _ _ ⟨bZ BK3.out 0, bZ BK3.out 1, bZ BK10.out 0, bZ BK10.out 1, bZ BK10.out 2, bZ BK10.out 3, bZ BK10.out 4, bZ BK10.out 5⟩ (fun hHeld => ?_)
      clear hK K
      refine norm_ (a' := ?_) ?_ ?_
      rotate_left
      · show Act.put _ (some 36) _ = _
        simp only [Act.put, List.setIfInBounds_toArray, List.set_cons_zero, List.set_cons_succ, i64_w, i32_w]
        rfl
      refine one_ (i := 5) (N := some 38) (bs 14 1087) rfl rfl (by kernel_rfl) (by decide) (fun K hK => ?_)
      refine goes_ Try.func41 (by kernel_rfl) rfl #[.agg #[.slice A153 t28.length c154, .int .i64 t29], .agg #[.int .i64 t39, .int .i64 t40, .slice A167 t41.length c168, .int .i64 t42, .int .i64 t43, .int .i64 t44], .int .i64 a2] (by rfl) rfl rfl (by (try simp only [List.map_toArray, List.map_cons, List.map_nil]); first | done | rfl | (simp only [List.length_drop, List.length_take]; rfl)) ?_
      refine (spec_CallBy.calls k _ _ t28 t29 t39 t40 _ _ t41 t42 t43 t44 a2 t54 t55 t56 t57 t58 t59 t60 t61 _ (Lk.Sr F152.out).2 (Lk.Sr F152.out).1 (Lk.Rr F166.out).2 (Lk.Rr F166.out).1 H62.out).mono ?_
      rintro e_ w177 ⟨v178, rfl, f179, hb⟩
      have hq_ : Below w161.heap.size w161 w177 := ⟨hb.os, hb.tape, hb.output, hb.size, hb.block⟩
      have HZ180 := Aside0.mk (show w161.heap.size ≤ w177.heap.size from hq_.size)
      replace HB := Aside0.mk (below_then HB.out HB.out.size hq_)
      have HA181 := Aside0.mk (show w.heap.size ≤ w177.heap.size from HB.out.size)
      replace F152 := Aside0.mk (Kd.S_below F152.out hq_)
      replace F166 := Aside0.mk (Kd.R_below F166.out hq_)
      have hn_ := Aside0.mk (blk_below BK3.out hq_)
      clear hczb1_0 hfzb1_0; clear hczb1_1 hfzb1_1
      clear BK3
      have BK3 := hn_
      clear hn_
      have hn_ := Aside0.mk (blk_below BK10.out hq_)
      clear hczb8_0 hfzb8_0; clear hczb8_1 hfzb8_1; clear hczb8_2 hfzb8_2; clear hczb8_3 hfzb8_3; clear hczb8_4 hfzb8_4; clear hczb8_5 hfzb8_5
      clear BK10
      have BK10 := hn_
      clear hn_
      have hn_ := Aside0.mk (blk_below BK140.out hq_)
      clear hczb143_0 hfzb143_0; clear hczb143_1 hfzb143_1; clear hczb143_2 hfzb143_2; clear hczb143_3 hfzb143_3; clear hczb143_4 hfzb143_4; clear hczb143_5 hfzb143_5
      clear BK140
      have BK140 := hn_
      clear hn_
      clear hq_
      obtain ⟨hczb1_0, hfzb1_0, hczb1_1, hfzb1_1⟩ := bk2 BK3.out
      obtain ⟨hczb8_0, hfzb8_0, hczb8_1, hfzb8_1, hczb8_2, hfzb8_2, hczb8_3, hfzb8_3, hczb8_4, hfzb8_4, hczb8_5, hfzb8_5⟩ := bk6 BK10.out
      obtain ⟨hczb143_0, hfzb143_0, hczb143_1, hfzb143_1, hczb143_2, hfzb143_2, hczb143_3, hfzb143_3, hczb143_4, hfzb143_4, hczb143_5, hfzb143_5⟩ := bk6 BK140.out
      replace HBr := Aside0.mk (below_then HBr.out HBr.out.size hb)
      clear hb
      refine ⟨_, rfl, ?_⟩
      have F182 := Aside0.mk (Lk.newR (b := w161.heap.size) (base := w.heap.size) (Sep := fun k_ => True) rfl f179 (HA165.out) (fun k_ hk_ => hk_))
      clear f179
      obtain ⟨A183, c184, e_⟩ := Kd.R_slice F182.out
      subst e_
      refine hK.out _ _ ⟨bZ BK3.out 0, bZ BK3.out 1, bZ BK10.out 0, bZ BK10.out 1, bZ BK10.out 2, bZ BK10.out 3, bZ BK10.out 4, bZ BK10.out 5⟩ (fun hHeld => ?_)
      clear hK K
      refine norm_ (a' := ?_) ?_ ?_
      rotate_left
      · show Act.put _ (some 38) _ = _
        simp only [Act.put, List.setIfInBounds_toArray, List.set_cons_zero, List.set_cons_succ, i64_w, i32_w]
        rfl
      refine pure_ (i := 6) (N := some 32) (v := ?_) (a' := ?_) (bs 14 1151) rfl rfl (by kernel_rfl) (fun _ _ _ h => h) (Or.inl ⟨by rfl, ?_⟩) ?_ ?_
      rotate_left
      · intro w'
        go_simp
        with_reducible rfl
      rotate_left
      · simp only [Act.put, List.setIfInBounds_toArray, List.set_cons_zero, List.set_cons_succ, i64_w, i32_w]
        rfl
      refine pure_ (i := 7) (N := some 39) (v := ?_) (a' := ?_) (bs 14 1279) rfl rfl (by kernel_rfl) (fun _ _ _ h => h) (Or.inl ⟨by rfl, ?_⟩) ?_ ?_
      rotate_left
      · intro w'
        go_simp
        with_reducible rfl
      rotate_left
      · simp only [Act.put, List.setIfInBounds_toArray, List.set_cons_zero, List.set_cons_succ, i64_w, i32_w]
        rfl
      refine pure_ (i := 8) (N := some 40) (v := ?_) (a' := ?_) (bs 14 1535) rfl rfl (by kernel_rfl) (fun _ _ _ h => h) (Or.inl ⟨by rfl, ?_⟩) ?_ ?_
      rotate_left
      · intro w'
        go_simp
        with_reducible rfl
      rotate_left
      · simp only [Act.put, List.setIfInBounds_toArray, List.set_cons_zero, List.set_cons_succ, i64_w, i32_w]
        rfl
      refine pure_ (i := 9) (N := some 41) (v := ?_) (a' := ?_) (bs 14 2047) rfl rfl (by kernel_rfl) (fun _ _ _ h => h) (Or.inl ⟨by rfl, ?_⟩) ?_ ?_
      rotate_left
      · intro w'
        go_simp
        with_reducible rfl
      rotate_left
      · simp only [Act.put, List.setIfInBounds_toArray, List.set_cons_zero, List.set_cons_succ, i64_w, i32_w]
        rfl
      refine norm_ ?_ (hcont_ (.agg #[.slice A153 t28.length c154, .int .i64 t29], .agg #[.int .i64 t39, .int .i64 t40, .slice A167 t41.length c168, .int .i64 t42, .int .i64 t43, .int .i64 t44], A183, c184, gb138) _ ⟨HBr.out, w161, w177, by have := HZ6.out; have := HZ13.out; have := HZ18.out; have := HZ23.out; have := HZ26.out; have := HZ141.out; have := HZ150.out; have := HZ164.out; have := HZ180.out; have := GQ144.out; have := HBr.out.size; omega, by have := HZ6.out; have := HZ13.out; have := HZ18.out; have := HZ23.out; have := HZ26.out; have := HZ141.out; have := HZ150.out; have := HZ164.out; have := HZ180.out; have := GQ144.out; have := HBr.out.size; omega, by have := HZ6.out; have := HZ13.out; have := HZ18.out; have := HZ23.out; have := HZ26.out; have := HZ141.out; have := HZ150.out; have := HZ164.out; have := HZ180.out; have := GQ144.out; have := HBr.out.size; omega, F182.out, BK140.out, by have := HZ6.out; have := HZ13.out; have := HZ18.out; have := HZ23.out; have := HZ26.out; have := HZ141.out; have := HZ150.out; have := HZ164.out; have := HZ180.out; have := GQ144.out; have := HBr.out.size; omega, by have := HZ6.out; have := HZ13.out; have := HZ18.out; have := HZ23.out; have := HZ26.out; have := HZ141.out; have := HZ150.out; have := HZ164.out; have := HZ180.out; have := GQ144.out; have := HBr.out.size; omega, by have := HZ6.out; have := HZ13.out; have := HZ18.out; have := HZ23.out; have := HZ26.out; have := HZ141.out; have := HZ150.out; have := HZ164.out; have := HZ180.out; have := GQ144.out; have := HBr.out.size; omega⟩)
      simp only [putAll, Act.put, List.setIfInBounds_toArray, List.set_cons_zero, List.set_cons_succ]
  rintro ⟨v191, v192, A189, c190, gb188⟩ w187 ⟨hb, w185, w186, z1_, z2_, z3_, f193, hx_, q1_, q2_, q3_⟩
  clear HBr
  refine norm_ (a' := ?_) ?_ ?_
  rotate_left
  · simp only [putAll, Act.put, List.setIfInBounds_toArray, List.set_cons_zero, List.set_cons_succ]
    rfl
  have hq_ : Below w25.heap.size w25 w187 := ⟨hb.os, hb.tape, hb.output, hb.size, hb.block⟩
  have HZ197 := Aside0.mk (show w25.heap.size ≤ w187.heap.size from hq_.size)
  replace HB := Aside0.mk (below_then HB.out HB.out.size hq_)
  have HA198 := Aside0.mk (show w.heap.size ≤ w187.heap.size from HB.out.size)
  have hn_ := Aside0.mk (blk_below BK3.out hq_)
  clear hczb1_0 hfzb1_0; clear hczb1_1 hfzb1_1
  clear BK3
  have BK3 := hn_
  clear hn_
  have hn_ := Aside0.mk (blk_below BK10.out hq_)
  clear hczb8_0 hfzb8_0; clear hczb8_1 hfzb8_1; clear hczb8_2 hfzb8_2; clear hczb8_3 hfzb8_3; clear hczb8_4 hfzb8_4; clear hczb8_5 hfzb8_5
  clear BK10
  have BK10 := hn_
  clear hn_
  clear hq_
  obtain ⟨hczb1_0, hfzb1_0, hczb1_1, hfzb1_1⟩ := bk2 BK3.out
  obtain ⟨hczb8_0, hfzb8_0, hczb8_1, hfzb8_1, hczb8_2, hfzb8_2, hczb8_3, hfzb8_3, hczb8_4, hfzb8_4, hczb8_5, hfzb8_5⟩ := bk6 BK10.out
  have HZ194 := Aside0.mk z1_
  have HA199 := Aside0.mk (show w.heap.size ≤ w185.heap.size by have := HA27.out; have := HZ194.out; omega)
  have HZ195 := Aside0.mk z2_
  have HA200 := Aside0.mk (show w.heap.size ≤ w186.heap.size by have := HA199.out; have := HZ195.out; omega)
  have HZ196 := Aside0.mk z3_
  have F201 := Aside0.mk f193
  have BK203 := Aside0.mk hx_
  have GQ204 := Aside0.mk (show w25.heap.size ≤ gb188 ∧ gb188 < w187.heap.size ∧ (gb188 < w185.heap.size ∨ w186.heap.size ≤ gb188) from ⟨q1_, q2_, q3_⟩)
  clear hb z1_ z2_ z3_ hx_ q1_ q2_ q3_ f193
  obtain ⟨hczb202_0, hfzb202_0, hczb202_1, hfzb202_1, hczb202_2, hfzb202_2, hczb202_3, hfzb202_3, hczb202_4, hfzb202_4, hczb202_5, hfzb202_5⟩ := bk6 BK203.out
  have hHeld : w187.cell? ⟨gb2, 0, none⟩ = some (.slice A0_0 l0_0.length c0_0) ∧ w187.cell? ⟨gb2, 1, none⟩ = some (.int .i64 a0_1) ∧ w187.cell? ⟨gb9, 0, none⟩ = some (.int .i64 a1_0) ∧ w187.cell? ⟨gb9, 1, none⟩ = some (.int .i64 a1_1) ∧ w187.cell? ⟨gb9, 2, none⟩ = some (.slice A1_2 l1_2.length c1_2) ∧ w187.cell? ⟨gb9, 3, none⟩ = some (.int .i64 a1_3) ∧ w187.cell? ⟨gb9, 4, none⟩ = some (.int .i64 a1_4) ∧ w187.cell? ⟨gb9, 5, none⟩ = some (.int .i64 a1_5) := ⟨bZ BK3.out 0, bZ BK3.out 1, bZ BK10.out 0, bZ BK10.out 1, bZ BK10.out 2, bZ BK10.out 3, bZ BK10.out 4, bZ BK10.out 5⟩
  refine one_ (i := 11) (N := none) (bs 14 4095) rfl rfl (by kernel_rfl) (by decide) (fun K hK => ?_)
  refine Lk.store_step (w1 := ((((((w187.setCell ⟨gb188, 0, none⟩ (.int .i64 t54)).setCell ⟨gb188, 1, none⟩ (.int .i64 t55)).setCell ⟨gb188, 2, none⟩ (.slice A189 t56.length c190)).setCell ⟨gb188, 3, none⟩ (.int .i64 t57)).setCell ⟨gb188, 4, none⟩ (.int .i64 t58)).setCell ⟨gb188, 5, none⟩ (.int .i64 t59))) (by rfl) rfl (by first | (go_simp; done) | (go_simp; rfl)) ?_
  intro w205 hw_
  have hx_ : w205.heap[gb188]? = some (.cells #[(.int .i64 t54), (.int .i64 t55), (.slice A189 t56.length c190), (.int .i64 t57), (.int .i64 t58), (.int .i64 t59)] 44 (0, 0)) := (by rw [hw_]; exact Lk.filled (us := [(.int .i64 t54), (.int .i64 t55), (.slice A189 t56.length c190), (.int .i64 t57), (.int .i64 t58), (.int .i64 t59)]) BK203.out rfl)
  have hk2_ : Kept w187 w205 (fun k_ => k_ = gb188) := (by rw [hw_]; exact Lk.fill_kept [(.int .i64 t54), (.int .i64 t55), (.slice A189 t56.length c190), (.int .i64 t57), (.int .i64 t58), (.int .i64 t59)] 0 w187)
  replace HB := Aside0.mk (show Below w.heap.size w w205 by rw [hw_]; exact Lk.fill_below [(.int .i64 t54), (.int .i64 t55), (.slice A189 t56.length c190), (.int .i64 t57), (.int .i64 t58), (.int .i64 t59)] 0 w w187 HB.out (by skip; have := HA27.out; have := GQ204.out; omega))
  have HZ206 := Aside0.mk (show w187.heap.size ≤ w205.heap.size from hk2_.1)
  have HA207 := Aside0.mk (show w.heap.size ≤ w205.heap.size from HB.out.size)
  have hn_ := Aside0.mk (Kd.R_kept F201.out hk2_ (fun k_ h1_ h2_ => by skip; have := HZ6.out; have := HZ13.out; have := HZ18.out; have := HZ23.out; have := HZ26.out; have := HZ194.out; have := HZ195.out; have := HZ196.out; have := HZ206.out; have := GQ204.out; have h3_ := h1_.1; omega))
  clear F201
  have F201 := hn_
  clear hn_
  clear hczb1_0 hfzb1_0; clear hczb1_1 hfzb1_1
  have hn_ := Aside0.mk (blk_kept BK3.out hk2_ (fun h_ => by skip; have := HZ13.out; have := HZ18.out; have := HZ23.out; have := HZ26.out; have := GQ204.out; have := GQ4.out; omega))
  clear BK3
  have BK3 := hn_
  clear hn_
  clear hczb8_0 hfzb8_0; clear hczb8_1 hfzb8_1; clear hczb8_2 hfzb8_2; clear hczb8_3 hfzb8_3; clear hczb8_4 hfzb8_4; clear hczb8_5 hfzb8_5
  have hn_ := Aside0.mk (blk_kept BK10.out hk2_ (fun h_ => by skip; have := HZ18.out; have := HZ23.out; have := HZ26.out; have := GQ204.out; have := GQ11.out; omega))
  clear BK10
  have BK10 := hn_
  clear hn_
  clear hczb202_0 hfzb202_0; clear hczb202_1 hfzb202_1; clear hczb202_2 hfzb202_2; clear hczb202_3 hfzb202_3; clear hczb202_4 hfzb202_4; clear hczb202_5 hfzb202_5
  clear BK203
  have BK203 := Aside0.mk hx_
  clear hk2_ hx_ hw_
  obtain ⟨hczb1_0, hfzb1_0, hczb1_1, hfzb1_1⟩ := bk2 BK3.out
  obtain ⟨hczb8_0, hfzb8_0, hczb8_1, hfzb8_1, hczb8_2, hfzb8_2, hczb8_3, hfzb8_3, hczb8_4, hfzb8_4, hczb8_5, hfzb8_5⟩ := bk6 BK10.out
  obtain ⟨hczb202_0, hfzb202_0, hczb202_1, hfzb202_1, hczb202_2, hfzb202_2, hczb202_3, hfzb202_3, hczb202_4, hfzb202_4, hczb202_5, hfzb202_5⟩ := bk6 BK203.out
  refine hK.out _ _ ⟨bZ BK3.out 0, bZ BK3.out 1, bZ BK10.out 0, bZ BK10.out 1, bZ BK10.out 2, bZ BK10.out 3, bZ BK10.out 4, bZ BK10.out 5⟩ (fun hHeld => ?_)
  clear hK K
  refine pure_ (i := 12) (N := some 9) (v := ?_) (a' := ?_) (bs 14 8191) rfl rfl (by kernel_rfl) (fun _ _ _ h => h) (Or.inl ⟨by rfl, ?_⟩) ?_ ?_
  rotate_left
  · intro w'
    go_simp
    with_reducible rfl
  rotate_left
  · simp only [Act.put, List.setIfInBounds_toArray, List.set_cons_zero, List.set_cons_succ, i64_w, i32_w]
    rfl
  refine pure_ (i := 13) (N := some 10) (v := ?_) (a' := ?_) (bs 14 16383) rfl rfl (by kernel_rfl) (fun _ _ _ h => h) (Or.inl ⟨by rfl, ?_⟩) ?_ ?_
  rotate_left
  · intro w'
    go_simp
    with_reducible rfl
  rotate_left
  · simp only [Act.put, List.setIfInBounds_toArray, List.set_cons_zero, List.set_cons_succ, i64_w, i32_w]
    rfl
  refine done_ (by kernel_rfl) ?_
  go_wp2_with fail
  refine (laws_toWorld.calls k _ _ l0_0 a0_1 t208 t209 _ (Kd.C_below HR0_0.out HB.out) HC0_0.out H210.out).mono ?_
  rintro e_ w211 ⟨v212, rfl, f213, hb⟩
  have hq_ : Below w205.heap.size w205 w211 := ⟨hb.os, hb.tape, hb.output, hb.size, hb.block⟩
  have HZ214 := Aside0.mk (show w205.heap.size ≤ w211.heap.size from hq_.size)
  replace HB := Aside0.mk (below_then HB.out HB.out.size hq_)
  have HA215 := Aside0.mk (show w.heap.size ≤ w211.heap.size from HB.out.size)
  replace F201 := Aside0.mk (Kd.R_below F201.out hq_)
  have hn_ := Aside0.mk (blk_below BK3.out hq_)
  clear hczb1_0 hfzb1_0; clear hczb1_1 hfzb1_1
  clear BK3
  have BK3 := hn_
  clear hn_
  have hn_ := Aside0.mk (blk_below BK10.out hq_)
  clear hczb8_0 hfzb8_0; clear hczb8_1 hfzb8_1; clear hczb8_2 hfzb8_2; clear hczb8_3 hfzb8_3; clear hczb8_4 hfzb8_4; clear hczb8_5 hfzb8_5
  clear BK10
  have BK10 := hn_
  clear hn_
  have hn_ := Aside0.mk (blk_below BK203.out hq_)
  clear hczb202_0 hfzb202_0; clear hczb202_1 hfzb202_1; clear hczb202_2 hfzb202_2; clear hczb202_3 hfzb202_3; clear hczb202_4 hfzb202_4; clear hczb202_5 hfzb202_5
  clear BK203
  have BK203 := hn_
  clear hn_
  clear hq_
  obtain ⟨hczb1_0, hfzb1_0, hczb1_1, hfzb1_1⟩ := bk2 BK3.out
  obtain ⟨hczb8_0, hfzb8_0, hczb8_1, hfzb8_1, hczb8_2, hfzb8_2, hczb8_3, hfzb8_3, hczb8_4, hfzb8_4, hczb8_5, hfzb8_5⟩ := bk6 BK10.out
  obtain ⟨hczb202_0, hfzb202_0, hczb202_1, hfzb202_1, hczb202_2, hfzb202_2, hczb202_3, hfzb202_3, hczb202_4, hfzb202_4, hczb202_5, hfzb202_5⟩ := bk6 BK203.out
  clear hb
  have F216 := Aside0.mk (Lk.newS (b := w205.heap.size) (base := w.heap.size) (Sep := fun k_ => True) f213 (HA207.out) (fun k_ hk_ => hk_))
  clear f213
  obtain ⟨A217, c218, e_⟩ := Kd.S_slice F216.out
  subst e_
  go_wp2_with (first | ((with_reducible refine gate_dst (N := 11) rfl ?_); refine bxe 11 #[.slice none 0 0, .int .i64 0] 29 ?_; intro gb220 hg_ w223 hx_ hb; have hg2_ : gb220 = w211.heap.size := hg_; have hq_ : Below w211.heap.size w211 w223 := ⟨hb.os, hb.tape, hb.output, hb.size, hb.block⟩; have HZ224 := Aside0.mk (show w211.heap.size ≤ w223.heap.size from hq_.size); replace HB := Aside0.mk (below_then HB.out HB.out.size hq_); have HA225 := Aside0.mk (show w.heap.size ≤ w223.heap.size from HB.out.size); replace F201 := Aside0.mk (Kd.R_below F201.out hq_); replace F216 := Aside0.mk (Kd.S_below F216.out hq_); have hn_ := Aside0.mk (blk_below BK3.out hq_); clear hczb1_0 hfzb1_0; clear hczb1_1 hfzb1_1; clear BK3; have BK3 := hn_; clear hn_; have hn_ := Aside0.mk (blk_below BK10.out hq_); clear hczb8_0 hfzb8_0; clear hczb8_1 hfzb8_1; clear hczb8_2 hfzb8_2; clear hczb8_3 hfzb8_3; clear hczb8_4 hfzb8_4; clear hczb8_5 hfzb8_5; clear BK10; have BK10 := hn_; clear hn_; have hn_ := Aside0.mk (blk_below BK203.out hq_); clear hczb202_0 hfzb202_0; clear hczb202_1 hfzb202_1; clear hczb202_2 hfzb202_2; clear hczb202_3 hfzb202_3; clear hczb202_4 hfzb202_4; clear hczb202_5 hfzb202_5; clear BK203; have BK203 := hn_; clear hn_; clear hq_; obtain ⟨hczb1_0, hfzb1_0, hczb1_1, hfzb1_1⟩ := bk2 BK3.out; obtain ⟨hczb8_0, hfzb8_0, hczb8_1, hfzb8_1, hczb8_2, hfzb8_2, hczb8_3, hfzb8_3, hczb8_4, hfzb8_4, hczb8_5, hfzb8_5⟩ := bk6 BK10.out; obtain ⟨hczb202_0, hfzb202_0, hczb202_1, hfzb202_1, hczb202_2, hfzb202_2, hczb202_3, hfzb202_3, hczb202_4, hfzb202_4, hczb202_5, hfzb202_5⟩ := bk6 BK203.out; have BK221 := Aside0.mk hx_; have GQ222 := Aside0.mk (show w211.heap.size ≤ gb220 ∧ gb220 < w223.heap.size from ⟨Nat.le_of_eq hg2_.symm, blk_lt hx_⟩); clear hb hg_ hg2_ hx_; obtain ⟨hczb219_0, hfzb219_0, hczb219_1, hfzb219_1⟩ := bk2 BK221.out) | ((with_reducible refine gate_store (t := 29) (p := 11) rfl ?_); refine store_event (t := 29) (p := 11) (v := ?vo_w226) (w1 := ((w223.setCell ⟨gb220, 0, none⟩ (.slice A217 t208.length c218)).setCell ⟨gb220, 1, none⟩ (.int .i64 t209))) ?hg ?ho ?hn ?hr ?_; (case ho => rfl); (case hg => rfl); (case hn => rfl); (case hr => first | (go_simp; done) | (go_simp; rfl)); intro w226 hw_; have hx_ : w226.heap[gb220]? = some (.cells #[(.slice A217 t208.length c218), (.int .i64 t209)] 29 (0, 0)) := (by rw [hw_]; exact Lk.filled (us := [(.slice A217 t208.length c218), (.int .i64 t209)]) BK221.out rfl); have hk2_ : Kept w223 w226 (fun k_ => k_ = gb220) := (by rw [hw_]; exact Lk.fill_kept [(.slice A217 t208.length c218), (.int .i64 t209)] 0 w223); replace HB := Aside0.mk (show Below w.heap.size w w226 by rw [hw_]; exact Lk.fill_below [(.slice A217 t208.length c218), (.int .i64 t209)] 0 w w223 HB.out (by skip; have := HA215.out; have := GQ222.out; omega)); have HZ227 := Aside0.mk (show w223.heap.size ≤ w226.heap.size from hk2_.1); have HA228 := Aside0.mk (show w.heap.size ≤ w226.heap.size from HB.out.size); have hn_ := Aside0.mk (Kd.R_kept F201.out hk2_ (fun k_ h1_ h2_ => by skip; have := HZ196.out; have := HZ206.out; have := HZ214.out; have := GQ222.out; have h3_ := h1_.1; omega)); clear F201; have F201 := hn_; clear hn_; have hn_ := Aside0.mk (Kd.S_kept F216.out hk2_ (fun k_ h1_ h2_ => by skip; have := GQ222.out; have h3_ := h1_.1; omega)); clear F216; have F216 := hn_; clear hn_; clear hczb1_0 hfzb1_0; clear hczb1_1 hfzb1_1; have hn_ := Aside0.mk (blk_kept BK3.out hk2_ (fun h_ => by skip; have := HZ13.out; have := HZ18.out; have := HZ23.out; have := HZ26.out; have := HZ194.out; have := HZ195.out; have := HZ196.out; have := HZ206.out; have := HZ214.out; have := GQ222.out; have := GQ4.out; omega)); clear BK3; have BK3 := hn_; clear hn_; clear hczb8_0 hfzb8_0; clear hczb8_1 hfzb8_1; clear hczb8_2 hfzb8_2; clear hczb8_3 hfzb8_3; clear hczb8_4 hfzb8_4; clear hczb8_5 hfzb8_5; have hn_ := Aside0.mk (blk_kept BK10.out hk2_ (fun h_ => by skip; have := HZ18.out; have := HZ23.out; have := HZ26.out; have := HZ194.out; have := HZ195.out; have := HZ196.out; have := HZ206.out; have := HZ214.out; have := GQ222.out; have := GQ11.out; omega)); clear BK10; have BK10 := hn_; clear hn_; clear hczb202_0 hfzb202_0; clear hczb202_1 hfzb202_1; clear hczb202_2 hfzb202_2; clear hczb202_3 hfzb202_3; clear hczb202_4 hfzb202_4; clear hczb202_5 hfzb202_5; have hn_ := Aside0.mk (blk_kept BK203.out hk2_ (fun h_ => by skip; have := HZ206.out; have := HZ214.out; have := GQ222.out; have := GQ204.out; omega)); clear BK203; have BK203 := hn_; clear hn_; clear hczb219_0 hfzb219_0; clear hczb219_1 hfzb219_1; clear BK221; have BK221 := Aside0.mk hx_; clear hk2_ hx_ hw_; obtain ⟨hczb1_0, hfzb1_0, hczb1_1, hfzb1_1⟩ := bk2 BK3.out; obtain ⟨hczb8_0, hfzb8_0, hczb8_1, hfzb8_1, hczb8_2, hfzb8_2, hczb8_3, hfzb8_3, hczb8_4, hfzb8_4, hczb8_5, hfzb8_5⟩ := bk6 BK10.out; obtain ⟨hczb202_0, hfzb202_0, hczb202_1, hfzb202_1, hczb202_2, hfzb202_2, hczb202_3, hfzb202_3, hczb202_4, hfzb202_4, hczb202_5, hfzb202_5⟩ := bk6 BK203.out; obtain ⟨hczb219_0, hfzb219_0, hczb219_1, hfzb219_1⟩ := bk2 BK221.out))
  refine (laws_toCache.calls k a1_0 a1_1 _ _ l1_2 a1_3 a1_4 a1_5 t229 t230 t231 t232 t233 t234 _ (Kd.C_below HR1_2.out HB.out) HC1_2.out H235.out).mono ?_
  rintro e_ w236 ⟨v237, rfl, f238, hb⟩
  have hq_ : Below w226.heap.size w226 w236 := ⟨hb.os, hb.tape, hb.output, hb.size, hb.block⟩
  have HZ239 := Aside0.mk (show w226.heap.size ≤ w236.heap.size from hq_.size)
  replace HB := Aside0.mk (below_then HB.out HB.out.size hq_)
  have HA240 := Aside0.mk (show w.heap.size ≤ w236.heap.size from HB.out.size)
  replace F201 := Aside0.mk (Kd.R_below F201.out hq_)
  replace F216 := Aside0.mk (Kd.S_below F216.out hq_)
  have hn_ := Aside0.mk (blk_below BK3.out hq_)
  clear hczb1_0 hfzb1_0; clear hczb1_1 hfzb1_1
  clear BK3
  have BK3 := hn_
  clear hn_
  have hn_ := Aside0.mk (blk_below BK10.out hq_)
  clear hczb8_0 hfzb8_0; clear hczb8_1 hfzb8_1; clear hczb8_2 hfzb8_2; clear hczb8_3 hfzb8_3; clear hczb8_4 hfzb8_4; clear hczb8_5 hfzb8_5
  clear BK10
  have BK10 := hn_
  clear hn_
  have hn_ := Aside0.mk (blk_below BK203.out hq_)
  clear hczb202_0 hfzb202_0; clear hczb202_1 hfzb202_1; clear hczb202_2 hfzb202_2; clear hczb202_3 hfzb202_3; clear hczb202_4 hfzb202_4; clear hczb202_5 hfzb202_5
  clear BK203
  have BK203 := hn_
  clear hn_
  have hn_ := Aside0.mk (blk_below BK221.out hq_)
  clear hczb219_0 hfzb219_0; clear hczb219_1 hfzb219_1
  clear BK221
  have BK221 := hn_
  clear hn_
  clear hq_
  obtain ⟨hczb1_0, hfzb1_0, hczb1_1, hfzb1_1⟩ := bk2 BK3.out
  obtain ⟨hczb8_0, hfzb8_0, hczb8_1, hfzb8_1, hczb8_2, hfzb8_2, hczb8_3, hfzb8_3, hczb8_4, hfzb8_4, hczb8_5, hfzb8_5⟩ := bk6 BK10.out
  obtain ⟨hczb202_0, hfzb202_0, hczb202_1, hfzb202_1, hczb202_2, hfzb202_2, hczb202_3, hfzb202_3, hczb202_4, hfzb202_4, hczb202_5, hfzb202_5⟩ := bk6 BK203.out
  obtain ⟨hczb219_0, hfzb219_0, hczb219_1, hfzb219_1⟩ := bk2 BK221.out
  clear hb
  have F241 := Aside0.mk (Lk.newR (b := w226.heap.size) (base := w.heap.size) (Sep := fun k_ => True) rfl f238 (HA228.out) (fun k_ hk_ => hk_))
  clear f238
  obtain ⟨A242, c243, e_⟩ := Kd.R_slice F241.out
  subst e_
  go_wp2_with (first | ((with_reducible refine gate_dst (N := 12) rfl ?_); refine bxe 12 #[.int .i64 0, .int .i64 0, .slice none 0 0, .int .i64 0, .int .i64 0, .int .i64 0] 44 ?_; intro gb245 hg_ w248 hx_ hb; have hg2_ : gb245 = w236.heap.size := hg_; have hq_ : Below w236.heap.size w236 w248 := ⟨hb.os, hb.tape, hb.output, hb.size, hb.block⟩; have HZ249 := Aside0.mk (show w236.heap.size ≤ w248.heap.size from hq_.size); replace HB := Aside0.mk (below_then HB.out HB.out.size hq_); have HA250 := Aside0.mk (show w.heap.size ≤ w248.heap.size from HB.out.size); replace F201 := Aside0.mk (Kd.R_below F201.out hq_); replace F216 := Aside0.mk (Kd.S_below F216.out hq_); replace F241 := Aside0.mk (Kd.R_below F241.out hq_); have hn_ := Aside0.mk (blk_below BK3.out hq_); clear hczb1_0 hfzb1_0; clear hczb1_1 hfzb1_1; clear BK3; have BK3 := hn_; clear hn_; have hn_ := Aside0.mk (blk_below BK10.out hq_); clear hczb8_0 hfzb8_0; clear hczb8_1 hfzb8_1; clear hczb8_2 hfzb8_2; clear hczb8_3 hfzb8_3; clear hczb8_4 hfzb8_4; clear hczb8_5 hfzb8_5; clear BK10; have BK10 := hn_; clear hn_; have hn_ := Aside0.mk (blk_below BK203.out hq_); clear hczb202_0 hfzb202_0; clear hczb202_1 hfzb202_1; clear hczb202_2 hfzb202_2; clear hczb202_3 hfzb202_3; clear hczb202_4 hfzb202_4; clear hczb202_5 hfzb202_5; clear BK203; have BK203 := hn_; clear hn_; have hn_ := Aside0.mk (blk_below BK221.out hq_); clear hczb219_0 hfzb219_0; clear hczb219_1 hfzb219_1; clear BK221; have BK221 := hn_; clear hn_; clear hq_; obtain ⟨hczb1_0, hfzb1_0, hczb1_1, hfzb1_1⟩ := bk2 BK3.out; obtain ⟨hczb8_0, hfzb8_0, hczb8_1, hfzb8_1, hczb8_2, hfzb8_2, hczb8_3, hfzb8_3, hczb8_4, hfzb8_4, hczb8_5, hfzb8_5⟩ := bk6 BK10.out; obtain ⟨hczb202_0, hfzb202_0, hczb202_1, hfzb202_1, hczb202_2, hfzb202_2, hczb202_3, hfzb202_3, hczb202_4, hfzb202_4, hczb202_5, hfzb202_5⟩ := bk6 BK203.out; obtain ⟨hczb219_0, hfzb219_0, hczb219_1, hfzb219_1⟩ := bk2 BK221.out; have BK246 := Aside0.mk hx_; have GQ247 := Aside0.mk (show w236.heap.size ≤ gb245 ∧ gb245 < w248.heap.size from ⟨Nat.le_of_eq hg2_.symm, blk_lt hx_⟩); clear hb hg_ hg2_ hx_; obtain ⟨hczb244_0, hfzb244_0, hczb244_1, hfzb244_1, hczb244_2, hfzb244_2, hczb244_3, hfzb244_3, hczb244_4, hfzb244_4, hczb244_5, hfzb244_5⟩ := bk6 BK246.out) | ((with_reducible refine gate_store (t := 44) (p := 12) rfl ?_); refine store_event (t := 44) (p := 12) (v := ?vo_w251) (w1 := ((((((w248.setCell ⟨gb245, 0, none⟩ (.int .i64 t229)).setCell ⟨gb245, 1, none⟩ (.int .i64 t230)).setCell ⟨gb245, 2, none⟩ (.slice A242 t231.length c243)).setCell ⟨gb245, 3, none⟩ (.int .i64 t232)).setCell ⟨gb245, 4, none⟩ (.int .i64 t233)).setCell ⟨gb245, 5, none⟩ (.int .i64 t234))) ?hg ?ho ?hn ?hr ?_; (case ho => rfl); (case hg => rfl); (case hn => rfl); (case hr => first | (go_simp; done) | (go_simp; rfl)); intro w251 hw_; have hx_ : w251.heap[gb245]? = some (.cells #[(.int .i64 t229), (.int .i64 t230), (.slice A242 t231.length c243), (.int .i64 t232), (.int .i64 t233), (.int .i64 t234)] 44 (0, 0)) := (by rw [hw_]; exact Lk.filled (us := [(.int .i64 t229), (.int .i64 t230), (.slice A242 t231.length c243), (.int .i64 t232), (.int .i64 t233), (.int .i64 t234)]) BK246.out rfl); have hk2_ : Kept w248 w251 (fun k_ => k_ = gb245) := (by rw [hw_]; exact Lk.fill_kept [(.int .i64 t229), (.int .i64 t230), (.slice A242 t231.length c243), (.int .i64 t232), (.int .i64 t233), (.int .i64 t234)] 0 w248); replace HB := Aside0.mk (show Below w.heap.size w w251 by rw [hw_]; exact Lk.fill_below [(.int .i64 t229), (.int .i64 t230), (.slice A242 t231.length c243), (.int .i64 t232), (.int .i64 t233), (.int .i64 t234)] 0 w w248 HB.out (by skip; have := HA240.out; have := GQ247.out; omega)); have HZ252 := Aside0.mk (show w248.heap.size ≤ w251.heap.size from hk2_.1); have HA253 := Aside0.mk (show w.heap.size ≤ w251.heap.size from HB.out.size); have hn_ := Aside0.mk (Kd.R_kept F201.out hk2_ (fun k_ h1_ h2_ => by skip; have := HZ196.out; have := HZ206.out; have := HZ214.out; have := HZ224.out; have := HZ227.out; have := HZ239.out; have := GQ247.out; have h3_ := h1_.1; omega)); clear F201; have F201 := hn_; clear hn_; have hn_ := Aside0.mk (Kd.S_kept F216.out hk2_ (fun k_ h1_ h2_ => by skip; have := HZ224.out; have := HZ227.out; have := HZ239.out; have := GQ247.out; have h3_ := h1_.1; omega)); clear F216; have F216 := hn_; clear hn_; have hn_ := Aside0.mk (Kd.R_kept F241.out hk2_ (fun k_ h1_ h2_ => by skip; have := GQ247.out; have h3_ := h1_.1; omega)); clear F241; have F241 := hn_; clear hn_; clear hczb1_0 hfzb1_0; clear hczb1_1 hfzb1_1; have hn_ := Aside0.mk (blk_kept BK3.out hk2_ (fun h_ => by skip; have := HZ13.out; have := HZ18.out; have := HZ23.out; have := HZ26.out; have := HZ194.out; have := HZ195.out; have := HZ196.out; have := HZ206.out; have := HZ214.out; have := HZ224.out; have := HZ227.out; have := HZ239.out; have := GQ247.out; have := GQ4.out; omega)); clear BK3; have BK3 := hn_; clear hn_; clear hczb8_0 hfzb8_0; clear hczb8_1 hfzb8_1; clear hczb8_2 hfzb8_2; clear hczb8_3 hfzb8_3; clear hczb8_4 hfzb8_4; clear hczb8_5 hfzb8_5; have hn_ := Aside0.mk (blk_kept BK10.out hk2_ (fun h_ => by skip; have := HZ18.out; have := HZ23.out; have := HZ26.out; have := HZ194.out; have := HZ195.out; have := HZ196.out; have := HZ206.out; have := HZ214.out; have := HZ224.out; have := HZ227.out; have := HZ239.out; have := GQ247.out; have := GQ11.out; omega)); clear BK10; have BK10 := hn_; clear hn_; clear hczb202_0 hfzb202_0; clear hczb202_1 hfzb202_1; clear hczb202_2 hfzb202_2; clear hczb202_3 hfzb202_3; clear hczb202_4 hfzb202_4; clear hczb202_5 hfzb202_5; have hn_ := Aside0.mk (blk_kept BK203.out hk2_ (fun h_ => by skip; have := HZ206.out; have := HZ214.out; have := HZ224.out; have := HZ227.out; have := HZ239.out; have := GQ247.out; have := GQ204.out; omega)); clear BK203; have BK203 := hn_; clear hn_; clear hczb219_0 hfzb219_0; clear hczb219_1 hfzb219_1; have hn_ := Aside0.mk (blk_kept BK221.out hk2_ (fun h_ => by skip; have := HZ227.out; have := HZ239.out; have := GQ247.out; have := GQ222.out; omega)); clear BK221; have BK221 := hn_; clear hn_; clear hczb244_0 hfzb244_0; clear hczb244_1 hfzb244_1; clear hczb244_2 hfzb244_2; clear hczb244_3 hfzb244_3; clear hczb244_4 hfzb244_4; clear hczb244_5 hfzb244_5; clear BK246; have BK246 := Aside0.mk hx_; clear hk2_ hx_ hw_; obtain ⟨hczb1_0, hfzb1_0, hczb1_1, hfzb1_1⟩ := bk2 BK3.out; obtain ⟨hczb8_0, hfzb8_0, hczb8_1, hfzb8_1, hczb8_2, hfzb8_2, hczb8_3, hfzb8_3, hczb8_4, hfzb8_4, hczb8_5, hfzb8_5⟩ := bk6 BK10.out; obtain ⟨hczb202_0, hfzb202_0, hczb202_1, hfzb202_1, hczb202_2, hfzb202_2, hczb202_3, hfzb202_3, hczb202_4, hfzb202_4, hczb202_5, hfzb202_5⟩ := bk6 BK203.out; obtain ⟨hczb219_0, hfzb219_0, hczb219_1, hfzb219_1⟩ := bk2 BK221.out; obtain ⟨hczb244_0, hfzb244_0, hczb244_1, hfzb244_1, hczb244_2, hfzb244_2, hczb244_3, hfzb244_3, hczb244_4, hfzb244_4, hczb244_5, hfzb244_5⟩ := bk6 BK246.out))
  refine (impl_CallBy.calls k _ _ t208 t209 t229 t230 _ _ t231 t232 t233 t234 a2 t254 t255 t256 t257 t258 t259 t60 t61 _ (Lk.Sr F216.out).2 (Lk.Sr F216.out).1 (Lk.Rr F241.out).2 (Lk.Rr F241.out).1 H262.out).mono ?_
  rintro e_ w263 ⟨v264, rfl, f265, hb⟩
  have hq_ : Below w251.heap.size w251 w263 := ⟨hb.os, hb.tape, hb.output, hb.size, hb.block⟩
  have HZ266 := Aside0.mk (show w251.heap.size ≤ w263.heap.size from hq_.size)
  replace HB := Aside0.mk (below_then HB.out HB.out.size hq_)
  have HA267 := Aside0.mk (show w.heap.size ≤ w263.heap.size from HB.out.size)
  replace F201 := Aside0.mk (Kd.R_below F201.out hq_)
  replace F216 := Aside0.mk (Kd.S_below F216.out hq_)
  replace F241 := Aside0.mk (Kd.R_below F241.out hq_)
  have hn_ := Aside0.mk (blk_below BK3.out hq_)
  clear hczb1_0 hfzb1_0; clear hczb1_1 hfzb1_1
  clear BK3
  have BK3 := hn_
  clear hn_
  have hn_ := Aside0.mk (blk_below BK10.out hq_)
  clear hczb8_0 hfzb8_0; clear hczb8_1 hfzb8_1; clear hczb8_2 hfzb8_2; clear hczb8_3 hfzb8_3; clear hczb8_4 hfzb8_4; clear hczb8_5 hfzb8_5
  clear BK10
  have BK10 := hn_
  clear hn_
  have hn_ := Aside0.mk (blk_below BK203.out hq_)
  clear hczb202_0 hfzb202_0; clear hczb202_1 hfzb202_1; clear hczb202_2 hfzb202_2; clear hczb202_3 hfzb202_3; clear hczb202_4 hfzb202_4; clear hczb202_5 hfzb202_5
  clear BK203
  have BK203 := hn_
  clear hn_
  have hn_ := Aside0.mk (blk_below BK221.out hq_)
  clear hczb219_0 hfzb219_0; clear hczb219_1 hfzb219_1
  clear BK221
  have BK221 := hn_
  clear hn_
  have hn_ := Aside0.mk (blk_below BK246.out hq_)
  clear hczb244_0 hfzb244_0; clear hczb244_1 hfzb244_1; clear hczb244_2 hfzb244_2; clear hczb244_3 hfzb244_3; clear hczb244_4 hfzb244_4; clear hczb244_5 hfzb244_5
  clear BK246
  have BK246 := hn_
  clear hn_
  clear hq_
  obtain ⟨hczb1_0, hfzb1_0, hczb1_1, hfzb1_1⟩ := bk2 BK3.out
  obtain ⟨hczb8_0, hfzb8_0, hczb8_1, hfzb8_1, hczb8_2, hfzb8_2, hczb8_3, hfzb8_3, hczb8_4, hfzb8_4, hczb8_5, hfzb8_5⟩ := bk6 BK10.out
  obtain ⟨hczb202_0, hfzb202_0, hczb202_1, hfzb202_1, hczb202_2, hfzb202_2, hczb202_3, hfzb202_3, hczb202_4, hfzb202_4, hczb202_5, hfzb202_5⟩ := bk6 BK203.out
  obtain ⟨hczb219_0, hfzb219_0, hczb219_1, hfzb219_1⟩ := bk2 BK221.out
  obtain ⟨hczb244_0, hfzb244_0, hczb244_1, hfzb244_1, hczb244_2, hfzb244_2, hczb244_3, hfzb244_3, hczb244_4, hfzb244_4, hczb244_5, hfzb244_5⟩ := bk6 BK246.out
  clear hb
  have F268 := Aside0.mk (Lk.newR (b := w251.heap.size) (base := w.heap.size) (Sep := fun k_ => True) rfl f265 (HA253.out) (fun k_ hk_ => hk_))
  clear f265
  obtain ⟨A269, c270, e_⟩ := Kd.R_slice F268.out
  subst e_
  go_wp2_with (first | ((with_reducible refine gate_dst (N := 13) rfl ?_); refine bxe 13 #[.int .i64 0, .int .i64 0, .slice none 0 0, .int .i64 0, .int .i64 0, .int .i64 0] 44 ?_; intro gb272 hg_ w275 hx_ hb; have hg2_ : gb272 = w263.heap.size := hg_; have hq_ : Below w263.heap.size w263 w275 := ⟨hb.os, hb.tape, hb.output, hb.size, hb.block⟩; have HZ276 := Aside0.mk (show w263.heap.size ≤ w275.heap.size from hq_.size); replace HB := Aside0.mk (below_then HB.out HB.out.size hq_); have HA277 := Aside0.mk (show w.heap.size ≤ w275.heap.size from HB.out.size); replace F201 := Aside0.mk (Kd.R_below F201.out hq_); replace F216 := Aside0.mk (Kd.S_below F216.out hq_); replace F241 := Aside0.mk (Kd.R_below F241.out hq_); replace F268 := Aside0.mk (Kd.R_below F268.out hq_); have hn_ := Aside0.mk (blk_below BK3.out hq_); clear hczb1_0 hfzb1_0; clear hczb1_1 hfzb1_1; clear BK3; have BK3 := hn_; clear hn_; have hn_ := Aside0.mk (blk_below BK10.out hq_); clear hczb8_0 hfzb8_0; clear hczb8_1 hfzb8_1; clear hczb8_2 hfzb8_2; clear hczb8_3 hfzb8_3; clear hczb8_4 hfzb8_4; clear hczb8_5 hfzb8_5; clear BK10; have BK10 := hn_; clear hn_; have hn_ := Aside0.mk (blk_below BK203.out hq_); clear hczb202_0 hfzb202_0; clear hczb202_1 hfzb202_1; clear hczb202_2 hfzb202_2; clear hczb202_3 hfzb202_3; clear hczb202_4 hfzb202_4; clear hczb202_5 hfzb202_5; clear BK203; have BK203 := hn_; clear hn_; have hn_ := Aside0.mk (blk_below BK221.out hq_); clear hczb219_0 hfzb219_0; clear hczb219_1 hfzb219_1; clear BK221; have BK221 := hn_; clear hn_; have hn_ := Aside0.mk (blk_below BK246.out hq_); clear hczb244_0 hfzb244_0; clear hczb244_1 hfzb244_1; clear hczb244_2 hfzb244_2; clear hczb244_3 hfzb244_3; clear hczb244_4 hfzb244_4; clear hczb244_5 hfzb244_5; clear BK246; have BK246 := hn_; clear hn_; clear hq_; obtain ⟨hczb1_0, hfzb1_0, hczb1_1, hfzb1_1⟩ := bk2 BK3.out; obtain ⟨hczb8_0, hfzb8_0, hczb8_1, hfzb8_1, hczb8_2, hfzb8_2, hczb8_3, hfzb8_3, hczb8_4, hfzb8_4, hczb8_5, hfzb8_5⟩ := bk6 BK10.out; obtain ⟨hczb202_0, hfzb202_0, hczb202_1, hfzb202_1, hczb202_2, hfzb202_2, hczb202_3, hfzb202_3, hczb202_4, hfzb202_4, hczb202_5, hfzb202_5⟩ := bk6 BK203.out; obtain ⟨hczb219_0, hfzb219_0, hczb219_1, hfzb219_1⟩ := bk2 BK221.out; obtain ⟨hczb244_0, hfzb244_0, hczb244_1, hfzb244_1, hczb244_2, hfzb244_2, hczb244_3, hfzb244_3, hczb244_4, hfzb244_4, hczb244_5, hfzb244_5⟩ := bk6 BK246.out; have BK273 := Aside0.mk hx_; have GQ274 := Aside0.mk (show w263.heap.size ≤ gb272 ∧ gb272 < w275.heap.size from ⟨Nat.le_of_eq hg2_.symm, blk_lt hx_⟩); clear hb hg_ hg2_ hx_; obtain ⟨hczb271_0, hfzb271_0, hczb271_1, hfzb271_1, hczb271_2, hfzb271_2, hczb271_3, hfzb271_3, hczb271_4, hfzb271_4, hczb271_5, hfzb271_5⟩ := bk6 BK273.out) | ((with_reducible refine gate_store (t := 44) (p := 13) rfl ?_); refine store_event (t := 44) (p := 13) (v := ?vo_w278) (w1 := ((((((w275.setCell ⟨gb272, 0, none⟩ (.int .i64 t254)).setCell ⟨gb272, 1, none⟩ (.int .i64 t255)).setCell ⟨gb272, 2, none⟩ (.slice A269 t256.length c270)).setCell ⟨gb272, 3, none⟩ (.int .i64 t257)).setCell ⟨gb272, 4, none⟩ (.int .i64 t258)).setCell ⟨gb272, 5, none⟩ (.int .i64 t259))) ?hg ?ho ?hn ?hr ?_; (case ho => rfl); (case hg => rfl); (case hn => rfl); (case hr => first | (go_simp; done) | (go_simp; rfl)); intro w278 hw_; have hx_ : w278.heap[gb272]? = some (.cells #[(.int .i64 t254), (.int .i64 t255), (.slice A269 t256.length c270), (.int .i64 t257), (.int .i64 t258), (.int .i64 t259)] 44 (0, 0)) := (by rw [hw_]; exact Lk.filled (us := [(.int .i64 t254), (.int .i64 t255), (.slice A269 t256.length c270), (.int .i64 t257), (.int .i64 t258), (.int .i64 t259)]) BK273.out rfl); have hk2_ : Kept w275 w278 (fun k_ => k_ = gb272) := (by rw [hw_]; exact Lk.fill_kept [(.int .i64 t254), (.int .i64 t255), (.slice A269 t256.length c270), (.int .i64 t257), (.int .i64 t258), (.int .i64 t259)] 0 w275); replace HB := Aside0.mk (show Below w.heap.size w w278 by rw [hw_]; exact Lk.fill_below [(.int .i64 t254), (.int .i64 t255), (.slice A269 t256.length c270), (.int .i64 t257), (.int .i64 t258), (.int .i64 t259)] 0 w w275 HB.out (by skip; have := HA267.out; have := GQ274.out; omega)); have HZ279 := Aside0.mk (show w275.heap.size ≤ w278.heap.size from hk2_.1); have HA280 := Aside0.mk (show w.heap.size ≤ w278.heap.size from HB.out.size); have hn_ := Aside0.mk (Kd.R_kept F201.out hk2_ (fun k_ h1_ h2_ => by skip; have := HZ196.out; have := HZ206.out; have := HZ214.out; have := HZ224.out; have := HZ227.out; have := HZ239.out; have := HZ249.out; have := HZ252.out; have := HZ266.out; have := GQ274.out; have h3_ := h1_.1; omega)); clear F201; have F201 := hn_; clear hn_; have hn_ := Aside0.mk (Kd.S_kept F216.out hk2_ (fun k_ h1_ h2_ => by skip; have := HZ224.out; have := HZ227.out; have := HZ239.out; have := HZ249.out; have := HZ252.out; have := HZ266.out; have := GQ274.out; have h3_ := h1_.1; omega)); clear F216; have F216 := hn_; clear hn_; have hn_ := Aside0.mk (Kd.R_kept F241.out hk2_ (fun k_ h1_ h2_ => by skip; have := HZ249.out; have := HZ252.out; have := HZ266.out; have := GQ274.out; have h3_ := h1_.1; omega)); clear F241; have F241 := hn_; clear hn_; have hn_ := Aside0.mk (Kd.R_kept F268.out hk2_ (fun k_ h1_ h2_ => by skip; have := GQ274.out; have h3_ := h1_.1; omega)); clear F268; have F268 := hn_; clear hn_; clear hczb1_0 hfzb1_0; clear hczb1_1 hfzb1_1; have hn_ := Aside0.mk (blk_kept BK3.out hk2_ (fun h_ => by skip; have := HZ13.out; have := HZ18.out; have := HZ23.out; have := HZ26.out; have := HZ194.out; have := HZ195.out; have := HZ196.out; have := HZ206.out; have := HZ214.out; have := HZ224.out; have := HZ227.out; have := HZ239.out; have := HZ249.out; have := HZ252.out; have := HZ266.out; have := GQ274.out; have := GQ4.out; omega)); clear BK3; have BK3 := hn_; clear hn_; clear hczb8_0 hfzb8_0; clear hczb8_1 hfzb8_1; clear hczb8_2 hfzb8_2; clear hczb8_3 hfzb8_3; clear hczb8_4 hfzb8_4; clear hczb8_5 hfzb8_5; have hn_ := Aside0.mk (blk_kept BK10.out hk2_ (fun h_ => by skip; have := HZ18.out; have := HZ23.out; have := HZ26.out; have := HZ194.out; have := HZ195.out; have := HZ196.out; have := HZ206.out; have := HZ214.out; have := HZ224.out; have := HZ227.out; have := HZ239.out; have := HZ249.out; have := HZ252.out; have := HZ266.out; have := GQ274.out; have := GQ11.out; omega)); clear BK10; have BK10 := hn_; clear hn_; clear hczb202_0 hfzb202_0; clear hczb202_1 hfzb202_1; clear hczb202_2 hfzb202_2; clear hczb202_3 hfzb202_3; clear hczb202_4 hfzb202_4; clear hczb202_5 hfzb202_5; have hn_ := Aside0.mk (blk_kept BK203.out hk2_ (fun h_ => by skip; have := HZ206.out; have := HZ214.out; have := HZ224.out; have := HZ227.out; have := HZ239.out; have := HZ249.out; have := HZ252.out; have := HZ266.out; have := GQ274.out; have := GQ204.out; omega)); clear BK203; have BK203 := hn_; clear hn_; clear hczb219_0 hfzb219_0; clear hczb219_1 hfzb219_1; have hn_ := Aside0.mk (blk_kept BK221.out hk2_ (fun h_ => by skip; have := HZ227.out; have := HZ239.out; have := HZ249.out; have := HZ252.out; have := HZ266.out; have := GQ274.out; have := GQ222.out; omega)); clear BK221; have BK221 := hn_; clear hn_; clear hczb244_0 hfzb244_0; clear hczb244_1 hfzb244_1; clear hczb244_2 hfzb244_2; clear hczb244_3 hfzb244_3; clear hczb244_4 hfzb244_4; clear hczb244_5 hfzb244_5; have hn_ := Aside0.mk (blk_kept BK246.out hk2_ (fun h_ => by skip; have := HZ252.out; have := HZ266.out; have := GQ274.out; have := GQ247.out; omega)); clear BK246; have BK246 := hn_; clear hn_; clear hczb271_0 hfzb271_0; clear hczb271_1 hfzb271_1; clear hczb271_2 hfzb271_2; clear hczb271_3 hfzb271_3; clear hczb271_4 hfzb271_4; clear hczb271_5 hfzb271_5; clear BK273; have BK273 := Aside0.mk hx_; clear hk2_ hx_ hw_; obtain ⟨hczb1_0, hfzb1_0, hczb1_1, hfzb1_1⟩ := bk2 BK3.out; obtain ⟨hczb8_0, hfzb8_0, hczb8_1, hfzb8_1, hczb8_2, hfzb8_2, hczb8_3, hfzb8_3, hczb8_4, hfzb8_4, hczb8_5, hfzb8_5⟩ := bk6 BK10.out; obtain ⟨hczb202_0, hfzb202_0, hczb202_1, hfzb202_1, hczb202_2, hfzb202_2, hczb202_3, hfzb202_3, hczb202_4, hfzb202_4, hczb202_5, hfzb202_5⟩ := bk6 BK203.out; obtain ⟨hczb219_0, hfzb219_0, hczb219_1, hfzb219_1⟩ := bk2 BK221.out; obtain ⟨hczb244_0, hfzb244_0, hczb244_1, hfzb244_1, hczb244_2, hfzb244_2, hczb244_3, hfzb244_3, hczb244_4, hfzb244_4, hczb244_5, hfzb244_5⟩ := bk6 BK246.out; obtain ⟨hczb271_0, hfzb271_0, hczb271_1, hfzb271_1, hczb271_2, hfzb271_2, hczb271_3, hfzb271_3, hczb271_4, hfzb271_4, hczb271_5, hfzb271_5⟩ := bk6 BK273.out))
  refine (laws_eqCache.calls k t254 t255 _ _ t256 t257 t258 t259 t54 t55 _ _ t56 t57 t58 t59 true _ (Lk.Rr F268.out).2 (Lk.Rr F268.out).1 (Lk.Rr F201.out).2 (Lk.Rr F201.out).1 H282.out).mono ?_
  rintro e_ w283 ⟨rfl, hb⟩
  have hq_ : Below w278.heap.size w278 w283 := ⟨hb.os, hb.tape, hb.output, hb.size, hb.block⟩
  have HZ284 := Aside0.mk (show w278.heap.size ≤ w283.heap.size from hq_.size)
  replace HB := Aside0.mk (below_then HB.out HB.out.size hq_)
  have HA285 := Aside0.mk (show w.heap.size ≤ w283.heap.size from HB.out.size)
  replace F201 := Aside0.mk (Kd.R_below F201.out hq_)
  replace F216 := Aside0.mk (Kd.S_below F216.out hq_)
  replace F241 := Aside0.mk (Kd.R_below F241.out hq_)
  replace F268 := Aside0.mk (Kd.R_below F268.out hq_)
  have hn_ := Aside0.mk (blk_below BK3.out hq_)
  clear hczb1_0 hfzb1_0; clear hczb1_1 hfzb1_1
  clear BK3
  have BK3 := hn_
  clear hn_
  have hn_ := Aside0.mk (blk_below BK10.out hq_)
  clear hczb8_0 hfzb8_0; clear hczb8_1 hfzb8_1; clear hczb8_2 hfzb8_2; clear hczb8_3 hfzb8_3; clear hczb8_4 hfzb8_4; clear hczb8_5 hfzb8_5
  clear BK10
  have BK10 := hn_
  clear hn_
  have hn_ := Aside0.mk (blk_below BK203.out hq_)
  clear hczb202_0 hfzb202_0; clear hczb202_1 hfzb202_1; clear hczb202_2 hfzb202_2; clear hczb202_3 hfzb202_3; clear hczb202_4 hfzb202_4; clear hczb202_5 hfzb202_5
  clear BK203
  have BK203 := hn_
  clear hn_
  have hn_ := Aside0.mk (blk_below BK221.out hq_)
  clear hczb219_0 hfzb219_0; clear hczb219_1 hfzb219_1
  clear BK221
  have BK221 := hn_
  clear hn_
  have hn_ := Aside0.mk (blk_below BK246.out hq_)
  clear hczb244_0 hfzb244_0; clear hczb244_1 hfzb244_1; clear hczb244_2 hfzb244_2; clear hczb244_3 hfzb244_3; clear hczb244_4 hfzb244_4; clear hczb244_5 hfzb244_5
  clear BK246
  have BK246 := hn_
  clear hn_
  have hn_ := Aside0.mk (blk_below BK273.out hq_)
  clear hczb271_0 hfzb271_0; clear hczb271_1 hfzb271_1; clear hczb271_2 hfzb271_2; clear hczb271_3 hfzb271_3; clear hczb271_4 hfzb271_4; clear hczb271_5 hfzb271_5
  clear BK273
  have BK273 := hn_
  clear hn_
  clear hq_
  obtain ⟨hczb1_0, hfzb1_0, hczb1_1, hfzb1_1⟩ := bk2 BK3.out
  obtain ⟨hczb8_0, hfzb8_0, hczb8_1, hfzb8_1, hczb8_2, hfzb8_2, hczb8_3, hfzb8_3, hczb8_4, hfzb8_4, hczb8_5, hfzb8_5⟩ := bk6 BK10.out
  obtain ⟨hczb202_0, hfzb202_0, hczb202_1, hfzb202_1, hczb202_2, hfzb202_2, hczb202_3, hfzb202_3, hczb202_4, hfzb202_4, hczb202_5, hfzb202_5⟩ := bk6 BK203.out
  obtain ⟨hczb219_0, hfzb219_0, hczb219_1, hfzb219_1⟩ := bk2 BK221.out
  obtain ⟨hczb244_0, hfzb244_0, hczb244_1, hfzb244_1, hczb244_2, hfzb244_2, hczb244_3, hfzb244_3, hczb244_4, hfzb244_4, hczb244_5, hfzb244_5⟩ := bk6 BK246.out
  obtain ⟨hczb271_0, hfzb271_0, hczb271_1, hfzb271_1, hczb271_2, hfzb271_2, hczb271_3, hfzb271_3, hczb271_4, hfzb271_4, hczb271_5, hfzb271_5⟩ := bk6 BK273.out
  clear hb
  go_wp2_with fail
  have hb : Below w283.heap.size w283 w283.drew := below_drew (Below.refl _ _)
  obtain ⟨w286, hw_⟩ : ∃ w286, w283.drew = w286 := ⟨_, rfl⟩
  rw [hw_] at hb
  have hq_ : Below w283.heap.size w283 w286 := ⟨hb.os, hb.tape, hb.output, hb.size, hb.block⟩
  have HZ287 := Aside0.mk (show w283.heap.size ≤ w286.heap.size from hq_.size)
  replace HB := Aside0.mk (below_then HB.out HB.out.size hq_)
  have HA288 := Aside0.mk (show w.heap.size ≤ w286.heap.size from HB.out.size)
  replace F201 := Aside0.mk (Kd.R_below F201.out hq_)
  replace F216 := Aside0.mk (Kd.S_below F216.out hq_)
  replace F241 := Aside0.mk (Kd.R_below F241.out hq_)
  replace F268 := Aside0.mk (Kd.R_below F268.out hq_)
  have hn_ := Aside0.mk (blk_below BK3.out hq_)
  clear hczb1_0 hfzb1_0; clear hczb1_1 hfzb1_1
  clear BK3
  have BK3 := hn_
  clear hn_
  have hn_ := Aside0.mk (blk_below BK10.out hq_)
  clear hczb8_0 hfzb8_0; clear hczb8_1 hfzb8_1; clear hczb8_2 hfzb8_2; clear hczb8_3 hfzb8_3; clear hczb8_4 hfzb8_4; clear hczb8_5 hfzb8_5
  clear BK10
  have BK10 := hn_
  clear hn_
  have hn_ := Aside0.mk (blk_below BK203.out hq_)
  clear hczb202_0 hfzb202_0; clear hczb202_1 hfzb202_1; clear hczb202_2 hfzb202_2; clear hczb202_3 hfzb202_3; clear hczb202_4 hfzb202_4; clear hczb202_5 hfzb202_5
  clear BK203
  have BK203 := hn_
  clear hn_
  have hn_ := Aside0.mk (blk_below BK221.out hq_)
  clear hczb219_0 hfzb219_0; clear hczb219_1 hfzb219_1
  clear BK221
  have BK221 := hn_
  clear hn_
  have hn_ := Aside0.mk (blk_below BK246.out hq_)
  clear hczb244_0 hfzb244_0; clear hczb244_1 hfzb244_1; clear hczb244_2 hfzb244_2; clear hczb244_3 hfzb244_3; clear hczb244_4 hfzb244_4; clear hczb244_5 hfzb244_5
  clear BK246
  have BK246 := hn_
  clear hn_
  have hn_ := Aside0.mk (blk_below BK273.out hq_)
  clear hczb271_0 hfzb271_0; clear hczb271_1 hfzb271_1; clear hczb271_2 hfzb271_2; clear hczb271_3 hfzb271_3; clear hczb271_4 hfzb271_4; clear hczb271_5 hfzb271_5
  clear BK273
  have BK273 := hn_
  clear hn_
  clear hq_
  obtain ⟨hczb1_0, hfzb1_0, hczb1_1, hfzb1_1⟩ := bk2 BK3.out
  obtain ⟨hczb8_0, hfzb8_0, hczb8_1, hfzb8_1, hczb8_2, hfzb8_2, hczb8_3, hfzb8_3, hczb8_4, hfzb8_4, hczb8_5, hfzb8_5⟩ := bk6 BK10.out
  obtain ⟨hczb202_0, hfzb202_0, hczb202_1, hfzb202_1, hczb202_2, hfzb202_2, hczb202_3, hfzb202_3, hczb202_4, hfzb202_4, hczb202_5, hfzb202_5⟩ := bk6 BK203.out
  obtain ⟨hczb219_0, hfzb219_0, hczb219_1, hfzb219_1⟩ := bk2 BK221.out
  obtain ⟨hczb244_0, hfzb244_0, hczb244_1, hfzb244_1, hczb244_2, hfzb244_2, hczb244_3, hfzb244_3, hczb244_4, hfzb244_4, hczb244_5, hfzb244_5⟩ := bk6 BK246.out
  obtain ⟨hczb271_0, hfzb271_0, hczb271_1, hfzb271_1, hczb271_2, hfzb271_2, hczb271_3, hfzb271_3, hczb271_4, hfzb271_4, hczb271_5, hfzb271_5⟩ := bk6 BK273.out
  refine start_ (n := 5) (S := fun w' => w'.cell? ⟨gb220, 0, none⟩ = some (.slice A217 t208.length c218) ∧ w'.cell? ⟨gb220, 1, none⟩ = some (.int .i64 t209) ∧ w'.cell? ⟨gb2, 0, none⟩ = some (.slice A0_0 l0_0.length c0_0) ∧ w'.cell? ⟨gb2, 1, none⟩ = some (.int .i64 a0_1)) (ds := []) (bs 5 0) kR rfl kR (by rw [hw_]; exact ⟨bZ BK221.out 0, bZ BK221.out 1, bZ BK3.out 0, bZ BK3.out 1⟩) (fun hHeld => ?_)
  rw [hw_] at hHeld ⊢
  clear hw_ hb
  refine take_ (i := 0) (N := some 68) (v := ?_) (a' := ?_) (bs 5 1) rfl rfl (by kernel_rfl) (fun _ _ _ h => h) (Or.inl ⟨by rfl, ?_⟩) hHeld ?_ ?_
  rotate_left
  · rintro w' ⟨s0, s1, s2, s3⟩
    go_simp
    with_reducible rfl
  rotate_left
  · simp only [Act.put, List.setIfInBounds_toArray, List.set_cons_zero, List.set_cons_succ, i64_w, i32_w]
    rfl
  refine take_ (i := 1) (N := some 69) (v := ?_) (a' := ?_) (bs 5 3) rfl rfl (by kernel_rfl) (fun _ _ _ h => h) (Or.inl ⟨by rfl, ?_⟩) hHeld ?_ ?_
  rotate_left
  · rintro w' ⟨s0, s1, s2, s3⟩
    go_simp
    with_reducible rfl
  rotate_left
  · simp only [Act.put, List.setIfInBounds_toArray, List.set_cons_zero, List.set_cons_succ, i64_w, i32_w]
    rfl
  refine one_ (i := 2) (N := some 70) (bs 5 7) rfl rfl (by kernel_rfl) (by decide) (fun K hK => ?_)
  refine goes_ Try.func15 (by kernel_rfl) rfl #[.agg #[.slice A0_0 l0_0.length c0_0, .int .i64 a0_1]] (by rfl) rfl rfl (by (try simp only [List.map_toArray, List.map_cons, List.map_nil]); first | done | rfl | (simp only [List.length_drop, List.length_take]; rfl)) ?_
  refine (laws_toWorld.calls k _ _ l0_0 a0_1 t289 t290 _ (Kd.C_below HR0_0.out HB.out) HC0_0.out H291.out).mono ?_
  rintro e_ w292 ⟨v293, rfl, f294, hb⟩
  have hq_ : Below w286.heap.size w286 w292 := ⟨hb.os, hb.tape, hb.output, hb.size, hb.block⟩
  have HZ295 := Aside0.mk (show w286.heap.size ≤ w292.heap.size from hq_.size)
  replace HB := Aside0.mk (below_then HB.out HB.out.size hq_)
  have HA296 := Aside0.mk (show w.heap.size ≤ w292.heap.size from HB.out.size)
  replace F201 := Aside0.mk (Kd.R_below F201.out hq_)
  replace F216 := Aside0.mk (Kd.S_below F216.out hq_)
  replace F241 := Aside0.mk (Kd.R_below F241.out hq_)
  replace F268 := Aside0.mk (Kd.R_below F268.out hq_)
  have hn_ := Aside0.mk (blk_below BK3.out hq_)
  clear hczb1_0 hfzb1_0; clear hczb1_1 hfzb1_1
  clear BK3
  have BK3 := hn_
  clear hn_
  have hn_ := Aside0.mk (blk_below BK10.out hq_)
  clear hczb8_0 hfzb8_0; clear hczb8_1 hfzb8_1; clear hczb8_2 hfzb8_2; clear hczb8_3 hfzb8_3; clear hczb8_4 hfzb8_4; clear hczb8_5 hfzb8_5
  clear BK10
  have BK10 := hn_
  clear hn_
  have hn_ := Aside0.mk (blk_below BK203.out hq_)
  clear hczb202_0 hfzb202_0; clear hczb202_1 hfzb202_1; clear hczb202_2 hfzb202_2; clear hczb202_3 hfzb202_3; clear hczb202_4 hfzb202_4; clear hczb202_5 hfzb202_5
  clear BK203
  have BK203 := hn_
  clear hn_
  have hn_ := Aside0.mk (blk_below BK221.out hq_)
  clear hczb219_0 hfzb219_0; clear hczb219_1 hfzb219_1
  clear BK221
  have BK221 := hn_
  clear hn_
  have hn_ := Aside0.mk (blk_below BK246.out hq_)
  clear hczb244_0 hfzb244_0; clear hczb244_1 hfzb244_1; clear hczb244_2 hfzb244_2; clear hczb244_3 hfzb244_3; clear hczb244_4 hfzb244_4; clear hczb244_5 hfzb244_5
  clear BK246
  have BK246 := hn_
  clear hn_
  have hn_ := Aside0.mk (blk_below BK273.out hq_)
  clear hczb271_0 hfzb271_0; clear hczb271_1 hfzb271_1; clear hczb271_2 hfzb271_2; clear hczb271_3 hfzb271_3; clear hczb271_4 hfzb271_4; clear hczb271_5 hfzb271_5
  clear BK273
  have BK273 := hn_
  clear hn_
  clear hq_
  obtain ⟨hczb1_0, hfzb1_0, hczb1_1, hfzb1_1⟩ := bk2 BK3.out
  obtain ⟨hczb8_0, hfzb8_0, hczb8_1, hfzb8_1, hczb8_2, hfzb8_2, hczb8_3, hfzb8_3, hczb8_4, hfzb8_4, hczb8_5, hfzb8_5⟩ := bk6 BK10.out
  obtain ⟨hczb202_0, hfzb202_0, hczb202_1, hfzb202_1, hczb202_2, hfzb202_2, hczb202_3, hfzb202_3, hczb202_4, hfzb202_4, hczb202_5, hfzb202_5⟩ := bk6 BK203.out
  obtain ⟨hczb219_0, hfzb219_0, hczb219_1, hfzb219_1⟩ := bk2 BK221.out
  obtain ⟨hczb244_0, hfzb244_0, hczb244_1, hfzb244_1, hczb244_2, hfzb244_2, hczb244_3, hfzb244_3, hczb244_4, hfzb244_4, hczb244_5, hfzb244_5⟩ := bk6 BK246.out
  obtain ⟨hczb271_0, hfzb271_0, hczb271_1, hfzb271_1, hczb271_2, hfzb271_2, hczb271_3, hfzb271_3, hczb271_4, hfzb271_4, hczb271_5, hfzb271_5⟩ := bk6 BK273.out
  clear hb
  refine ⟨_, rfl, ?_⟩
  have F297 := Aside0.mk (Lk.newS (b := w286.heap.size) (base := w.heap.size) (Sep := fun k_ => True) f294 (HA288.out) (fun k_ hk_ => hk_))
  clear f294
  obtain ⟨A298, c299, e_⟩ := Kd.S_slice F297.out
  subst e_
  refine hK.out _ _ ⟨bZ BK221.out 0, bZ BK221.out 1, bZ BK3.out 0, bZ BK3.out 1⟩ (fun hHeld => ?_)
  clear hK K
  refine norm_ (a' := ?_) ?_ ?_
  rotate_left
  · show Act.put _ (some 70) _ = _
    simp only [Act.put, List.setIfInBounds_toArray, List.set_cons_zero, List.set_cons_succ, i64_w, i32_w]
    rfl
  refine one_ (i := 3) (N := some 71) (bs 5 15) rfl rfl (by kernel_rfl) (by decide) (fun K hK => ?_)
  refine goes_ Try.func17 (by kernel_rfl) rfl #[.agg #[.slice A217 t208.length c218, .int .i64 t209], .agg #[.slice A298 t289.length c299, .int .i64 t290]] (by rfl) rfl rfl (by (try simp only [List.map_toArray, List.map_cons, List.map_nil]); first | done | rfl | (simp only [List.length_drop, List.length_take]; rfl)) ?_
  refine (laws_eqWorld.calls k _ _ t208 t209 _ _ t289 t290 true _ (Lk.Sr F216.out).2 (Lk.Sr F216.out).1 (Lk.Sr F297.out).2 (Lk.Sr F297.out).1 H301.out).mono ?_
  rintro e_ w302 ⟨rfl, hb⟩
  have hq_ : Below w292.heap.size w292 w302 := ⟨hb.os, hb.tape, hb.output, hb.size, hb.block⟩
  have HZ303 := Aside0.mk (show w292.heap.size ≤ w302.heap.size from hq_.size)
  replace HB := Aside0.mk (below_then HB.out HB.out.size hq_)
  have HA304 := Aside0.mk (show w.heap.size ≤ w302.heap.size from HB.out.size)
  replace F201 := Aside0.mk (Kd.R_below F201.out hq_)
  replace F216 := Aside0.mk (Kd.S_below F216.out hq_)
  replace F241 := Aside0.mk (Kd.R_below F241.out hq_)
  replace F268 := Aside0.mk (Kd.R_below F268.out hq_)
  replace F297 := Aside0.mk (Kd.S_below F297.out hq_)
  have hn_ := Aside0.mk (blk_below BK3.out hq_)
  clear hczb1_0 hfzb1_0; clear hczb1_1 hfzb1_1
  clear BK3
  have BK3 := hn_
  clear hn_
  have hn_ := Aside0.mk (blk_below BK10.out hq_)
  clear hczb8_0 hfzb8_0; clear hczb8_1 hfzb8_1; clear hczb8_2 hfzb8_2; clear hczb8_3 hfzb8_3; clear hczb8_4 hfzb8_4; clear hczb8_5 hfzb8_5
  clear BK10
  have BK10 := hn_
  clear hn_
  have hn_ := Aside0.mk (blk_below BK203.out hq_)
  clear hczb202_0 hfzb202_0; clear hczb202_1 hfzb202_1; clear hczb202_2 hfzb202_2; clear hczb202_3 hfzb202_3; clear hczb202_4 hfzb202_4; clear hczb202_5 hfzb202_5
  clear BK203
  have BK203 := hn_
  clear hn_
  have hn_ := Aside0.mk (blk_below BK221.out hq_)
  clear hczb219_0 hfzb219_0; clear hczb219_1 hfzb219_1
  clear BK221
  have BK221 := hn_
  clear hn_
  have hn_ := Aside0.mk (blk_below BK246.out hq_)
  clear hczb244_0 hfzb244_0; clear hczb244_1 hfzb244_1; clear hczb244_2 hfzb244_2; clear hczb244_3 hfzb244_3; clear hczb244_4 hfzb244_4; clear hczb244_5 hfzb244_5
  clear BK246
  have BK246 := hn_
  clear hn_
  have hn_ := Aside0.mk (blk_below BK273.out hq_)
  clear hczb271_0 hfzb271_0; clear hczb271_1 hfzb271_1; clear hczb271_2 hfzb271_2; clear hczb271_3 hfzb271_3; clear hczb271_4 hfzb271_4; clear hczb271_5 hfzb271_5
  clear BK273
  have BK273 := hn_
  clear hn_
  clear hq_
  obtain ⟨hczb1_0, hfzb1_0, hczb1_1, hfzb1_1⟩ := bk2 BK3.out
  obtain ⟨hczb8_0, hfzb8_0, hczb8_1, hfzb8_1, hczb8_2, hfzb8_2, hczb8_3, hfzb8_3, hczb8_4, hfzb8_4, hczb8_5, hfzb8_5⟩ := bk6 BK10.out
  obtain ⟨hczb202_0, hfzb202_0, hczb202_1, hfzb202_1, hczb202_2, hfzb202_2, hczb202_3, hfzb202_3, hczb202_4, hfzb202_4, hczb202_5, hfzb202_5⟩ := bk6 BK203.out
  obtain ⟨hczb219_0, hfzb219_0, hczb219_1, hfzb219_1⟩ := bk2 BK221.out
  obtain ⟨hczb244_0, hfzb244_0, hczb244_1, hfzb244_1, hczb244_2, hfzb244_2, hczb244_3, hfzb244_3, hczb244_4, hfzb244_4, hczb244_5, hfzb244_5⟩ := bk6 BK246.out
  obtain ⟨hczb271_0, hfzb271_0, hczb271_1, hfzb271_1, hczb271_2, hfzb271_2, hczb271_3, hfzb271_3, hczb271_4, hfzb271_4, hczb271_5, hfzb271_5⟩ := bk6 BK273.out
  clear hb
  refine ⟨_, rfl, ?_⟩
  refine hK.out _ _ ⟨bZ BK221.out 0, bZ BK221.out 1, bZ BK3.out 0, bZ BK3.out 1⟩ (fun hHeld => ?_)
  clear hK K
  refine norm_ (a' := ?_) ?_ ?_
  rotate_left
  · show Act.put _ (some 71) _ = _
    simp only [Act.put, List.setIfInBounds_toArray, List.set_cons_zero, List.set_cons_succ, i64_w, i32_w]
    rfl
  refine pure_ (i := 4) (N := some 72) (v := ?_) (a' := ?_) (bs 5 31) rfl rfl (by kernel_rfl) (fun _ _ _ h => h) (Or.inl ⟨by rfl, ?_⟩) ?_ ?_
  rotate_left
  · intro w'
    go_simp
    with_reducible rfl
  rotate_left
  · simp only [Act.put, List.setIfInBounds_toArray, List.set_cons_zero, List.set_cons_succ, i64_w, i32_w]
    rfl
  refine done_ (by kernel_rfl) ?_
  go_wp2_with fail
  have hb : Below w302.heap.size w302 w302.drew := below_drew (Below.refl _ _)
  obtain ⟨w305, hw_⟩ : ∃ w305, w302.drew = w305 := ⟨_, rfl⟩
  rw [hw_] at hb
  have hq_ : Below w302.heap.size w302 w305 := ⟨hb.os, hb.tape, hb.output, hb.size, hb.block⟩
  have HZ306 := Aside0.mk (show w302.heap.size ≤ w305.heap.size from hq_.size)
  replace HB := Aside0.mk (below_then HB.out HB.out.size hq_)
  have HA307 := Aside0.mk (show w.heap.size ≤ w305.heap.size from HB.out.size)
  replace F201 := Aside0.mk (Kd.R_below F201.out hq_)
  replace F216 := Aside0.mk (Kd.S_below F216.out hq_)
  replace F241 := Aside0.mk (Kd.R_below F241.out hq_)
  replace F268 := Aside0.mk (Kd.R_below F268.out hq_)
  replace F297 := Aside0.mk (Kd.S_below F297.out hq_)
  have hn_ := Aside0.mk (blk_below BK3.out hq_)
  clear hczb1_0 hfzb1_0; clear hczb1_1 hfzb1_1
  clear BK3
  have BK3 := hn_
  clear hn_
  have hn_ := Aside0.mk (blk_below BK10.out hq_)
  clear hczb8_0 hfzb8_0; clear hczb8_1 hfzb8_1; clear hczb8_2 hfzb8_2; clear hczb8_3 hfzb8_3; clear hczb8_4 hfzb8_4; clear hczb8_5 hfzb8_5
  clear BK10
  have BK10 := hn_
  clear hn_
  have hn_ := Aside0.mk (blk_below BK203.out hq_)
  clear hczb202_0 hfzb202_0; clear hczb202_1 hfzb202_1; clear hczb202_2 hfzb202_2; clear hczb202_3 hfzb202_3; clear hczb202_4 hfzb202_4; clear hczb202_5 hfzb202_5
  clear BK203
  have BK203 := hn_
  clear hn_
  have hn_ := Aside0.mk (blk_below BK221.out hq_)
  clear hczb219_0 hfzb219_0; clear hczb219_1 hfzb219_1
  clear BK221
  have BK221 := hn_
  clear hn_
  have hn_ := Aside0.mk (blk_below BK246.out hq_)
  clear hczb244_0 hfzb244_0; clear hczb244_1 hfzb244_1; clear hczb244_2 hfzb244_2; clear hczb244_3 hfzb244_3; clear hczb244_4 hfzb244_4; clear hczb244_5 hfzb244_5
  clear BK246
  have BK246 := hn_
  clear hn_
  have hn_ := Aside0.mk (blk_below BK273.out hq_)
  clear hczb271_0 hfzb271_0; clear hczb271_1 hfzb271_1; clear hczb271_2 hfzb271_2; clear hczb271_3 hfzb271_3; clear hczb271_4 hfzb271_4; clear hczb271_5 hfzb271_5
  clear BK273
  have BK273 := hn_
  clear hn_
  clear hq_
  obtain ⟨hczb1_0, hfzb1_0, hczb1_1, hfzb1_1⟩ := bk2 BK3.out
  obtain ⟨hczb8_0, hfzb8_0, hczb8_1, hfzb8_1, hczb8_2, hfzb8_2, hczb8_3, hfzb8_3, hczb8_4, hfzb8_4, hczb8_5, hfzb8_5⟩ := bk6 BK10.out
  obtain ⟨hczb202_0, hfzb202_0, hczb202_1, hfzb202_1, hczb202_2, hfzb202_2, hczb202_3, hfzb202_3, hczb202_4, hfzb202_4, hczb202_5, hfzb202_5⟩ := bk6 BK203.out
  obtain ⟨hczb219_0, hfzb219_0, hczb219_1, hfzb219_1⟩ := bk2 BK221.out
  obtain ⟨hczb244_0, hfzb244_0, hczb244_1, hfzb244_1, hczb244_2, hfzb244_2, hczb244_3, hfzb244_3, hczb244_4, hfzb244_4, hczb244_5, hfzb244_5⟩ := bk6 BK246.out
  obtain ⟨hczb271_0, hfzb271_0, hczb271_1, hfzb271_1, hczb271_2, hfzb271_2, hczb271_3, hfzb271_3, hczb271_4, hfzb271_4, hczb271_5, hfzb271_5⟩ := bk6 BK273.out
  refine start_ (n := 5) (S := fun w' => w'.cell? ⟨gb245, 0, none⟩ = some (.int .i64 t229) ∧ w'.cell? ⟨gb245, 1, none⟩ = some (.int .i64 t230) ∧ w'.cell? ⟨gb245, 2, none⟩ = some (.slice A242 t231.length c243) ∧ w'.cell? ⟨gb245, 3, none⟩ = some (.int .i64 t232) ∧ w'.cell? ⟨gb245, 4, none⟩ = some (.int .i64 t233) ∧ w'.cell? ⟨gb245, 5, none⟩ = some (.int .i64 t234) ∧ w'.cell? ⟨gb9, 0, none⟩ = some (.int .i64 a1_0) ∧ w'.cell? ⟨gb9, 1, none⟩ = some (.int .i64 a1_1) ∧ w'.cell? ⟨gb9, 2, none⟩ = some (.slice A1_2 l1_2.length c1_2) ∧ w'.cell? ⟨gb9, 3, none⟩ = some (.int .i64 a1_3) ∧ w'.cell? ⟨gb9, 4, none⟩ = some (.int .i64 a1_4) ∧ w'.cell? ⟨gb9, 5, none⟩ = some (.int .i64 a1_5)) (ds := []) (bs 5 0) kR rfl kR (by rw [hw_]; exact ⟨bZ BK246.out 0, bZ BK246.out 1, bZ BK246.out 2, bZ BK246.out 3, bZ BK246.out 4, bZ BK246.out 5, bZ BK10.out 0, bZ BK10.out 1, bZ BK10.out 2, bZ BK10.out 3, bZ BK10.out 4, bZ BK10.out 5⟩) (fun hHeld => ?_)
  rw [hw_] at hHeld ⊢
  clear hw_ hb
  refine take_ (i := 0) (N := some 73) (v := ?_) (a' := ?_) (bs 5 1) rfl rfl (by kernel_rfl) (fun _ _ _ h => h) (Or.inl ⟨by rfl, ?_⟩) hHeld ?_ ?_
  rotate_left
  · rintro w' ⟨s0, s1, s2, s3, s4, s5, s6, s7, s8, s9, s10, s11⟩
    go_simp
    with_reducible rfl
  rotate_left
  · simp only [Act.put, List.setIfInBounds_toArray, List.set_cons_zero, List.set_cons_succ, i64_w, i32_w]
    rfl
  refine take_ (i := 1) (N := some 74) (v := ?_) (a' := ?_) (bs 5 3) rfl rfl (by kernel_rfl) (fun _ _ _ h => h) (Or.inl ⟨by rfl, ?_⟩) hHeld ?_ ?_
  rotate_left
  · rintro w' ⟨s0, s1, s2, s3, s4, s5, s6, s7, s8, s9, s10, s11⟩
    go_simp
    with_reducible rfl
  rotate_left
  · simp only [Act.put, List.setIfInBounds_toArray, List.set_cons_zero, List.set_cons_succ, i64_w, i32_w]
    rfl
  refine one_ (i := 2) (N := some 75) (bs 5 7) rfl rfl (by kernel_rfl) (by decide) (fun K hK => ?_)
  refine goes_ Try.func33 (by kernel_rfl) rfl #[.agg #[.int .i64 a1_0, .int .i64 a1_1, .slice A1_2 l1_2.length c1_2, .int .i64 a1_3, .int .i64 a1_4, .int .i64 a1_5]] (by rfl) rfl rfl (by (try simp only [List.map_toArray, List.map_cons, List.map_nil]); first | done | rfl | (simp only [List.length_drop, List.length_take]; rfl)) ?_
  refine (laws_toCache.calls k a1_0 a1_1 _ _ l1_2 a1_3 a1_4 a1_5 t308 t309 t310 t311 t312 t313 _ (Kd.C_below HR1_2.out HB.out) HC1_2.out H314.out).mono ?_
  rintro e_ w315 ⟨v316, rfl, f317, hb⟩
  have hq_ : Below w305.heap.size w305 w315 := ⟨hb.os, hb.tape, hb.output, hb.size, hb.block⟩
  have HZ318 := Aside0.mk (show w305.heap.size ≤ w315.heap.size from hq_.size)
  replace HB := Aside0.mk (below_then HB.out HB.out.size hq_)
  have HA319 := Aside0.mk (show w.heap.size ≤ w315.heap.size from HB.out.size)
  replace F201 := Aside0.mk (Kd.R_below F201.out hq_)
  replace F216 := Aside0.mk (Kd.S_below F216.out hq_)
  replace F241 := Aside0.mk (Kd.R_below F241.out hq_)
  replace F268 := Aside0.mk (Kd.R_below F268.out hq_)
  replace F297 := Aside0.mk (Kd.S_below F297.out hq_)
  have hn_ := Aside0.mk (blk_below BK3.out hq_)
  clear hczb1_0 hfzb1_0; clear hczb1_1 hfzb1_1
  clear BK3
  have BK3 := hn_
  clear hn_
  have hn_ := Aside0.mk (blk_below BK10.out hq_)
  clear hczb8_0 hfzb8_0; clear hczb8_1 hfzb8_1; clear hczb8_2 hfzb8_2; clear hczb8_3 hfzb8_3; clear hczb8_4 hfzb8_4; clear hczb8_5 hfzb8_5
  clear BK10
  have BK10 := hn_
  clear hn_
  have hn_ := Aside0.mk (blk_below BK203.out hq_)
  clear hczb202_0 hfzb202_0; clear hczb202_1 hfzb202_1; clear hczb202_2 hfzb202_2; clear hczb202_3 hfzb202_3; clear hczb202_4 hfzb202_4; clear hczb202_5 hfzb202_5
  clear BK203
  have BK203 := hn_
  clear hn_
  have hn_ := Aside0.mk (blk_below BK221.out hq_)
  clear hczb219_0 hfzb219_0; clear hczb219_1 hfzb219_1
  clear BK221
  have BK221 := hn_
  clear hn_
  have hn_ := Aside0.mk (blk_below BK246.out hq_)
  clear hczb244_0 hfzb244_0; clear hczb244_1 hfzb244_1; clear hczb244_2 hfzb244_2; clear hczb244_3 hfzb244_3; clear hczb244_4 hfzb244_4; clear hczb244_5 hfzb244_5
  clear BK246
  have BK246 := hn_
  clear hn_
  have hn_ := Aside0.mk (blk_below BK273.out hq_)
  clear hczb271_0 hfzb271_0; clear hczb271_1 hfzb271_1; clear hczb271_2 hfzb271_2; clear hczb271_3 hfzb271_3; clear hczb271_4 hfzb271_4; clear hczb271_5 hfzb271_5
  clear BK273
  have BK273 := hn_
  clear hn_
  clear hq_
  obtain ⟨hczb1_0, hfzb1_0, hczb1_1, hfzb1_1⟩ := bk2 BK3.out
  obtain ⟨hczb8_0, hfzb8_0, hczb8_1, hfzb8_1, hczb8_2, hfzb8_2, hczb8_3, hfzb8_3, hczb8_4, hfzb8_4, hczb8_5, hfzb8_5⟩ := bk6 BK10.out
  obtain ⟨hczb202_0, hfzb202_0, hczb202_1, hfzb202_1, hczb202_2, hfzb202_2, hczb202_3, hfzb202_3, hczb202_4, hfzb202_4, hczb202_5, hfzb202_5⟩ := bk6 BK203.out
  obtain ⟨hczb219_0, hfzb219_0, hczb219_1, hfzb219_1⟩ := bk2 BK221.out
  obtain ⟨hczb244_0, hfzb244_0, hczb244_1, hfzb244_1, hczb244_2, hfzb244_2, hczb244_3, hfzb244_3, hczb244_4, hfzb244_4, hczb244_5, hfzb244_5⟩ := bk6 BK246.out
  obtain ⟨hczb271_0, hfzb271_0, hczb271_1, hfzb271_1, hczb271_2, hfzb271_2, hczb271_3, hfzb271_3, hczb271_4, hfzb271_4, hczb271_5, hfzb271_5⟩ := bk6 BK273.out
  clear hb
  refine ⟨_, rfl, ?_⟩
  have F320 := Aside0.mk (Lk.newR (b := w305.heap.size) (base := w.heap.size) (Sep := fun k_ => True) rfl f317 (HA307.out) (fun k_ hk_ => hk_))
  clear f317
  obtain ⟨A321, c322, e_⟩ := Kd.R_slice F320.out
  subst e_
  refine hK.out _ _ ⟨bZ BK246.out 0, bZ BK246.out 1, bZ BK246.out 2, bZ BK246.out 3, bZ BK246.out 4, bZ BK246.out 5, bZ BK10.out 0, bZ BK10.out 1, bZ BK10.out 2, bZ BK10.out 3, bZ BK10.out 4, bZ BK10.out 5⟩ (fun hHeld => ?_)
  clear hK K
  refine norm_ (a' := ?_) ?_ ?_
  rotate_left
  · show Act.put _ (some 75) _ = _
    simp only [Act.put, List.setIfInBounds_toArray, List.set_cons_zero, List.set_cons_succ, i64_w, i32_w]
    rfl
  refine one_ (i := 3) (N := some 76) (bs 5 15) rfl rfl (by kernel_rfl) (by decide) (fun K hK => ?_)
  refine goes_ Try.func28 (by kernel_rfl) rfl #[.agg #[.int .i64 t229, .int .i64 t230, .slice A242 t231.length c243, .int .i64 t232, .int .i64 t233, .int .i64 t234], .agg #[.int .i64 t308, .int .i64 t309, .slice A321 t310.length c322, .int .i64 t311, .int .i64 t312, .int .i64 t313]] (by rfl) rfl rfl (by (try simp only [List.map_toArray, List.map_cons, List.map_nil]); first | done | rfl | (simp only [List.length_drop, List.length_take]; rfl)) ?_
  refine (laws_eqCache.calls k t229 t230 _ _ t231 t232 t233 t234 t308 t309 _ _ t310 t311 t312 t313 true _ (Lk.Rr F241.out).2 (Lk.Rr F241.out).1 (Lk.Rr F320.out).2 (Lk.Rr F320.out).1 H324.out).mono ?_
  rintro e_ w325 ⟨rfl, hb⟩
  have hq_ : Below w315.heap.size w315 w325 := ⟨hb.os, hb.tape, hb.output, hb.size, hb.block⟩
  have HZ326 := Aside0.mk (show w315.heap.size ≤ w325.heap.size from hq_.size)
  replace HB := Aside0.mk (below_then HB.out HB.out.size hq_)
  have HA327 := Aside0.mk (show w.heap.size ≤ w325.heap.size from HB.out.size)
  replace F201 := Aside0.mk (Kd.R_below F201.out hq_)
  replace F216 := Aside0.mk (Kd.S_below F216.out hq_)
  replace F241 := Aside0.mk (Kd.R_below F241.out hq_)
  replace F268 := Aside0.mk (Kd.R_below F268.out hq_)
  replace F297 := Aside0.mk (Kd.S_below F297.out hq_)
  replace F320 := Aside0.mk (Kd.R_below F320.out hq_)
  have hn_ := Aside0.mk (blk_below BK3.out hq_)
  clear hczb1_0 hfzb1_0; clear hczb1_1 hfzb1_1
  clear BK3
  have BK3 := hn_
  clear hn_
  have hn_ := Aside0.mk (blk_below BK10.out hq_)
  clear hczb8_0 hfzb8_0; clear hczb8_1 hfzb8_1; clear hczb8_2 hfzb8_2; clear hczb8_3 hfzb8_3; clear hczb8_4 hfzb8_4; clear hczb8_5 hfzb8_5
  clear BK10
  have BK10 := hn_
  clear hn_
  have hn_ := Aside0.mk (blk_below BK203.out hq_)
  clear hczb202_0 hfzb202_0; clear hczb202_1 hfzb202_1; clear hczb202_2 hfzb202_2; clear hczb202_3 hfzb202_3; clear hczb202_4 hfzb202_4; clear hczb202_5 hfzb202_5
  clear BK203
  have BK203 := hn_
  clear hn_
  have hn_ := Aside0.mk (blk_below BK221.out hq_)
  clear hczb219_0 hfzb219_0; clear hczb219_1 hfzb219_1
  clear BK221
  have BK221 := hn_
  clear hn_
  have hn_ := Aside0.mk (blk_below BK246.out hq_)
  clear hczb244_0 hfzb244_0; clear hczb244_1 hfzb244_1; clear hczb244_2 hfzb244_2; clear hczb244_3 hfzb244_3; clear hczb244_4 hfzb244_4; clear hczb244_5 hfzb244_5
  clear BK246
  have BK246 := hn_
  clear hn_
  have hn_ := Aside0.mk (blk_below BK273.out hq_)
  clear hczb271_0 hfzb271_0; clear hczb271_1 hfzb271_1; clear hczb271_2 hfzb271_2; clear hczb271_3 hfzb271_3; clear hczb271_4 hfzb271_4; clear hczb271_5 hfzb271_5
  clear BK273
  have BK273 := hn_
  clear hn_
  clear hq_
  obtain ⟨hczb1_0, hfzb1_0, hczb1_1, hfzb1_1⟩ := bk2 BK3.out
  obtain ⟨hczb8_0, hfzb8_0, hczb8_1, hfzb8_1, hczb8_2, hfzb8_2, hczb8_3, hfzb8_3, hczb8_4, hfzb8_4, hczb8_5, hfzb8_5⟩ := bk6 BK10.out
  obtain ⟨hczb202_0, hfzb202_0, hczb202_1, hfzb202_1, hczb202_2, hfzb202_2, hczb202_3, hfzb202_3, hczb202_4, hfzb202_4, hczb202_5, hfzb202_5⟩ := bk6 BK203.out
  obtain ⟨hczb219_0, hfzb219_0, hczb219_1, hfzb219_1⟩ := bk2 BK221.out
  obtain ⟨hczb244_0, hfzb244_0, hczb244_1, hfzb244_1, hczb244_2, hfzb244_2, hczb244_3, hfzb244_3, hczb244_4, hfzb244_4, hczb244_5, hfzb244_5⟩ := bk6 BK246.out
  obtain ⟨hczb271_0, hfzb271_0, hczb271_1, hfzb271_1, hczb271_2, hfzb271_2, hczb271_3, hfzb271_3, hczb271_4, hfzb271_4, hczb271_5, hfzb271_5⟩ := bk6 BK273.out
  clear hb
  refine ⟨_, rfl, ?_⟩
  refine hK.out _ _ ⟨bZ BK246.out 0, bZ BK246.out 1, bZ BK246.out 2, bZ BK246.out 3, bZ BK246.out 4, bZ BK246.out 5, bZ BK10.out 0, bZ BK10.out 1, bZ BK10.out 2, bZ BK10.out 3, bZ BK10.out 4, bZ BK10.out 5⟩ (fun hHeld => ?_)
  clear hK K
  refine norm_ (a' := ?_) ?_ ?_
  rotate_left
  · show Act.put _ (some 76) _ = _
    simp only [Act.put, List.setIfInBounds_toArray, List.set_cons_zero, List.set_cons_succ, i64_w, i32_w]
    rfl
  refine pure_ (i := 4) (N := some 77) (v := ?_) (a' := ?_) (bs 5 31) rfl rfl (by kernel_rfl) (fun _ _ _ h => h) (Or.inl ⟨by rfl, ?_⟩) ?_ ?_
  rotate_left
  · intro w'
    go_simp
    with_reducible rfl
  rotate_left
  · simp only [Act.put, List.setIfInBounds_toArray, List.set_cons_zero, List.set_cons_succ, i64_w, i32_w]
    rfl
  refine done_ (by kernel_rfl) ?_
  go_wp2_with fail
  have hn_ := H329.out
  refine (laws_markWorld.calls (fun k_ => (w205.heap.size ≤ k_ ∧ k_ < w211.heap.size) ∧ (True)) _ t208 t209 1 w _ HB.out F216.out (by omega) hn_).mono ?_
  rintro e_ w328 ⟨rfl, f0_, hb0_, hk_⟩
  have hk2_ : Kept w325 w328 (fun k_ => w205.heap.size ≤ k_ ∧ k_ < w211.heap.size) := Kept.mono hk_ (fun k_ h_ => by first | exact h_ | exact h_.1)
  have HZ330 := Aside0.mk (show w325.heap.size ≤ w328.heap.size from hk2_.1)
  clear HB
  have HB := Aside0.mk hb0_
  have hn_ := Aside0.mk (Kd.R_kept F201.out hk2_ (fun k_ h1_ h2_ => by skip; have := HZ196.out; have := HZ206.out; have h3_ := h1_.1; omega))
  clear F201
  have F201 := hn_
  clear hn_
  have hn_ := Aside0.mk (Kd.R_kept F241.out hk2_ (fun k_ h1_ h2_ => by skip; have := HZ224.out; have := HZ227.out; have h3_ := h1_.1; omega))
  clear F241
  have F241 := hn_
  clear hn_
  have hn_ := Aside0.mk (Kd.R_kept F268.out hk2_ (fun k_ h1_ h2_ => by skip; have := HZ224.out; have := HZ227.out; have := HZ239.out; have := HZ249.out; have := HZ252.out; have h3_ := h1_.1; omega))
  clear F268
  have F268 := hn_
  clear hn_
  have hn_ := Aside0.mk (Kd.S_kept F297.out hk2_ (fun k_ h1_ h2_ => by skip; have := HZ224.out; have := HZ227.out; have := HZ239.out; have := HZ249.out; have := HZ252.out; have := HZ266.out; have := HZ276.out; have := HZ279.out; have := HZ284.out; have := HZ287.out; have h3_ := h1_.1; omega))
  clear F297
  have F297 := hn_
  clear hn_
  have hn_ := Aside0.mk (Kd.R_kept F320.out hk2_ (fun k_ h1_ h2_ => by skip; have := HZ224.out; have := HZ227.out; have := HZ239.out; have := HZ249.out; have := HZ252.out; have := HZ266.out; have := HZ276.out; have := HZ279.out; have := HZ284.out; have := HZ287.out; have := HZ295.out; have := HZ303.out; have := HZ306.out; have h3_ := h1_.1; omega))
  clear F320
  have F320 := hn_
  clear hn_
  have hn_ := Aside0.mk (f0_)
  have F216n := hn_
  clear hn_
  clear F216
  have F216 := F216n
  clear F216n
  have hn_ := Aside0.mk (blk_kept BK3.out hk2_ (fun h_ => by skip; have := HZ13.out; have := HZ18.out; have := HZ23.out; have := HZ26.out; have := HZ194.out; have := HZ195.out; have := HZ196.out; have := HZ206.out; have := GQ4.out; omega))
  clear hczb1_0 hfzb1_0; clear hczb1_1 hfzb1_1
  clear BK3
  have BK3 := hn_
  clear hn_
  have hn_ := Aside0.mk (blk_kept BK10.out hk2_ (fun h_ => by skip; have := HZ18.out; have := HZ23.out; have := HZ26.out; have := HZ194.out; have := HZ195.out; have := HZ196.out; have := HZ206.out; have := GQ11.out; omega))
  clear hczb8_0 hfzb8_0; clear hczb8_1 hfzb8_1; clear hczb8_2 hfzb8_2; clear hczb8_3 hfzb8_3; clear hczb8_4 hfzb8_4; clear hczb8_5 hfzb8_5
  clear BK10
  have BK10 := hn_
  clear hn_
  have hn_ := Aside0.mk (blk_kept BK203.out hk2_ (fun h_ => by skip; have := HZ206.out; have := GQ204.out; omega))
  clear hczb202_0 hfzb202_0; clear hczb202_1 hfzb202_1; clear hczb202_2 hfzb202_2; clear hczb202_3 hfzb202_3; clear hczb202_4 hfzb202_4; clear hczb202_5 hfzb202_5
  clear BK203
  have BK203 := hn_
  clear hn_
  have hn_ := Aside0.mk (blk_kept BK221.out hk2_ (fun h_ => by skip; have := GQ222.out; omega))
  clear hczb219_0 hfzb219_0; clear hczb219_1 hfzb219_1
  clear BK221
  have BK221 := hn_
  clear hn_
  have hn_ := Aside0.mk (blk_kept BK246.out hk2_ (fun h_ => by skip; have := HZ224.out; have := HZ227.out; have := HZ239.out; have := GQ247.out; omega))
  clear hczb244_0 hfzb244_0; clear hczb244_1 hfzb244_1; clear hczb244_2 hfzb244_2; clear hczb244_3 hfzb244_3; clear hczb244_4 hfzb244_4; clear hczb244_5 hfzb244_5
  clear BK246
  have BK246 := hn_
  clear hn_
  have hn_ := Aside0.mk (blk_kept BK273.out hk2_ (fun h_ => by skip; have := HZ224.out; have := HZ227.out; have := HZ239.out; have := HZ249.out; have := HZ252.out; have := HZ266.out; have := GQ274.out; omega))
  clear hczb271_0 hfzb271_0; clear hczb271_1 hfzb271_1; clear hczb271_2 hfzb271_2; clear hczb271_3 hfzb271_3; clear hczb271_4 hfzb271_4; clear hczb271_5 hfzb271_5
  clear BK273
  have BK273 := hn_
  clear hn_
  clear hk2_ hk_ hb0_ f0_
  obtain ⟨hczb1_0, hfzb1_0, hczb1_1, hfzb1_1⟩ := bk2 BK3.out
  obtain ⟨hczb8_0, hfzb8_0, hczb8_1, hfzb8_1, hczb8_2, hfzb8_2, hczb8_3, hfzb8_3, hczb8_4, hfzb8_4, hczb8_5, hfzb8_5⟩ := bk6 BK10.out
  obtain ⟨hczb202_0, hfzb202_0, hczb202_1, hfzb202_1, hczb202_2, hfzb202_2, hczb202_3, hfzb202_3, hczb202_4, hfzb202_4, hczb202_5, hfzb202_5⟩ := bk6 BK203.out
  obtain ⟨hczb219_0, hfzb219_0, hczb219_1, hfzb219_1⟩ := bk2 BK221.out
  obtain ⟨hczb244_0, hfzb244_0, hczb244_1, hfzb244_1, hczb244_2, hfzb244_2, hczb244_3, hfzb244_3, hczb244_4, hfzb244_4, hczb244_5, hfzb244_5⟩ := bk6 BK246.out
  obtain ⟨hczb271_0, hfzb271_0, hczb271_1, hfzb271_1, hczb271_2, hfzb271_2, hczb271_3, hfzb271_3, hczb271_4, hfzb271_4, hczb271_5, hfzb271_5⟩ := bk6 BK273.out
  have hl331 := (Kd.S_reads' F216.out).1
  have HL331 := Aside0.mk hl331
  clear hl331
  have hn1_ : decide ((1 + (markClassS_cnt t208 : Nat) : Int) < 0) = false := decide_eq_false (by omega)
  have hd332 := hn1_
  clear hn1_
  go_wp2_with fail
  refine (laws_markCache.calls k t229 t230 (fun k_ => (w226.heap.size ≤ k_ ∧ k_ < w236.heap.size) ∧ some k_ = (.slice A242 t231.length c243 : Value).ownBlock ∧ (True)) _ t231 t232 t233 t234 (1 + (markClassS_cnt t208 : Nat) : Int) t334 t335 w _ HB.out F241.out H336.out).mono ?_
  rintro e_ w333 ⟨rfl, f0_, hb0_, hk_⟩
  have hk2_ : Kept w328 w333 (fun k_ => w226.heap.size ≤ k_ ∧ k_ < w236.heap.size) := Kept.mono hk_ (fun k_ h_ => by first | exact h_ | exact h_.1)
  have HZ338 := Aside0.mk (show w328.heap.size ≤ w333.heap.size from hk2_.1)
  clear HB
  have HB := Aside0.mk hb0_
  have hn_ := Aside0.mk (Kd.R_kept F201.out hk2_ (fun k_ h1_ h2_ => by skip; have := HZ196.out; have := HZ206.out; have := HZ214.out; have := HZ224.out; have := HZ227.out; have h3_ := h1_.1; omega))
  clear F201
  have F201 := hn_
  clear hn_
  have hn_ := Aside0.mk (Kd.S_kept F216.out hk2_ (fun k_ h1_ h2_ => by skip; have := HZ224.out; have := HZ227.out; have h3_ := h1_.1; omega))
  clear F216
  have F216 := hn_
  clear hn_
  have hn_ := Aside0.mk (Kd.R_kept F268.out hk2_ (fun k_ h1_ h2_ => by skip; have := HZ249.out; have := HZ252.out; have h3_ := h1_.1; omega))
  clear F268
  have F268 := hn_
  clear hn_
  have hn_ := Aside0.mk (Kd.S_kept F297.out hk2_ (fun k_ h1_ h2_ => by skip; have := HZ249.out; have := HZ252.out; have := HZ266.out; have := HZ276.out; have := HZ279.out; have := HZ284.out; have := HZ287.out; have h3_ := h1_.1; omega))
  clear F297
  have F297 := hn_
  clear hn_
  have hn_ := Aside0.mk (Kd.R_kept F320.out hk2_ (fun k_ h1_ h2_ => by skip; have := HZ249.out; have := HZ252.out; have := HZ266.out; have := HZ276.out; have := HZ279.out; have := HZ284.out; have := HZ287.out; have := HZ295.out; have := HZ303.out; have := HZ306.out; have h3_ := h1_.1; omega))
  clear F320
  have F320 := hn_
  clear hn_
  have hn_ := Aside0.mk (Lk.markedR rfl f0_ (fun k_ e_ => (show (w226.heap.size ≤ k_ ∧ k_ < w236.heap.size) ∧ some k_ = (.slice A242 t231.length c243 : Value).ownBlock ∧ (True) from (F241.out.1 k_ e_.symm))))
  have F241n := hn_
  clear hn_
  clear F241
  have F241 := F241n
  clear F241n
  have hn_ := Aside0.mk (blk_kept BK3.out hk2_ (fun h_ => by skip; have := HZ13.out; have := HZ18.out; have := HZ23.out; have := HZ26.out; have := HZ194.out; have := HZ195.out; have := HZ196.out; have := HZ206.out; have := HZ214.out; have := HZ224.out; have := HZ227.out; have := GQ4.out; omega))
  clear hczb1_0 hfzb1_0; clear hczb1_1 hfzb1_1
  clear BK3
  have BK3 := hn_
  clear hn_
  have hn_ := Aside0.mk (blk_kept BK10.out hk2_ (fun h_ => by skip; have := HZ18.out; have := HZ23.out; have := HZ26.out; have := HZ194.out; have := HZ195.out; have := HZ196.out; have := HZ206.out; have := HZ214.out; have := HZ224.out; have := HZ227.out; have := GQ11.out; omega))
  clear hczb8_0 hfzb8_0; clear hczb8_1 hfzb8_1; clear hczb8_2 hfzb8_2; clear hczb8_3 hfzb8_3; clear hczb8_4 hfzb8_4; clear hczb8_5 hfzb8_5
  clear BK10
  have BK10 := hn_
  clear hn_
  have hn_ := Aside0.mk (blk_kept BK203.out hk2_ (fun h_ => by skip; have := HZ206.out; have := HZ214.out; have := HZ224.out; have := HZ227.out; have := GQ204.out; omega))
  clear hczb202_0 hfzb202_0; clear hczb202_1 hfzb202_1; clear hczb202_2 hfzb202_2; clear hczb202_3 hfzb202_3; clear hczb202_4 hfzb202_4; clear hczb202_5 hfzb202_5
  clear BK203
  have BK203 := hn_
  clear hn_
  have hn_ := Aside0.mk (blk_kept BK221.out hk2_ (fun h_ => by skip; have := HZ227.out; have := GQ222.out; omega))
  clear hczb219_0 hfzb219_0; clear hczb219_1 hfzb219_1
  clear BK221
  have BK221 := hn_
  clear hn_
  have hn_ := Aside0.mk (blk_kept BK246.out hk2_ (fun h_ => by skip; have := GQ247.out; omega))
  clear hczb244_0 hfzb244_0; clear hczb244_1 hfzb244_1; clear hczb244_2 hfzb244_2; clear hczb244_3 hfzb244_3; clear hczb244_4 hfzb244_4; clear hczb244_5 hfzb244_5
  clear BK246
  have BK246 := hn_
  clear hn_
  have hn_ := Aside0.mk (blk_kept BK273.out hk2_ (fun h_ => by skip; have := HZ249.out; have := HZ252.out; have := HZ266.out; have := GQ274.out; omega))
  clear hczb271_0 hfzb271_0; clear hczb271_1 hfzb271_1; clear hczb271_2 hfzb271_2; clear hczb271_3 hfzb271_3; clear hczb271_4 hfzb271_4; clear hczb271_5 hfzb271_5
  clear BK273
  have BK273 := hn_
  clear hn_
  clear hk2_ hk_ hb0_ f0_
  obtain ⟨hczb1_0, hfzb1_0, hczb1_1, hfzb1_1⟩ := bk2 BK3.out
  obtain ⟨hczb8_0, hfzb8_0, hczb8_1, hfzb8_1, hczb8_2, hfzb8_2, hczb8_3, hfzb8_3, hczb8_4, hfzb8_4, hczb8_5, hfzb8_5⟩ := bk6 BK10.out
  obtain ⟨hczb202_0, hfzb202_0, hczb202_1, hfzb202_1, hczb202_2, hfzb202_2, hczb202_3, hfzb202_3, hczb202_4, hfzb202_4, hczb202_5, hfzb202_5⟩ := bk6 BK203.out
  obtain ⟨hczb219_0, hfzb219_0, hczb219_1, hfzb219_1⟩ := bk2 BK221.out
  obtain ⟨hczb244_0, hfzb244_0, hczb244_1, hfzb244_1, hczb244_2, hfzb244_2, hczb244_3, hfzb244_3, hczb244_4, hfzb244_4, hczb244_5, hfzb244_5⟩ := bk6 BK246.out
  obtain ⟨hczb271_0, hfzb271_0, hczb271_1, hfzb271_1, hczb271_2, hfzb271_2, hczb271_3, hfzb271_3, hczb271_4, hfzb271_4, hczb271_5, hfzb271_5⟩ := bk6 BK273.out
  have hl339 := (Kd.R_reads' F241.out).1
  have HL339 := Aside0.mk hl339
  clear hl339
  have hn1_ : decide (t334 < 0) = false := decide_eq_false (by have := H337.out; omega)
  have hd340 := hn1_
  clear hn1_
  go_wp2_with fail
  refine (laws_eqCache.calls k t254 t255 _ _ t256 t257 t258 t259 t54 t55 _ _ t56 t57 t58 t59 true _ (Lk.Rr F268.out).2 (Lk.Rr F268.out).1 (Lk.Rr F201.out).2 (Lk.Rr F201.out).1 H342.out).mono ?_
  rintro e_ w343 ⟨rfl, hb⟩
  have hq_ : Below w333.heap.size w333 w343 := ⟨hb.os, hb.tape, hb.output, hb.size, hb.block⟩
  have HZ344 := Aside0.mk (show w333.heap.size ≤ w343.heap.size from hq_.size)
  replace HB := Aside0.mk (below_then HB.out HB.out.size hq_)
  have HA345 := Aside0.mk (show w.heap.size ≤ w343.heap.size from HB.out.size)
  replace F201 := Aside0.mk (Kd.R_below F201.out hq_)
  replace F216 := Aside0.mk (Kd.S_below F216.out hq_)
  replace F241 := Aside0.mk (Kd.R_below F241.out hq_)
  replace F268 := Aside0.mk (Kd.R_below F268.out hq_)
  replace F297 := Aside0.mk (Kd.S_below F297.out hq_)
  replace F320 := Aside0.mk (Kd.R_below F320.out hq_)
  have hn_ := Aside0.mk (blk_below BK3.out hq_)
  clear hczb1_0 hfzb1_0; clear hczb1_1 hfzb1_1
  clear BK3
  have BK3 := hn_
  clear hn_
  have hn_ := Aside0.mk (blk_below BK10.out hq_)
  clear hczb8_0 hfzb8_0; clear hczb8_1 hfzb8_1; clear hczb8_2 hfzb8_2; clear hczb8_3 hfzb8_3; clear hczb8_4 hfzb8_4; clear hczb8_5 hfzb8_5
  clear BK10
  have BK10 := hn_
  clear hn_
  have hn_ := Aside0.mk (blk_below BK203.out hq_)
  clear hczb202_0 hfzb202_0; clear hczb202_1 hfzb202_1; clear hczb202_2 hfzb202_2; clear hczb202_3 hfzb202_3; clear hczb202_4 hfzb202_4; clear hczb202_5 hfzb202_5
  clear BK203
  have BK203 := hn_
  clear hn_
  have hn_ := Aside0.mk (blk_below BK221.out hq_)
  clear hczb219_0 hfzb219_0; clear hczb219_1 hfzb219_1
  clear BK221
  have BK221 := hn_
  clear hn_
  have hn_ := Aside0.mk (blk_below BK246.out hq_)
  clear hczb244_0 hfzb244_0; clear hczb244_1 hfzb244_1; clear hczb244_2 hfzb244_2; clear hczb244_3 hfzb244_3; clear hczb244_4 hfzb244_4; clear hczb244_5 hfzb244_5
  clear BK246
  have BK246 := hn_
  clear hn_
  have hn_ := Aside0.mk (blk_below BK273.out hq_)
  clear hczb271_0 hfzb271_0; clear hczb271_1 hfzb271_1; clear hczb271_2 hfzb271_2; clear hczb271_3 hfzb271_3; clear hczb271_4 hfzb271_4; clear hczb271_5 hfzb271_5
  clear BK273
  have BK273 := hn_
  clear hn_
  clear hq_
  obtain ⟨hczb1_0, hfzb1_0, hczb1_1, hfzb1_1⟩ := bk2 BK3.out
  obtain ⟨hczb8_0, hfzb8_0, hczb8_1, hfzb8_1, hczb8_2, hfzb8_2, hczb8_3, hfzb8_3, hczb8_4, hfzb8_4, hczb8_5, hfzb8_5⟩ := bk6 BK10.out
  obtain ⟨hczb202_0, hfzb202_0, hczb202_1, hfzb202_1, hczb202_2, hfzb202_2, hczb202_3, hfzb202_3, hczb202_4, hfzb202_4, hczb202_5, hfzb202_5⟩ := bk6 BK203.out
  obtain ⟨hczb219_0, hfzb219_0, hczb219_1, hfzb219_1⟩ := bk2 BK221.out
  obtain ⟨hczb244_0, hfzb244_0, hczb244_1, hfzb244_1, hczb244_2, hfzb244_2, hczb244_3, hfzb244_3, hczb244_4, hfzb244_4, hczb244_5, hfzb244_5⟩ := bk6 BK246.out
  obtain ⟨hczb271_0, hfzb271_0, hczb271_1, hfzb271_1, hczb271_2, hfzb271_2, hczb271_3, hfzb271_3, hczb271_4, hfzb271_4, hczb271_5, hfzb271_5⟩ := bk6 BK273.out
  clear hb
  go_wp2_with fail
  refine (laws_markCache.calls k t254 t255 (fun k_ => (w251.heap.size ≤ k_ ∧ k_ < w263.heap.size) ∧ some k_ = (.slice A269 t256.length c270 : Value).ownBlock ∧ (True)) _ t256 t257 t258 t259 1 t347 t348 w _ HB.out F268.out H349.out).mono ?_
  rintro e_ w346 ⟨rfl, f0_, hb0_, hk_⟩
  have hk2_ : Kept w343 w346 (fun k_ => w251.heap.size ≤ k_ ∧ k_ < w263.heap.size) := Kept.mono hk_ (fun k_ h_ => by first | exact h_ | exact h_.1)
  have HZ351 := Aside0.mk (show w343.heap.size ≤ w346.heap.size from hk2_.1)
  clear HB
  have HB := Aside0.mk hb0_
  have hn_ := Aside0.mk (Kd.R_kept F201.out hk2_ (fun k_ h1_ h2_ => by skip; have := HZ196.out; have := HZ206.out; have := HZ214.out; have := HZ224.out; have := HZ227.out; have := HZ239.out; have := HZ249.out; have := HZ252.out; have h3_ := h1_.1; omega))
  clear F201
  have F201 := hn_
  clear hn_
  have hn_ := Aside0.mk (Kd.S_kept F216.out hk2_ (fun k_ h1_ h2_ => by skip; have := HZ224.out; have := HZ227.out; have := HZ239.out; have := HZ249.out; have := HZ252.out; have h3_ := h1_.1; omega))
  clear F216
  have F216 := hn_
  clear hn_
  have hn_ := Aside0.mk (Kd.R_kept F241.out hk2_ (fun k_ h1_ h2_ => by skip; have := HZ249.out; have := HZ252.out; have h3_ := h1_.1; omega))
  clear F241
  have F241 := hn_
  clear hn_
  have hn_ := Aside0.mk (Kd.S_kept F297.out hk2_ (fun k_ h1_ h2_ => by skip; have := HZ276.out; have := HZ279.out; have := HZ284.out; have := HZ287.out; have h3_ := h1_.1; omega))
  clear F297
  have F297 := hn_
  clear hn_
  have hn_ := Aside0.mk (Kd.R_kept F320.out hk2_ (fun k_ h1_ h2_ => by skip; have := HZ276.out; have := HZ279.out; have := HZ284.out; have := HZ287.out; have := HZ295.out; have := HZ303.out; have := HZ306.out; have h3_ := h1_.1; omega))
  clear F320
  have F320 := hn_
  clear hn_
  have hn_ := Aside0.mk (Lk.markedR rfl f0_ (fun k_ e_ => (show (w251.heap.size ≤ k_ ∧ k_ < w263.heap.size) ∧ some k_ = (.slice A269 t256.length c270 : Value).ownBlock ∧ (True) from (F268.out.1 k_ e_.symm))))
  have F268n := hn_
  clear hn_
  clear F268
  have F268 := F268n
  clear F268n
  have hn_ := Aside0.mk (blk_kept BK3.out hk2_ (fun h_ => by skip; have := HZ13.out; have := HZ18.out; have := HZ23.out; have := HZ26.out; have := HZ194.out; have := HZ195.out; have := HZ196.out; have := HZ206.out; have := HZ214.out; have := HZ224.out; have := HZ227.out; have := HZ239.out; have := HZ249.out; have := HZ252.out; have := GQ4.out; omega))
  clear hczb1_0 hfzb1_0; clear hczb1_1 hfzb1_1
  clear BK3
  have BK3 := hn_
  clear hn_
  have hn_ := Aside0.mk (blk_kept BK10.out hk2_ (fun h_ => by skip; have := HZ18.out; have := HZ23.out; have := HZ26.out; have := HZ194.out; have := HZ195.out; have := HZ196.out; have := HZ206.out; have := HZ214.out; have := HZ224.out; have := HZ227.out; have := HZ239.out; have := HZ249.out; have := HZ252.out; have := GQ11.out; omega))
  clear hczb8_0 hfzb8_0; clear hczb8_1 hfzb8_1; clear hczb8_2 hfzb8_2; clear hczb8_3 hfzb8_3; clear hczb8_4 hfzb8_4; clear hczb8_5 hfzb8_5
  clear BK10
  have BK10 := hn_
  clear hn_
  have hn_ := Aside0.mk (blk_kept BK203.out hk2_ (fun h_ => by skip; have := HZ206.out; have := HZ214.out; have := HZ224.out; have := HZ227.out; have := HZ239.out; have := HZ249.out; have := HZ252.out; have := GQ204.out; omega))
  clear hczb202_0 hfzb202_0; clear hczb202_1 hfzb202_1; clear hczb202_2 hfzb202_2; clear hczb202_3 hfzb202_3; clear hczb202_4 hfzb202_4; clear hczb202_5 hfzb202_5
  clear BK203
  have BK203 := hn_
  clear hn_
  have hn_ := Aside0.mk (blk_kept BK221.out hk2_ (fun h_ => by skip; have := HZ227.out; have := HZ239.out; have := HZ249.out; have := HZ252.out; have := GQ222.out; omega))
  clear hczb219_0 hfzb219_0; clear hczb219_1 hfzb219_1
  clear BK221
  have BK221 := hn_
  clear hn_
  have hn_ := Aside0.mk (blk_kept BK246.out hk2_ (fun h_ => by skip; have := HZ252.out; have := GQ247.out; omega))
  clear hczb244_0 hfzb244_0; clear hczb244_1 hfzb244_1; clear hczb244_2 hfzb244_2; clear hczb244_3 hfzb244_3; clear hczb244_4 hfzb244_4; clear hczb244_5 hfzb244_5
  clear BK246
  have BK246 := hn_
  clear hn_
  have hn_ := Aside0.mk (blk_kept BK273.out hk2_ (fun h_ => by skip; have := GQ274.out; omega))
  clear hczb271_0 hfzb271_0; clear hczb271_1 hfzb271_1; clear hczb271_2 hfzb271_2; clear hczb271_3 hfzb271_3; clear hczb271_4 hfzb271_4; clear hczb271_5 hfzb271_5
  clear BK273
  have BK273 := hn_
  clear hn_
  clear hk2_ hk_ hb0_ f0_
  obtain ⟨hczb1_0, hfzb1_0, hczb1_1, hfzb1_1⟩ := bk2 BK3.out
  obtain ⟨hczb8_0, hfzb8_0, hczb8_1, hfzb8_1, hczb8_2, hfzb8_2, hczb8_3, hfzb8_3, hczb8_4, hfzb8_4, hczb8_5, hfzb8_5⟩ := bk6 BK10.out
  obtain ⟨hczb202_0, hfzb202_0, hczb202_1, hfzb202_1, hczb202_2, hfzb202_2, hczb202_3, hfzb202_3, hczb202_4, hfzb202_4, hczb202_5, hfzb202_5⟩ := bk6 BK203.out
  obtain ⟨hczb219_0, hfzb219_0, hczb219_1, hfzb219_1⟩ := bk2 BK221.out
  obtain ⟨hczb244_0, hfzb244_0, hczb244_1, hfzb244_1, hczb244_2, hfzb244_2, hczb244_3, hfzb244_3, hczb244_4, hfzb244_4, hczb244_5, hfzb244_5⟩ := bk6 BK246.out
  obtain ⟨hczb271_0, hfzb271_0, hczb271_1, hfzb271_1, hczb271_2, hfzb271_2, hczb271_3, hfzb271_3, hczb271_4, hfzb271_4, hczb271_5, hfzb271_5⟩ := bk6 BK273.out
  have hl352 := (Kd.R_reads' F268.out).1
  have HL352 := Aside0.mk hl352
  clear hl352
  have hn1_ : decide (t347 < 0) = false := decide_eq_false (by have := H350.out; omega)
  have hd353 := hn1_
  clear hn1_
  go_wp2_with fail
  have hc_ := laws_heldCache.calls k t254 t255 _ _ t348 t257 t258 t259 1 t347 _ (Lk.Rr F268.out).2 (Lk.Rr F268.out).1 H355.out
  simp only [← HL352.out] at hc_
  refine hc_.mono ?_
  clear hc_
  rintro e_ w356 ⟨rfl, hb⟩
  have hq_ : Below w346.heap.size w346 w356 := ⟨hb.os, hb.tape, hb.output, hb.size, hb.block⟩
  have HZ357 := Aside0.mk (show w346.heap.size ≤ w356.heap.size from hq_.size)
  replace HB := Aside0.mk (below_then HB.out HB.out.size hq_)
  have HA358 := Aside0.mk (show w.heap.size ≤ w356.heap.size from HB.out.size)
  replace F201 := Aside0.mk (Kd.R_below F201.out hq_)
  replace F216 := Aside0.mk (Kd.S_below F216.out hq_)
  replace F241 := Aside0.mk (Kd.R_below F241.out hq_)
  replace F268 := Aside0.mk (Kd.R_below F268.out hq_)
  replace F297 := Aside0.mk (Kd.S_below F297.out hq_)
  replace F320 := Aside0.mk (Kd.R_below F320.out hq_)
  have hn_ := Aside0.mk (blk_below BK3.out hq_)
  clear hczb1_0 hfzb1_0; clear hczb1_1 hfzb1_1
  clear BK3
  have BK3 := hn_
  clear hn_
  have hn_ := Aside0.mk (blk_below BK10.out hq_)
  clear hczb8_0 hfzb8_0; clear hczb8_1 hfzb8_1; clear hczb8_2 hfzb8_2; clear hczb8_3 hfzb8_3; clear hczb8_4 hfzb8_4; clear hczb8_5 hfzb8_5
  clear BK10
  have BK10 := hn_
  clear hn_
  have hn_ := Aside0.mk (blk_below BK203.out hq_)
  clear hczb202_0 hfzb202_0; clear hczb202_1 hfzb202_1; clear hczb202_2 hfzb202_2; clear hczb202_3 hfzb202_3; clear hczb202_4 hfzb202_4; clear hczb202_5 hfzb202_5
  clear BK203
  have BK203 := hn_
  clear hn_
  have hn_ := Aside0.mk (blk_below BK221.out hq_)
  clear hczb219_0 hfzb219_0; clear hczb219_1 hfzb219_1
  clear BK221
  have BK221 := hn_
  clear hn_
  have hn_ := Aside0.mk (blk_below BK246.out hq_)
  clear hczb244_0 hfzb244_0; clear hczb244_1 hfzb244_1; clear hczb244_2 hfzb244_2; clear hczb244_3 hfzb244_3; clear hczb244_4 hfzb244_4; clear hczb244_5 hfzb244_5
  clear BK246
  have BK246 := hn_
  clear hn_
  have hn_ := Aside0.mk (blk_below BK273.out hq_)
  clear hczb271_0 hfzb271_0; clear hczb271_1 hfzb271_1; clear hczb271_2 hfzb271_2; clear hczb271_3 hfzb271_3; clear hczb271_4 hfzb271_4; clear hczb271_5 hfzb271_5
  clear BK273
  have BK273 := hn_
  clear hn_
  clear hq_
  obtain ⟨hczb1_0, hfzb1_0, hczb1_1, hfzb1_1⟩ := bk2 BK3.out
  obtain ⟨hczb8_0, hfzb8_0, hczb8_1, hfzb8_1, hczb8_2, hfzb8_2, hczb8_3, hfzb8_3, hczb8_4, hfzb8_4, hczb8_5, hfzb8_5⟩ := bk6 BK10.out
  obtain ⟨hczb202_0, hfzb202_0, hczb202_1, hfzb202_1, hczb202_2, hfzb202_2, hczb202_3, hfzb202_3, hczb202_4, hfzb202_4, hczb202_5, hfzb202_5⟩ := bk6 BK203.out
  obtain ⟨hczb219_0, hfzb219_0, hczb219_1, hfzb219_1⟩ := bk2 BK221.out
  obtain ⟨hczb244_0, hfzb244_0, hczb244_1, hfzb244_1, hczb244_2, hfzb244_2, hczb244_3, hfzb244_3, hczb244_4, hfzb244_4, hczb244_5, hfzb244_5⟩ := bk6 BK246.out
  obtain ⟨hczb271_0, hfzb271_0, hczb271_1, hfzb271_1, hczb271_2, hfzb271_2, hczb271_3, hfzb271_3, hczb271_4, hfzb271_4, hczb271_5, hfzb271_5⟩ := bk6 BK273.out
  clear hb
  go_wp2_with fail
  have hb : Below w356.heap.size w356 w356.drew := below_drew (Below.refl _ _)
  obtain ⟨w359, hw_⟩ : ∃ w359, w356.drew = w359 := ⟨_, rfl⟩
  rw [hw_] at hb
  have hq_ : Below w356.heap.size w356 w359 := ⟨hb.os, hb.tape, hb.output, hb.size, hb.block⟩
  have HZ360 := Aside0.mk (show w356.heap.size ≤ w359.heap.size from hq_.size)
  replace HB := Aside0.mk (below_then HB.out HB.out.size hq_)
  have HA361 := Aside0.mk (show w.heap.size ≤ w359.heap.size from HB.out.size)
  replace F201 := Aside0.mk (Kd.R_below F201.out hq_)
  replace F216 := Aside0.mk (Kd.S_below F216.out hq_)
  replace F241 := Aside0.mk (Kd.R_below F241.out hq_)
  replace F268 := Aside0.mk (Kd.R_below F268.out hq_)
  replace F297 := Aside0.mk (Kd.S_below F297.out hq_)
  replace F320 := Aside0.mk (Kd.R_below F320.out hq_)
  have hn_ := Aside0.mk (blk_below BK3.out hq_)
  clear hczb1_0 hfzb1_0; clear hczb1_1 hfzb1_1
  clear BK3
  have BK3 := hn_
  clear hn_
  have hn_ := Aside0.mk (blk_below BK10.out hq_)
  clear hczb8_0 hfzb8_0; clear hczb8_1 hfzb8_1; clear hczb8_2 hfzb8_2; clear hczb8_3 hfzb8_3; clear hczb8_4 hfzb8_4; clear hczb8_5 hfzb8_5
  clear BK10
  have BK10 := hn_
  clear hn_
  have hn_ := Aside0.mk (blk_below BK203.out hq_)
  clear hczb202_0 hfzb202_0; clear hczb202_1 hfzb202_1; clear hczb202_2 hfzb202_2; clear hczb202_3 hfzb202_3; clear hczb202_4 hfzb202_4; clear hczb202_5 hfzb202_5
  clear BK203
  have BK203 := hn_
  clear hn_
  have hn_ := Aside0.mk (blk_below BK221.out hq_)
  clear hczb219_0 hfzb219_0; clear hczb219_1 hfzb219_1
  clear BK221
  have BK221 := hn_
  clear hn_
  have hn_ := Aside0.mk (blk_below BK246.out hq_)
  clear hczb244_0 hfzb244_0; clear hczb244_1 hfzb244_1; clear hczb244_2 hfzb244_2; clear hczb244_3 hfzb244_3; clear hczb244_4 hfzb244_4; clear hczb244_5 hfzb244_5
  clear BK246
  have BK246 := hn_
  clear hn_
  have hn_ := Aside0.mk (blk_below BK273.out hq_)
  clear hczb271_0 hfzb271_0; clear hczb271_1 hfzb271_1; clear hczb271_2 hfzb271_2; clear hczb271_3 hfzb271_3; clear hczb271_4 hfzb271_4; clear hczb271_5 hfzb271_5
  clear BK273
  have BK273 := hn_
  clear hn_
  clear hq_
  obtain ⟨hczb1_0, hfzb1_0, hczb1_1, hfzb1_1⟩ := bk2 BK3.out
  obtain ⟨hczb8_0, hfzb8_0, hczb8_1, hfzb8_1, hczb8_2, hfzb8_2, hczb8_3, hfzb8_3, hczb8_4, hfzb8_4, hczb8_5, hfzb8_5⟩ := bk6 BK10.out
  obtain ⟨hczb202_0, hfzb202_0, hczb202_1, hfzb202_1, hczb202_2, hfzb202_2, hczb202_3, hfzb202_3, hczb202_4, hfzb202_4, hczb202_5, hfzb202_5⟩ := bk6 BK203.out
  obtain ⟨hczb219_0, hfzb219_0, hczb219_1, hfzb219_1⟩ := bk2 BK221.out
  obtain ⟨hczb244_0, hfzb244_0, hczb244_1, hfzb244_1, hczb244_2, hfzb244_2, hczb244_3, hfzb244_3, hczb244_4, hfzb244_4, hczb244_5, hfzb244_5⟩ := bk6 BK246.out
  obtain ⟨hczb271_0, hfzb271_0, hczb271_1, hfzb271_1, hczb271_2, hfzb271_2, hczb271_3, hfzb271_3, hczb271_4, hfzb271_4, hczb271_5, hfzb271_5⟩ := bk6 BK273.out
  refine start_ (n := 14) (S := fun w' => w'.cell? ⟨gb2, 0, none⟩ = some (.slice A0_0 l0_0.length c0_0) ∧ w'.cell? ⟨gb2, 1, none⟩ = some (.int .i64 a0_1) ∧ w'.cell? ⟨gb9, 0, none⟩ = some (.int .i64 a1_0) ∧ w'.cell? ⟨gb9, 1, none⟩ = some (.int .i64 a1_1) ∧ w'.cell? ⟨gb9, 2, none⟩ = some (.slice A1_2 l1_2.length c1_2) ∧ w'.cell? ⟨gb9, 3, none⟩ = some (.int .i64 a1_3) ∧ w'.cell? ⟨gb9, 4, none⟩ = some (.int .i64 a1_4) ∧ w'.cell? ⟨gb9, 5, none⟩ = some (.int .i64 a1_5)) (ds := []) (bs 14 0) kR rfl kR (by rw [hw_]; exact ⟨bZ BK3.out 0, bZ BK3.out 1, bZ BK10.out 0, bZ BK10.out 1, bZ BK10.out 2, bZ BK10.out 3, bZ BK10.out 4, bZ BK10.out 5⟩) (fun hHeld => ?_)
  rw [hw_] at hHeld ⊢
  clear hw_ hb
  have HBr := Aside0.mk (Below.refl w359.heap.size w359)
  refine take_ (i := 0) (N := some 114) (v := ?_) (a' := ?_) (bs 14 1) rfl rfl (by kernel_rfl) (fun _ _ _ h => h) (Or.inl ⟨by rfl, ?_⟩) hHeld ?_ ?_
  rotate_left
  · rintro w' ⟨s0, s1, s2, s3, s4, s5, s6, s7⟩
    go_simp
    with_reducible rfl
  rotate_left
  · simp only [Act.put, List.setIfInBounds_toArray, List.set_cons_zero, List.set_cons_succ, i64_w, i32_w]
    rfl
  refine take_ (i := 2) (N := some 116) (v := ?_) (a' := ?_) (bs 14 5) rfl rfl (by kernel_rfl) (fun _ _ _ h => h) (Or.inl ⟨by rfl, ?_⟩) hHeld ?_ ?_
  rotate_left
  · rintro w' ⟨s0, s1, s2, s3, s4, s5, s6, s7⟩
    go_simp
    with_reducible rfl
  rotate_left
  · simp only [Act.put, List.setIfInBounds_toArray, List.set_cons_zero, List.set_cons_succ, i64_w, i32_w]
    rfl
  refine pure_ (i := 4) (N := some 118) (v := ?_) (a' := ?_) (bs 14 21) rfl rfl (by kernel_rfl) (fun _ _ _ h => h) (Or.inl ⟨by rfl, ?_⟩) ?_ ?_
  rotate_left
  · intro w'
    go_simp
    with_reducible rfl
  rotate_left
  · simp only [Act.put, List.setIfInBounds_toArray, List.set_cons_zero, List.set_cons_succ, i64_w, i32_w]
    rfl
  refine join_ (σ := Value × Value × Option Addr × Nat × Nat) 3 #[true, true, true, true, true, true, true, true, true, true, true, false, false, false] (fun (v525, v526, A523, c524, gb522) => [(115, v525), (117, v526), (119, .tuple #[.agg #[.int .i64 t388, .int .i64 t389, .slice A523 t390.length c524, .int .i64 t391, .int .i64 t392, .int .i64 t393], .int .i64 t60, .bool t61]), (113, .tuple #[.agg #[.int .i64 t388, .int .i64 t389, .slice A523 t390.length c524, .int .i64 t391, .int .i64 t392, .int .i64 t393], .int .i64 t60, .bool t61]), (120, .agg #[.int .i64 t388, .int .i64 t389, .slice A523 t390.length c524, .int .i64 t391, .int .i64 t392, .int .i64 t393]), (121, .int .i64 t60), (122, .bool t61), (19, .pointer (some ⟨gb522, 0, none⟩))]) (fun (v525, v526, A523, c524, gb522) w' => Below w359.heap.size w359 w' ∧ ∃ w519 w520 : World, w359.heap.size ≤ w519.heap.size ∧ w519.heap.size ≤ w520.heap.size ∧ w520.heap.size ≤ w'.heap.size ∧ Kd.R k97 97 w' w.heap.size (fun k_ => (w519.heap.size ≤ k_ ∧ k_ < w520.heap.size) ∧ some k_ = (.slice A523 t390.length c524 : Value).ownBlock ∧ (True)) (.slice A523 t390.length c524) t390 ∧ w'.heap[gb522]? = some (.cells #[(.int .i64 0), (.int .i64 0), (.slice none 0 0), (.int .i64 0), (.int .i64 0), (.int .i64 0)] 44 (0, 0)) ∧ w359.heap.size ≤ gb522 ∧ gb522 < w'.heap.size ∧ (gb522 < w519.heap.size ∨ w520.heap.size ≤ gb522)) ?_ ?_
  rotate_left
  · intro hcont_
    refine two_ (i := 1) (j := 10) (Ni := some 115) (Nj := some 19) (bs 14 23) #[true, false, true, false, true, false, false, false, false, false, true, false, false, false] rfl rfl rfl rfl (by kernel_rfl) (by decide) (by decide) (fun K hK => ?_) (fun K hK => ?_)
    · skip
      refine goes_ Try.func15 (by kernel_rfl) rfl #[.agg #[.slice A0_0 l0_0.length c0_0, .int .i64 a0_1]] (by rfl) rfl rfl (by (try simp only [List.map_toArray, List.map_cons, List.map_nil]); first | done | rfl | (simp only [List.length_drop, List.length_take]; rfl)) ?_
      refine (laws_toWorld.calls k _ _ l0_0 a0_1 t362 t363 _ (Kd.C_below HR0_0.out HB.out) HC0_0.out H364.out).mono ?_
      rintro e_ w365 ⟨v366, rfl, f367, hb⟩
      have hq_ : Below w359.heap.size w359 w365 := ⟨hb.os, hb.tape, hb.output, hb.size, hb.block⟩
      have HZ368 := Aside0.mk (show w359.heap.size ≤ w365.heap.size from hq_.size)
      replace HB := Aside0.mk (below_then HB.out HB.out.size hq_)
      have HA369 := Aside0.mk (show w.heap.size ≤ w365.heap.size from HB.out.size)
      replace F201 := Aside0.mk (Kd.R_below F201.out hq_)
      replace F216 := Aside0.mk (Kd.S_below F216.out hq_)
      replace F241 := Aside0.mk (Kd.R_below F241.out hq_)
      replace F268 := Aside0.mk (Kd.R_below F268.out hq_)
      replace F297 := Aside0.mk (Kd.S_below F297.out hq_)
      replace F320 := Aside0.mk (Kd.R_below F320.out hq_)
      have hn_ := Aside0.mk (blk_below BK3.out hq_)
      clear hczb1_0 hfzb1_0; clear hczb1_1 hfzb1_1
      clear BK3
      have BK3 := hn_
      clear hn_
      have hn_ := Aside0.mk (blk_below BK10.out hq_)
      clear hczb8_0 hfzb8_0; clear hczb8_1 hfzb8_1; clear hczb8_2 hfzb8_2; clear hczb8_3 hfzb8_3; clear hczb8_4 hfzb8_4; clear hczb8_5 hfzb8_5
      clear BK10
      have BK10 := hn_
      clear hn_
      have hn_ := Aside0.mk (blk_below BK203.out hq_)
      clear hczb202_0 hfzb202_0; clear hczb202_1 hfzb202_1; clear hczb202_2 hfzb202_2; clear hczb202_3 hfzb202_3; clear hczb202_4 hfzb202_4; clear hczb202_5 hfzb202_5
      clear BK203
      have BK203 := hn_
      clear hn_
      have hn_ := Aside0.mk (blk_below BK221.out hq_)
      clear hczb219_0 hfzb219_0; clear hczb219_1 hfzb219_1
      clear BK221
      have BK221 := hn_
      clear hn_
      have hn_ := Aside0.mk (blk_below BK246.out hq_)
      clear hczb244_0 hfzb244_0; clear hczb244_1 hfzb244_1; clear hczb244_2 hfzb244_2; clear hczb244_3 hfzb244_3; clear hczb244_4 hfzb244_4; clear hczb244_5 hfzb244_5
      clear BK246
      have BK246 := hn_
      clear hn_
      have hn_ := Aside0.mk (blk_below BK273.out hq_)
      clear hczb271_0 hfzb271_0; clear hczb271_1 hfzb271_1; clear hczb271_2 hfzb271_2; clear hczb271_3 hfzb271_3; clear hczb271_4 hfzb271_4; clear hczb271_5 hfzb271_5
      clear BK273
      have BK273 := hn_
      clear hn_
      clear hq_
      obtain ⟨hczb1_0, hfzb1_0, hczb1_1, hfzb1_1⟩ := bk2 BK3.out
      obtain ⟨hczb8_0, hfzb8_0, hczb8_1, hfzb8_1, hczb8_2, hfzb8_2, hczb8_3, hfzb8_3, hczb8_4, hfzb8_4, hczb8_5, hfzb8_5⟩ := bk6 BK10.out
      obtain ⟨hczb202_0, hfzb202_0, hczb202_1, hfzb202_1, hczb202_2, hfzb202_2, hczb202_3, hfzb202_3, hczb202_4, hfzb202_4, hczb202_5, hfzb202_5⟩ := bk6 BK203.out
      obtain ⟨hczb219_0, hfzb219_0, hczb219_1, hfzb219_1⟩ := bk2 BK221.out
      obtain ⟨hczb244_0, hfzb244_0, hczb244_1, hfzb244_1, hczb244_2, hfzb244_2, hczb244_3, hfzb244_3, hczb244_4, hfzb244_4, hczb244_5, hfzb244_5⟩ := bk6 BK246.out
      obtain ⟨hczb271_0, hfzb271_0, hczb271_1, hfzb271_1, hczb271_2, hfzb271_2, hczb271_3, hfzb271_3, hczb271_4, hfzb271_4, hczb271_5, hfzb271_5⟩ := bk6 BK273.out
      replace HBr := Aside0.mk (below_then HBr.out HBr.out.size hb)
      clear hb
      refine ⟨_, rfl, ?_⟩
      have F370 := Aside0.mk (Lk.newS (b := w359.heap.size) (base := w.heap.size) (Sep := fun k_ => True) f367 (HA361.out) (fun k_ hk_ => hk_))
      clear f367
      obtain ⟨A371, c372, e_⟩ := Kd.S_slice F370.out
      subst e_
      refine hK.out _ _ ⟨bZ BK3.out 0, bZ BK3.out 1, bZ BK10.out 0, bZ BK10.out 1, bZ BK10.out 2, bZ BK10.out 3, bZ BK10.out 4, bZ BK10.out 5⟩ (fun hHeld => ?_)
      clear hK K
      refine norm_ (a' := ?_) ?_ ?_
      rotate_left
      · show Act.put _ (some 115) _ = _
        simp only [Act.put, List.setIfInBounds_toArray, List.set_cons_zero, List.set_cons_succ, i64_w, i32_w]
        rfl
      refine two_ (i := 3) (j := 10) (Ni := some 117) (Nj := some 19) (bs 14 31) #[true, true, true, false, true, false, false, false, false, false, true, false, false, false] rfl rfl rfl rfl (by kernel_rfl) (by decide) (by decide) (fun K hK => ?_) (fun K hK => ?_)
      · skip
        refine goes_ Try.func33 (by kernel_rfl) rfl #[.agg #[.int .i64 a1_0, .int .i64 a1_1, .slice A1_2 l1_2.length c1_2, .int .i64 a1_3, .int .i64 a1_4, .int .i64 a1_5]] (by rfl) rfl rfl (by (try simp only [List.map_toArray, List.map_cons, List.map_nil]); first | done | rfl | (simp only [List.length_drop, List.length_take]; rfl)) ?_
        refine (laws_toCache.calls k a1_0 a1_1 _ _ l1_2 a1_3 a1_4 a1_5 t373 t374 t375 t376 t377 t378 _ (Kd.C_below HR1_2.out HB.out) HC1_2.out H379.out).mono ?_
        rintro e_ w380 ⟨v381, rfl, f382, hb⟩
        have hq_ : Below w365.heap.size w365 w380 := ⟨hb.os, hb.tape, hb.output, hb.size, hb.block⟩
        have HZ383 := Aside0.mk (show w365.heap.size ≤ w380.heap.size from hq_.size)
        replace HB := Aside0.mk (below_then HB.out HB.out.size hq_)
        have HA384 := Aside0.mk (show w.heap.size ≤ w380.heap.size from HB.out.size)
        replace F201 := Aside0.mk (Kd.R_below F201.out hq_)
        replace F216 := Aside0.mk (Kd.S_below F216.out hq_)
        replace F241 := Aside0.mk (Kd.R_below F241.out hq_)
        replace F268 := Aside0.mk (Kd.R_below F268.out hq_)
        replace F297 := Aside0.mk (Kd.S_below F297.out hq_)
        replace F320 := Aside0.mk (Kd.R_below F320.out hq_)
        replace F370 := Aside0.mk (Kd.S_below F370.out hq_)
        have hn_ := Aside0.mk (blk_below BK3.out hq_)
        clear hczb1_0 hfzb1_0; clear hczb1_1 hfzb1_1
        clear BK3
        have BK3 := hn_
        clear hn_
        have hn_ := Aside0.mk (blk_below BK10.out hq_)
        clear hczb8_0 hfzb8_0; clear hczb8_1 hfzb8_1; clear hczb8_2 hfzb8_2; clear hczb8_3 hfzb8_3; clear hczb8_4 hfzb8_4; clear hczb8_5 hfzb8_5
        clear BK10
        have BK10 := hn_
        clear hn_
        have hn_ := Aside0.mk (blk_below BK203.out hq_)
        clear hczb202_0 hfzb202_0; clear hczb202_1 hfzb202_1; clear hczb202_2 hfzb202_2; clear hczb202_3 hfzb202_3; clear hczb202_4 hfzb202_4; clear hczb202_5 hfzb202_5
        clear BK203
        have BK203 := hn_
        clear hn_
        have hn_ := Aside0.mk (blk_below BK221.out hq_)
        clear hczb219_0 hfzb219_0; clear hczb219_1 hfzb219_1
        clear BK221
        have BK221 := hn_
        clear hn_
        have hn_ := Aside0.mk (blk_below BK246.out hq_)
        clear hczb244_0 hfzb244_0; clear hczb244_1 hfzb244_1; clear hczb244_2 hfzb244_2; clear hczb244_3 hfzb244_3; clear hczb244_4 hfzb244_4; clear hczb244_5 hfzb244_5
        clear BK246
        have BK246 := hn_
        clear hn_
        have hn_ := Aside0.mk (blk_below BK273.out hq_)
        clear hczb271_0 hfzb271_0; clear hczb271_1 hfzb271_1; clear hczb271_2 hfzb271_2; clear hczb271_3 hfzb271_3; clear hczb271_4 hfzb271_4; clear hczb271_5 hfzb271_5
        clear BK273
        have BK273 := hn_
        clear hn_
        clear hq_
        obtain ⟨hczb1_0, hfzb1_0, hczb1_1, hfzb1_1⟩ := bk2 BK3.out
        obtain ⟨hczb8_0, hfzb8_0, hczb8_1, hfzb8_1, hczb8_2, hfzb8_2, hczb8_3, hfzb8_3, hczb8_4, hfzb8_4, hczb8_5, hfzb8_5⟩ := bk6 BK10.out
        obtain ⟨hczb202_0, hfzb202_0, hczb202_1, hfzb202_1, hczb202_2, hfzb202_2, hczb202_3, hfzb202_3, hczb202_4, hfzb202_4, hczb202_5, hfzb202_5⟩ := bk6 BK203.out
        obtain ⟨hczb219_0, hfzb219_0, hczb219_1, hfzb219_1⟩ := bk2 BK221.out
        obtain ⟨hczb244_0, hfzb244_0, hczb244_1, hfzb244_1, hczb244_2, hfzb244_2, hczb244_3, hfzb244_3, hczb244_4, hfzb244_4, hczb244_5, hfzb244_5⟩ := bk6 BK246.out
        obtain ⟨hczb271_0, hfzb271_0, hczb271_1, hfzb271_1, hczb271_2, hfzb271_2, hczb271_3, hfzb271_3, hczb271_4, hfzb271_4, hczb271_5, hfzb271_5⟩ := bk6 BK273.out
        replace HBr := Aside0.mk (below_then HBr.out HBr.out.size hb)
        clear hb
        refine ⟨_, rfl, ?_⟩
        have F385 := Aside0.mk (Lk.newR (b := w365.heap.size) (base := w.heap.size) (Sep := fun k_ => True) rfl f382 (HA369.out) (fun k_ hk_ => hk_))
        clear f382
        obtain ⟨A386, c387, e_⟩ := Kd.R_slice F385.out
        subst e_
        refine hK.out _ _ ⟨bZ BK3.out 0, bZ BK3.out 1, bZ BK10.out 0, bZ BK10.out 1, bZ BK10.out 2, bZ BK10.out 3, bZ BK10.out 4, bZ BK10.out 5⟩ (fun hHeld => ?_)
        clear hK K
        refine norm_ (a' := ?_) ?_ ?_
        rotate_left
        · show Act.put _ (some 117) _ = _
          simp only [Act.put, List.setIfInBounds_toArray, List.set_cons_zero, List.set_cons_succ, i64_w, i32_w]
          rfl
        refine two_ (i := 5) (j := 10) (Ni := some 119) (Nj := some 19) (bs 14 63) #[true, true, true, true, true, false, false, false, false, false, true, false, false, false] rfl rfl rfl rfl (by kernel_rfl) (by decide) (by decide) (fun K hK => ?_) (fun K hK => ?_)
        · skip
          refine goes_ Try.func42 (by kernel_rfl) rfl #[.agg #[.slice A371 t362.length c372, .int .i64 t363], .agg #[.int .i64 t373, .int .i64 t374, .slice A386 t375.length c387, .int .i64 t376, .int .i64 t377, .int .i64 t378], .int .i64 a2] (by rfl) rfl rfl (by (try simp only [List.map_toArray, List.map_cons, List.map_nil]); first | done | rfl | (simp only [List.length_drop, List.length_take]; rfl)) ?_
          refine (impl_CallBy.calls k _ _ t362 t363 t373 t374 _ _ t375 t376 t377 t378 a2 t388 t389 t390 t391 t392 t393 t60 t61 _ (Lk.Sr F370.out).2 (Lk.Sr F370.out).1 (Lk.Rr F385.out).2 (Lk.Rr F385.out).1 H396.out).mono ?_
          rintro e_ w397 ⟨v398, rfl, f399, hb⟩
          have hq_ : Below w380.heap.size w380 w397 := ⟨hb.os, hb.tape, hb.output, hb.size, hb.block⟩
          have HZ400 := Aside0.mk (show w380.heap.size ≤ w397.heap.size from hq_.size)
          replace HB := Aside0.mk (below_then HB.out HB.out.size hq_)
          have HA401 := Aside0.mk (show w.heap.size ≤ w397.heap.size from HB.out.size)
          replace F201 := Aside0.mk (Kd.R_below F201.out hq_)
          replace F216 := Aside0.mk (Kd.S_below F216.out hq_)
          replace F241 := Aside0.mk (Kd.R_below F241.out hq_)
          replace F268 := Aside0.mk (Kd.R_below F268.out hq_)
          replace F297 := Aside0.mk (Kd.S_below F297.out hq_)
          replace F320 := Aside0.mk (Kd.R_below F320.out hq_)
          replace F370 := Aside0.mk (Kd.S_below F370.out hq_)
          replace F385 := Aside0.mk (Kd.R_below F385.out hq_)
          have hn_ := Aside0.mk (blk_below BK3.out hq_)
          clear hczb1_0 hfzb1_0; clear hczb1_1 hfzb1_1
          clear BK3
          have BK3 := hn_
          clear hn_
          have hn_ := Aside0.mk (blk_below BK10.out hq_)
          clear hczb8_0 hfzb8_0; clear hczb8_1 hfzb8_1; clear hczb8_2 hfzb8_2; clear hczb8_3 hfzb8_3; clear hczb8_4 hfzb8_4; clear hczb8_5 hfzb8_5
          clear BK10
          have BK10 := hn_
          clear hn_
          have hn_ := Aside0.mk (blk_below BK203.out hq_)
          clear hczb202_0 hfzb202_0; clear hczb202_1 hfzb202_1; clear hczb202_2 hfzb202_2; clear hczb202_3 hfzb202_3; clear hczb202_4 hfzb202_4; clear hczb202_5 hfzb202_5
          clear BK203
          have BK203 := hn_
          clear hn_
          have hn_ := Aside0.mk (blk_below BK221.out hq_)
          clear hczb219_0 hfzb219_0; clear hczb219_1 hfzb219_1
          clear BK221
          have BK221 := hn_
          clear hn_
          have hn_ := Aside0.mk (blk_below BK246.out hq_)
          clear hczb244_0 hfzb244_0; clear hczb244_1 hfzb244_1; clear hczb244_2 hfzb244_2; clear hczb244_3 hfzb244_3; clear hczb244_4 hfzb244_4; clear hczb244_5 hfzb244_5
          clear BK246
          have BK246 := hn_
          clear hn_
          have hn_ := Aside0.mk (blk_below BK273.out hq_)
          clear hczb271_0 hfzb271_0; clear hczb271_1 hfzb271_1; clear hczb271_2 hfzb271_2; clear hczb271_3 hfzb271_3; clear hczb271_4 hfzb271_4; clear hczb271_5 hfzb271_5
          clear BK273
          have BK273 := hn_
          clear hn_
          clear hq_
          obtain ⟨hczb1_0, hfzb1_0, hczb1_1, hfzb1_1⟩ := bk2 BK3.out
          obtain ⟨hczb8_0, hfzb8_0, hczb8_1, hfzb8_1, hczb8_2, hfzb8_2, hczb8_3, hfzb8_3, hczb8_4, hfzb8_4, hczb8_5, hfzb8_5⟩ := bk6 BK10.out
          obtain ⟨hczb202_0, hfzb202_0, hczb202_1, hfzb202_1, hczb202_2, hfzb202_2, hczb202_3, hfzb202_3, hczb202_4, hfzb202_4, hczb202_5, hfzb202_5⟩ := bk6 BK203.out
          obtain ⟨hczb219_0, hfzb219_0, hczb219_1, hfzb219_1⟩ := bk2 BK221.out
          obtain ⟨hczb244_0, hfzb244_0, hczb244_1, hfzb244_1, hczb244_2, hfzb244_2, hczb244_3, hfzb244_3, hczb244_4, hfzb244_4, hczb244_5, hfzb244_5⟩ := bk6 BK246.out
          obtain ⟨hczb271_0, hfzb271_0, hczb271_1, hfzb271_1, hczb271_2, hfzb271_2, hczb271_3, hfzb271_3, hczb271_4, hfzb271_4, hczb271_5, hfzb271_5⟩ := bk6 BK273.out
          replace HBr := Aside0.mk (below_then HBr.out HBr.out.size hb)
          clear hb
          refine ⟨_, rfl, ?_⟩
          have F402 := Aside0.mk (Lk.newR (b := w380.heap.size) (base := w.heap.size) (Sep := fun k_ => True) rfl f399 (HA384.out) (fun k_ hk_ => hk_))
          clear f399
          obtain ⟨A403, c404, e_⟩ := Kd.R_slice F402.out
          subst e_
          refine hK.out _ _ ⟨bZ BK3.out 0, bZ BK3.out 1, bZ BK10.out 0, bZ BK10.out 1, bZ BK10.out 2, bZ BK10.out 3, bZ BK10.out 4, bZ BK10.out 5⟩ (fun hHeld => ?_)
          clear hK K
          refine norm_ (a' := ?_) ?_ ?_
          rotate_left
          · show Act.put _ (some 119) _ = _
            simp only [Act.put, List.setIfInBounds_toArray, List.set_cons_zero, List.set_cons_succ, i64_w, i32_w]
            rfl
          refine pure_ (i := 6) (N := some 113) (v := ?_) (a' := ?_) (bs 14 127) rfl rfl (by kernel_rfl) (fun _ _ _ h => h) (Or.inl ⟨by rfl, ?_⟩) ?_ ?_
          rotate_left
          · intro w'
            go_simp
            with_reducible rfl
          rotate_left
          · simp only [Act.put, List.setIfInBounds_toArray, List.set_cons_zero, List.set_cons_succ, i64_w, i32_w]
            rfl
          refine pure_ (i := 7) (N := some 120) (v := ?_) (a' := ?_) (bs 14 255) rfl rfl (by kernel_rfl) (fun _ _ _ h => h) (Or.inl ⟨by rfl, ?_⟩) ?_ ?_
          rotate_left
          · intro w'
            go_simp
            with_reducible rfl
          rotate_left
          · simp only [Act.put, List.setIfInBounds_toArray, List.set_cons_zero, List.set_cons_succ, i64_w, i32_w]
            rfl
          refine pure_ (i := 8) (N := some 121) (v := ?_) (a' := ?_) (bs 14 511) rfl rfl (by kernel_rfl) (fun _ _ _ h => h) (Or.inl ⟨by rfl, ?_⟩) ?_ ?_
          rotate_left
          · intro w'
            go_simp
            with_reducible rfl
          rotate_left
          · simp only [Act.put, List.setIfInBounds_toArray, List.set_cons_zero, List.set_cons_succ, i64_w, i32_w]
            rfl
          refine pure_ (i := 9) (N := some 122) (v := ?_) (a' := ?_) (bs 14 1023) rfl rfl (by kernel_rfl) (fun _ _ _ h => h) (Or.inl ⟨by rfl, ?_⟩) ?_ ?_
          rotate_left
          · intro w'
            go_simp
            with_reducible rfl
          rotate_left
          · simp only [Act.put, List.setIfInBounds_toArray, List.set_cons_zero, List.set_cons_succ, i64_w, i32_w]
            rfl
          refine one_ (i := 10) (N := some 19) (bs 14 2047) rfl rfl (by kernel_rfl) (by decide) (fun K hK => ?_)
          refine Lk.alloc_step (cs := #[(.int .i64 0), (.int .i64 0), (.slice none 0 0), (.int .i64 0), (.int .i64 0), (.int .i64 0)]) (t := 44) (by rfl) rfl (by first | (go_simp; done) | (go_simp; rfl)) ?_
          intro gb405 w406 hg_ hx_ hb
          have hg2_ : gb405 = w397.heap.size := hg_
          replace HBr := Aside0.mk (below_then HBr.out HBr.out.size hb)
          have hq_ : Below w397.heap.size w397 w406 := ⟨hb.os, hb.tape, hb.output, hb.size, hb.block⟩
          have HZ408 := Aside0.mk (show w397.heap.size ≤ w406.heap.size from hq_.size)
          replace HB := Aside0.mk (below_then HB.out HB.out.size hq_)
          have HA409 := Aside0.mk (show w.heap.size ≤ w406.heap.size from HB.out.size)
          replace F201 := Aside0.mk (Kd.R_below F201.out hq_)
          replace F216 := Aside0.mk (Kd.S_below F216.out hq_)
          replace F241 := Aside0.mk (Kd.R_below F241.out hq_)
          replace F268 := Aside0.mk (Kd.R_below F268.out hq_)
          replace F297 := Aside0.mk (Kd.S_below F297.out hq_)
          replace F320 := Aside0.mk (Kd.R_below F320.out hq_)
          replace F370 := Aside0.mk (Kd.S_below F370.out hq_)
          replace F385 := Aside0.mk (Kd.R_below F385.out hq_)
          replace F402 := Aside0.mk (Kd.R_below F402.out hq_)
          have hn_ := Aside0.mk (blk_below BK3.out hq_)
          clear hczb1_0 hfzb1_0; clear hczb1_1 hfzb1_1
          clear BK3
          have BK3 := hn_
          clear hn_
          have hn_ := Aside0.mk (blk_below BK10.out hq_)
          clear hczb8_0 hfzb8_0; clear hczb8_1 hfzb8_1; clear hczb8_2 hfzb8_2; clear hczb8_3 hfzb8_3; clear hczb8_4 hfzb8_4; clear hczb8_5 hfzb8_5
          clear BK10
          have BK10 := hn_
          clear hn_
          have hn_ := Aside0.mk (blk_below BK203.out hq_)
          clear hczb202_0 hfzb202_0; clear hczb202_1 hfzb202_1; clear hczb202_2 hfzb202_2; clear hczb202_3 hfzb202_3; clear hczb202_4 hfzb202_4; clear hczb202_5 hfzb202_5
          clear BK203
          have BK203 := hn_
          clear hn_
          have hn_ := Aside0.mk (blk_below BK221.out hq_)
          clear hczb219_0 hfzb219_0; clear hczb219_1 hfzb219_1
          clear BK221
          have BK221 := hn_
          clear hn_
          have hn_ := Aside0.mk (blk_below BK246.out hq_)
          clear hczb244_0 hfzb244_0; clear hczb244_1 hfzb244_1; clear hczb244_2 hfzb244_2; clear hczb244_3 hfzb244_3; clear hczb244_4 hfzb244_4; clear hczb244_5 hfzb244_5
          clear BK246
          have BK246 := hn_
          clear hn_
          have hn_ := Aside0.mk (blk_below BK273.out hq_)
          clear hczb271_0 hfzb271_0; clear hczb271_1 hfzb271_1; clear hczb271_2 hfzb271_2; clear hczb271_3 hfzb271_3; clear hczb271_4 hfzb271_4; clear hczb271_5 hfzb271_5
          clear BK273
          have BK273 := hn_
          clear hn_
          clear hq_
          obtain ⟨hczb1_0, hfzb1_0, hczb1_1, hfzb1_1⟩ := bk2 BK3.out
          obtain ⟨hczb8_0, hfzb8_0, hczb8_1, hfzb8_1, hczb8_2, hfzb8_2, hczb8_3, hfzb8_3, hczb8_4, hfzb8_4, hczb8_5, hfzb8_5⟩ := bk6 BK10.out
          obtain ⟨hczb202_0, hfzb202_0, hczb202_1, hfzb202_1, hczb202_2, hfzb202_2, hczb202_3, hfzb202_3, hczb202_4, hfzb202_4, hczb202_5, hfzb202_5⟩ := bk6 BK203.out
          obtain ⟨hczb219_0, hfzb219_0, hczb219_1, hfzb219_1⟩ := bk2 BK221.out
          obtain ⟨hczb244_0, hfzb244_0, hczb244_1, hfzb244_1, hczb244_2, hfzb244_2, hczb244_3, hfzb244_3, hczb244_4, hfzb244_4, hczb244_5, hfzb244_5⟩ := bk6 BK246.out
          obtain ⟨hczb271_0, hfzb271_0, hczb271_1, hfzb271_1, hczb271_2, hfzb271_2, hczb271_3, hfzb271_3, hczb271_4, hfzb271_4, hczb271_5, hfzb271_5⟩ := bk6 BK273.out
          have BK407 := Aside0.mk hx_
          have GQ411 := Aside0.mk (show w397.heap.size ≤ gb405 ∧ gb405 < w406.heap.size from ⟨Nat.le_of_eq hg2_.symm, blk_lt hx_⟩)
          clear hb hg_ hg2_ hx_
          obtain ⟨hczb410_0, hfzb410_0, hczb410_1, hfzb410_1, hczb410_2, hfzb410_2, hczb410_3, hfzb410_3, hczb410_4, hfzb410_4, hczb410_5, hfzb410_5⟩ := bk6 BK407.out
          refine hK.out _ _ ⟨bZ BK3.out 0, bZ BK3.out 1, bZ BK10.out 0, bZ BK10.out 1, bZ BK10.out 2, bZ BK10.out 3, bZ BK10.out 4, bZ BK10.out 5⟩ (fun hHeld => ?_)
          clear hK K
          refine norm_ (a' := ?_) ?_ ?_
          rotate_left
          · show Act.put _ (some 19) _ = _
            simp only [Act.put, List.setIfInBounds_toArray, List.set_cons_zero, List.set_cons_succ, i64_w, i32_w]
            rfl
          refine norm_ ?_ (hcont_ (.agg #[.slice A371 t362.length c372, .int .i64 t363], .agg #[.int .i64 t373, .int .i64 t374, .slice A386 t375.length c387, .int .i64 t376, .int .i64 t377, .int .i64 t378], A403, c404, gb405) _ ⟨HBr.out, w380, w397, by have := HZ6.out; have := HZ13.out; have := HZ18.out; have := HZ23.out; have := HZ26.out; have := HZ194.out; have := HZ195.out; have := HZ196.out; have := HZ206.out; have := HZ214.out; have := HZ224.out; have := HZ227.out; have := HZ239.out; have := HZ249.out; have := HZ252.out; have := HZ266.out; have := HZ276.out; have := HZ279.out; have := HZ284.out; have := HZ287.out; have := HZ295.out; have := HZ303.out; have := HZ306.out; have := HZ318.out; have := HZ326.out; have := HZ330.out; have := HZ338.out; have := HZ344.out; have := HZ351.out; have := HZ357.out; have := HZ360.out; have := HZ368.out; have := HZ383.out; have := HZ400.out; have := HZ408.out; have := GQ411.out; have := HBr.out.size; omega, by have := HZ6.out; have := HZ13.out; have := HZ18.out; have := HZ23.out; have := HZ26.out; have := HZ194.out; have := HZ195.out; have := HZ196.out; have := HZ206.out; have := HZ214.out; have := HZ224.out; have := HZ227.out; have := HZ239.out; have := HZ249.out; have := HZ252.out; have := HZ266.out; have := HZ276.out; have := HZ279.out; have := HZ284.out; have := HZ287.out; have := HZ295.out; have := HZ303.out; have := HZ306.out; have := HZ318.out; have := HZ326.out; have := HZ330.out; have := HZ338.out; have := HZ344.out; have := HZ351.out; have := HZ357.out; have := HZ360.out; have := HZ368.out; have := HZ383.out; have := HZ400.out; have := HZ408.out; have := GQ411.out; have := HBr.out.size; omega, by have := HZ6.out; have := HZ13.out; have := HZ18.out; have := HZ23.out; have := HZ26.out; have := HZ194.out; have := HZ195.out; have := HZ196.out; have := HZ206.out; have := HZ214.out; have := HZ224.out; have := HZ227.out; have := HZ239.out; have := HZ249.out; have := HZ252.out; have := HZ266.out; have := HZ276.out; have := HZ279.out; have := HZ284.out; have := HZ287.out; have := HZ295.out; have := HZ303.out; have := HZ306.out; have := HZ318.out; have := HZ326.out; have := HZ330.out; have := HZ338.out; have := HZ344.out; have := HZ351.out; have := HZ357.out; have := HZ360.out; have := HZ368.out; have := HZ383.out; have := HZ400.out; have := HZ408.out; have := GQ411.out; have := HBr.out.size; omega, F402.out, BK407.out, by have := HZ6.out; have := HZ13.out; have := HZ18.out; have := HZ23.out; have := HZ26.out; have := HZ194.out; have := HZ195.out; have := HZ196.out; have := HZ206.out; have := HZ214.out; have := HZ224.out; have := HZ227.out; have := HZ239.out; have := HZ249.out; have := HZ252.out; have := HZ266.out; have := HZ276.out; have := HZ279.out; have := HZ284.out; have := HZ287.out; have := HZ295.out; have := HZ303.out; have := HZ306.out; have := HZ318.out; have := HZ326.out; have := HZ330.out; have := HZ338.out; have := HZ344.out; have := HZ351.out; have := HZ357.out; have := HZ360.out; have := HZ368.out; have := HZ383.out; have := HZ400.out; have := HZ408.out; have := GQ411.out; have := HBr.out.size; omega, by have := HZ6.out; have := HZ13.out; have := HZ18.out; have := HZ23.out; have := HZ26.out; have := HZ194.out; have := HZ195.out; have := HZ196.out; have := HZ206.out; have := HZ214.out; have := HZ224.out; have := HZ227.out; have := HZ239.out; have := HZ249.out; have := HZ252.out; have := HZ266.out; have := HZ276.out; have := HZ279.out; have := HZ284.out; have := HZ287.out; have := HZ295.out; have := HZ303.out; have := HZ306.out; have := HZ318.out; have := HZ326.out; have := HZ330.out; have := HZ338.out; have := HZ344.out; have := HZ351.out; have := HZ357.out; have := HZ360.out; have := HZ368.out; have := HZ383.out; have := HZ400.out; have := HZ408.out; have := GQ411.out; have := HBr.out.size; omega, by have := HZ6.out; have := HZ13.out; have := HZ18.out; have := HZ23.out; have := HZ26.out; have := HZ194.out; have := HZ195.out; have := HZ196.out; have := HZ206.out; have := HZ214.out; have := HZ224.out; have := HZ227.out; have := HZ239.out; have := HZ249.out; have := HZ252.out; have := HZ266.out; have := HZ276.out; have := HZ279.out; have := HZ284.out; have := HZ287.out; have := HZ295.out; have := HZ303.out; have := HZ306.out; have := HZ318.out; have := HZ326.out; have := HZ330.out; have := HZ338.out; have := HZ344.out; have := HZ351.out; have := HZ357.out; have := HZ360.out; have := HZ368.out; have := HZ383.out; have := HZ400.out; have := HZ408.out; have := GQ411.out; have := HBr.out.size; omega⟩)
          simp only [putAll, Act.put, List.setIfInBounds_toArray, List.set_cons_zero, List.set_cons_succ]
        · skip
          refine Lk.alloc_step (cs := #[(.int .i64 0), (.int .i64 0), (.slice none 0 0), (.int .i64 0), (.int .i64 0), (.int .i64 0)]) (t := 44) (by rfl) rfl (by first | (go_simp; done) | (go_simp; rfl)) ?_
          intro gb412 w413 hg_ hx_ hb
          have hg2_ : gb412 = w380.heap.size := hg_
          replace HBr := Aside0.mk (below_then HBr.out HBr.out.size hb)
          have hq_ : Below w380.heap.size w380 w413 := ⟨hb.os, hb.tape, hb.output, hb.size, hb.block⟩
          have HZ415 := Aside0.mk (show w380.heap.size ≤ w413.heap.size from hq_.size)
          replace HB := Aside0.mk (below_then HB.out HB.out.size hq_)
          have HA416 := Aside0.mk (show w.heap.size ≤ w413.heap.size from HB.out.size)
          replace F201 := Aside0.mk (Kd.R_below F201.out hq_)
          replace F216 := Aside0.mk (Kd.S_below F216.out hq_)
          replace F241 := Aside0.mk (Kd.R_below F241.out hq_)
          replace F268 := Aside0.mk (Kd.R_below F268.out hq_)
          replace F297 := Aside0.mk (Kd.S_below F297.out hq_)
          replace F320 := Aside0.mk (Kd.R_below F320.out hq_)
          replace F370 := Aside0.mk (Kd.S_below F370.out hq_)
          replace F385 := Aside0.mk (Kd.R_below F385.out hq_)
          have hn_ := Aside0.mk (blk_below BK3.out hq_)
          clear hczb1_0 hfzb1_0; clear hczb1_1 hfzb1_1
          clear BK3
          have BK3 := hn_
          clear hn_
          have hn_ := Aside0.mk (blk_below BK10.out hq_)
          clear hczb8_0 hfzb8_0; clear hczb8_1 hfzb8_1; clear hczb8_2 hfzb8_2; clear hczb8_3 hfzb8_3; clear hczb8_4 hfzb8_4; clear hczb8_5 hfzb8_5
          clear BK10
          have BK10 := hn_
          clear hn_
          have hn_ := Aside0.mk (blk_below BK203.out hq_)
          clear hczb202_0 hfzb202_0; clear hczb202_1 hfzb202_1; clear hczb202_2 hfzb202_2; clear hczb202_3 hfzb202_3; clear hczb202_4 hfzb202_4; clear hczb202_5 hfzb202_5
          clear BK203
          have BK203 := hn_
          clear hn_
          have hn_ := Aside0.mk (blk_below BK221.out hq_)
          clear hczb219_0 hfzb219_0; clear hczb219_1 hfzb219_1
          clear BK221
          have BK221 := hn_
          clear hn_
          have hn_ := Aside0.mk (blk_below BK246.out hq_)
          clear hczb244_0 hfzb244_0; clear hczb244_1 hfzb244_1; clear hczb244_2 hfzb244_2; clear hczb244_3 hfzb244_3; clear hczb244_4 hfzb244_4; clear hczb244_5 hfzb244_5
          clear BK246
          have BK246 := hn_
          clear hn_
          have hn_ := Aside0.mk (blk_below BK273.out hq_)
          clear hczb271_0 hfzb271_0; clear hczb271_1 hfzb271_1; clear hczb271_2 hfzb271_2; clear hczb271_3 hfzb271_3; clear hczb271_4 hfzb271_4; clear hczb271_5 hfzb271_5
          clear BK273
          have BK273 := hn_
          clear hn_
          clear hq_
          obtain ⟨hczb1_0, hfzb1_0, hczb1_1, hfzb1_1⟩ := bk2 BK3.out
          obtain ⟨hczb8_0, hfzb8_0, hczb8_1, hfzb8_1, hczb8_2, hfzb8_2, hczb8_3, hfzb8_3, hczb8_4, hfzb8_4, hczb8_5, hfzb8_5⟩ := bk6 BK10.out
          obtain ⟨hczb202_0, hfzb202_0, hczb202_1, hfzb202_1, hczb202_2, hfzb202_2, hczb202_3, hfzb202_3, hczb202_4, hfzb202_4, hczb202_5, hfzb202_5⟩ := bk6 BK203.out
          obtain ⟨hczb219_0, hfzb219_0, hczb219_1, hfzb219_1⟩ := bk2 BK221.out
          obtain ⟨hczb244_0, hfzb244_0, hczb244_1, hfzb244_1, hczb244_2, hfzb244_2, hczb244_3, hfzb244_3, hczb244_4, hfzb244_4, hczb244_5, hfzb244_5⟩ := bk6 BK246.out
          obtain ⟨hczb271_0, hfzb271_0, hczb271_1, hfzb271_1, hczb271_2, hfzb271_2, hczb271_3, hfzb271_3, hczb271_4, hfzb271_4, hczb271_5, hfzb271_5⟩ := bk6 BK273.out
          have BK414 := Aside0.mk hx_
          have GQ418 := Aside0.mk (show w380.heap.size ≤ gb412 ∧ gb412 < w413.heap.size from ⟨Nat.le_of_eq hg2_.symm, blk_lt hx_⟩)
          clear hb hg_ hg2_ hx_
          obtain ⟨hczb417_0, hfzb417_0, hczb417_1, hfzb417_1, hczb417_2, hfzb417_2, hczb417_3, hfzb417_3, hczb417_4, hfzb417_4, hczb417_5, hfzb417_5⟩ := bk6 BK414.out
          refine hK.out _ _ ⟨bZ BK3.out 0, bZ BK3.out 1, bZ BK10.out 0, bZ BK10.out 1, bZ BK10.out 2, bZ BK10.out 3, bZ BK10.out 4, bZ BK10.out 5⟩ (fun hHeld => ?_)
          clear hK K
          refine norm_ (a' := ?_) ?_ ?_
          rotate_left
          · show Act.put _ (some 19) _ = _
            simp only [Act.put, List.setIfInBounds_toArray, List.set_cons_zero, List.set_cons_succ, i64_w, i32_w]
            rfl
          refine one_ (i := 5) (N := some 119) (bs 14 1087) rfl rfl (by kernel_rfl) (by decide) (fun K hK => ?_)
          refine goes_ Try.func42 (by kernel_rfl) rfl #[.agg #[.slice A371 t362.length c372, .int .i64 t363], .agg #[.int .i64 t373, .int .i64 t374, .slice A386 t375.length c387, .int .i64 t376, .int .i64 t377, .int .i64 t378], .int .i64 a2] (by rfl) rfl rfl (by (try simp only [List.map_toArray, List.map_cons, List.map_nil]); first | done | rfl | (simp only [List.length_drop, List.length_take]; rfl)) ?_
          refine (impl_CallBy.calls k _ _ t362 t363 t373 t374 _ _ t375 t376 t377 t378 a2 t388 t389 t390 t391 t392 t393 t60 t61 _ (Lk.Sr F370.out).2 (Lk.Sr F370.out).1 (Lk.Rr F385.out).2 (Lk.Rr F385.out).1 H396.out).mono ?_
          rintro e_ w427 ⟨v428, rfl, f429, hb⟩
          have hq_ : Below w413.heap.size w413 w427 := ⟨hb.os, hb.tape, hb.output, hb.size, hb.block⟩
          have HZ430 := Aside0.mk (show w413.heap.size ≤ w427.heap.size from hq_.size)
          replace HB := Aside0.mk (below_then HB.out HB.out.size hq_)
          have HA431 := Aside0.mk (show w.heap.size ≤ w427.heap.size from HB.out.size)
          replace F201 := Aside0.mk (Kd.R_below F201.out hq_)
          replace F216 := Aside0.mk (Kd.S_below F216.out hq_)
          replace F241 := Aside0.mk (Kd.R_below F241.out hq_)
          replace F268 := Aside0.mk (Kd.R_below F268.out hq_)
          replace F297 := Aside0.mk (Kd.S_below F297.out hq_)
          replace F320 := Aside0.mk (Kd.R_below F320.out hq_)
          replace F370 := Aside0.mk (Kd.S_below F370.out hq_)
          replace F385 := Aside0.mk (Kd.R_below F385.out hq_)
          have hn_ := Aside0.mk (blk_below BK3.out hq_)
          clear hczb1_0 hfzb1_0; clear hczb1_1 hfzb1_1
          clear BK3
          have BK3 := hn_
          clear hn_
          have hn_ := Aside0.mk (blk_below BK10.out hq_)
          clear hczb8_0 hfzb8_0; clear hczb8_1 hfzb8_1; clear hczb8_2 hfzb8_2; clear hczb8_3 hfzb8_3; clear hczb8_4 hfzb8_4; clear hczb8_5 hfzb8_5
          clear BK10
          have BK10 := hn_
          clear hn_
          have hn_ := Aside0.mk (blk_below BK203.out hq_)
          clear hczb202_0 hfzb202_0; clear hczb202_1 hfzb202_1; clear hczb202_2 hfzb202_2; clear hczb202_3 hfzb202_3; clear hczb202_4 hfzb202_4; clear hczb202_5 hfzb202_5
          clear BK203
          have BK203 := hn_
          clear hn_
          have hn_ := Aside0.mk (blk_below BK221.out hq_)
          clear hczb219_0 hfzb219_0; clear hczb219_1 hfzb219_1
          clear BK221
          have BK221 := hn_
          clear hn_
          have hn_ := Aside0.mk (blk_below BK246.out hq_)
          clear hczb244_0 hfzb244_0; clear hczb244_1 hfzb244_1; clear hczb244_2 hfzb244_2; clear hczb244_3 hfzb244_3; clear hczb244_4 hfzb244_4; clear hczb244_5 hfzb244_5
          clear BK246
          have BK246 := hn_
          clear hn_
          have hn_ := Aside0.mk (blk_below BK273.out hq_)
          clear hczb271_0 hfzb271_0; clear hczb271_1 hfzb271_1; clear hczb271_2 hfzb271_2; clear hczb271_3 hfzb271_3; clear hczb271_4 hfzb271_4; clear hczb271_5 hfzb271_5
          clear BK273
          have BK273 := hn_
          clear hn_
          have hn_ := Aside0.mk (blk_below BK414.out hq_)
          clear hczb417_0 hfzb417_0; clear hczb417_1 hfzb417_1; clear hczb417_2 hfzb417_2; clear hczb417_3 hfzb417_3; clear hczb417_4 hfzb417_4; clear hczb417_5 hfzb417_5
          clear BK414
          have BK414 := hn_
          clear hn_
          clear hq_
          obtain ⟨hczb1_0, hfzb1_0, hczb1_1, hfzb1_1⟩ := bk2 BK3.out
          obtain ⟨hczb8_0, hfzb8_0, hczb8_1, hfzb8_1, hczb8_2, hfzb8_2, hczb8_3, hfzb8_3, hczb8_4, hfzb8_4, hczb8_5, hfzb8_5⟩ := bk6 BK10.out
          obtain ⟨hczb202_0, hfzb202_0, hczb202_1, hfzb202_1, hczb202_2, hfzb202_2, hczb202_3, hfzb202_3, hczb202_4, hfzb202_4, hczb202_5, hfzb202_5⟩ := bk6 BK203.out
          obtain ⟨hczb219_0, hfzb219_0, hczb219_1, hfzb219_1⟩ := bk2 BK221.out
          obtain ⟨hczb244_0, hfzb244_0, hczb244_1, hfzb244_1, hczb244_2, hfzb244_2, hczb244_3, hfzb244_3, hczb244_4, hfzb244_4, hczb244_5, hfzb244_5⟩ := bk6 BK246.out
          obtain ⟨hczb271_0, hfzb271_0, hczb271_1, hfzb271_1, hczb271_2, hfzb271_2, hczb271_3, hfzb271_3, hczb271_4, hfzb271_4, hczb271_5, hfzb271_5⟩ := bk6 BK273.out
          obtain ⟨hczb417_0, hfzb417_0, hczb417_1, hfzb417_1, hczb417_2, hfzb417_2, hczb417_3, hfzb417_3, hczb417_4, hfzb417_4, hczb417_5, hfzb417_5⟩ := bk6 BK414.out
          replace HBr := Aside0.mk (below_then HBr.out HBr.out.size hb)
          clear hb
          refine ⟨_, rfl, ?_⟩
          have F432 := Aside0.mk (Lk.newR (b := w413.heap.size) (base := w.heap.size) (Sep := fun k_ => True) rfl f429 (HA416.out) (fun k_ hk_ => hk_))
          clear f429
          obtain ⟨A433, c434, e_⟩ := Kd.R_slice F432.out
          subst e_
          refine hK.out _ _ ⟨bZ BK3.out 0, bZ BK3.out 1, bZ BK10.out 0, bZ BK10.out 1, bZ BK10.out 2, bZ BK10.out 3, bZ BK10.out 4, bZ BK10.out 5⟩ (fun hHeld => ?_)
          clear hK K
          refine norm_ (a' := ?_) ?_ ?_
          rotate_left
          · show Act.put _ (some 119) _ = _
            simp only [Act.put, List.setIfInBounds_toArray, List.set_cons_zero, List.set_cons_succ, i64_w, i32_w]
            rfl
          refine pure_ (i := 6) (N := some 113) (v := ?_) (a' := ?_) (bs 14 1151) rfl rfl (by kernel_rfl) (fun _ _ _ h => h) (Or.inl ⟨by rfl, ?_⟩) ?_ ?_
          rotate_left
          · intro w'
            go_simp
            with_reducible rfl
          rotate_left
          · simp only [Act.put, List.setIfInBounds_toArray, List.set_cons_zero, List.set_cons_succ, i64_w, i32_w]
            rfl
          refine pure_ (i := 7) (N := some 120) (v := ?_) (a' := ?_) (bs 14 1279) rfl rfl (by kernel_rfl) (fun _ _ _ h => h) (Or.inl ⟨by rfl, ?_⟩) ?_ ?_
          rotate_left
          · intro w'
            go_simp
            with_reducible rfl
          rotate_left
          · simp only [Act.put, List.setIfInBounds_toArray, List.set_cons_zero, List.set_cons_succ, i64_w, i32_w]
            rfl
          refine pure_ (i := 8) (N := some 121) (v := ?_) (a' := ?_) (bs 14 1535) rfl rfl (by kernel_rfl) (fun _ _ _ h => h) (Or.inl ⟨by rfl, ?_⟩) ?_ ?_
          rotate_left
          · intro w'
            go_simp
            with_reducible rfl
          rotate_left
          · simp only [Act.put, List.setIfInBounds_toArray, List.set_cons_zero, List.set_cons_succ, i64_w, i32_w]
            rfl
          refine pure_ (i := 9) (N := some 122) (v := ?_) (a' := ?_) (bs 14 2047) rfl rfl (by kernel_rfl) (fun _ _ _ h => h) (Or.inl ⟨by rfl, ?_⟩) ?_ ?_
          rotate_left
          · intro w'
            go_simp
            with_reducible rfl
          rotate_left
          · simp only [Act.put, List.setIfInBounds_toArray, List.set_cons_zero, List.set_cons_succ, i64_w, i32_w]
            rfl
          refine norm_ ?_ (hcont_ (.agg #[.slice A371 t362.length c372, .int .i64 t363], .agg #[.int .i64 t373, .int .i64 t374, .slice A386 t375.length c387, .int .i64 t376, .int .i64 t377, .int .i64 t378], A433, c434, gb412) _ ⟨HBr.out, w413, w427, by have := HZ6.out; have := HZ13.out; have := HZ18.out; have := HZ23.out; have := HZ26.out; have := HZ194.out; have := HZ195.out; have := HZ196.out; have := HZ206.out; have := HZ214.out; have := HZ224.out; have := HZ227.out; have := HZ239.out; have := HZ249.out; have := HZ252.out; have := HZ266.out; have := HZ276.out; have := HZ279.out; have := HZ284.out; have := HZ287.out; have := HZ295.out; have := HZ303.out; have := HZ306.out; have := HZ318.out; have := HZ326.out; have := HZ330.out; have := HZ338.out; have := HZ344.out; have := HZ351.out; have := HZ357.out; have := HZ360.out; have := HZ368.out; have := HZ383.out; have := HZ415.out; have := HZ430.out; have := GQ418.out; have := HBr.out.size; omega, by have := HZ6.out; have := HZ13.out; have := HZ18.out; have := HZ23.out; have := HZ26.out; have := HZ194.out; have := HZ195.out; have := HZ196.out; have := HZ206.out; have := HZ214.out; have := HZ224.out; have := HZ227.out; have := HZ239.out; have := HZ249.out; have := HZ252.out; have := HZ266.out; have := HZ276.out; have := HZ279.out; have := HZ284.out; have := HZ287.out; have := HZ295.out; have := HZ303.out; have := HZ306.out; have := HZ318.out; have := HZ326.out; have := HZ330.out; have := HZ338.out; have := HZ344.out; have := HZ351.out; have := HZ357.out; have := HZ360.out; have := HZ368.out; have := HZ383.out; have := HZ415.out; have := HZ430.out; have := GQ418.out; have := HBr.out.size; omega, by have := HZ6.out; have := HZ13.out; have := HZ18.out; have := HZ23.out; have := HZ26.out; have := HZ194.out; have := HZ195.out; have := HZ196.out; have := HZ206.out; have := HZ214.out; have := HZ224.out; have := HZ227.out; have := HZ239.out; have := HZ249.out; have := HZ252.out; have := HZ266.out; have := HZ276.out; have := HZ279.out; have := HZ284.out; have := HZ287.out; have := HZ295.out; have := HZ303.out; have := HZ306.out; have := HZ318.out; have := HZ326.out; have := HZ330.out; have := HZ338.out; have := HZ344.out; have := HZ351.out; have := HZ357.out; have := HZ360.out; have := HZ368.out; have := HZ383.out; have := HZ415.out; have := HZ430.out; have := GQ418.out; have := HBr.out.size; omega, F432.out, BK414.out, by have := HZ6.out; have := HZ13.out; have := HZ18.out; have := HZ23.out; have := HZ26.out; have := HZ194.out; have := HZ195.out; have := HZ196.out; have := HZ206.out; have := HZ214.out; have := HZ224.out; have := HZ227.out; have := HZ239.out; have := HZ249.out; have := HZ252.out; have := HZ266.out; have := HZ276.out; have := HZ279.out; have := HZ284.out; have := HZ287.out; have := HZ295.out; have := HZ303.out; have := HZ306.out; have := HZ318.out; have := HZ326.out; have := HZ330.out; have := HZ338.out; have := HZ344.out; have := HZ351.out; have := HZ357.out; have := HZ360.out; have := HZ368.out; have := HZ383.out; have := HZ415.out; have := HZ430.out; have := GQ418.out; have := HBr.out.size; omega, by have := HZ6.out; have := HZ13.out; have := HZ18.out; have := HZ23.out; have := HZ26.out; have := HZ194.out; have := HZ195.out; have := HZ196.out; have := HZ206.out; have := HZ214.out; have := HZ224.out; have := HZ227.out; have := HZ239.out; have := HZ249.out; have := HZ252.out; have := HZ266.out; have := HZ276.out; have := HZ279.out; have := HZ284.out; have := HZ287.out; have := HZ295.out; have := HZ303.out; have := HZ306.out; have := HZ318.out; have := HZ326.out; have := HZ330.out; have := HZ338.out; have := HZ344.out; have := HZ351.out; have := HZ357.out; have := HZ360.out; have := HZ368.out; have := HZ383.out; have := HZ415.out; have := HZ430.out; have := GQ418.out; have := HBr.out.size; omega, by have := HZ6.out; have := HZ13.out; have := HZ18.out; have := HZ23.out; have := HZ26.out; have := HZ194.out; have := HZ195.out; have := HZ196.out; have := HZ206.out; have := HZ214.out; have := HZ224.out; have := HZ227.out; have := HZ239.out; have := HZ249.out; have := HZ252.out; have := HZ266.out; have := HZ276.out; have := HZ279.out; have := HZ284.out; have := HZ287.out; have := HZ295.out; have := HZ303.out; have := HZ306.out; have := HZ318.out; have := HZ326.out; have := HZ330.out; have := HZ338.out; have := HZ344.out; have := HZ351.out; have := HZ357.out; have := HZ360.out; have := HZ368.out; have := HZ383.out; have := HZ415.out; have := HZ430.out; have := GQ418.out; have := HBr.out.size; omega⟩)
          simp only [putAll, Act.put, List.setIfInBounds_toArray, List.set_cons_zero, List.set_cons_succ]
      · skip
        refine Lk.alloc_step (cs := #[(.int .i64 0), (.int .i64 0), (.slice none 0 0), (.int .i64 0), (.int .i64 0), (.int .i64 0)]) (t := 44) (by rfl) rfl (by first | (go_simp; done) | (go_simp; rfl)) ?_
        intro gb435 w436 hg_ hx_ hb
        have hg2_ : gb435 = w365.heap.size := hg_
        replace HBr := Aside0.mk (below_then HBr.out HBr.out.size hb)
        have hq_ : Below w365.heap.size w365 w436 := ⟨hb.os, hb.tape, hb.output, hb.size, hb.block⟩
        have HZ438 := Aside0.mk (show w365.heap.size ≤ w436.heap.size from hq_.size)
        replace HB := Aside0.mk (below_then HB.out HB.out.size hq_)
        have HA439 := Aside0.mk (show w.heap.size ≤ w436.heap.size from HB.out.size)
        replace F201 := Aside0.mk (Kd.R_below F201.out hq_)
        replace F216 := Aside0.mk (Kd.S_below F216.out hq_)
        replace F241 := Aside0.mk (Kd.R_below F241.out hq_)
        replace F268 := Aside0.mk (Kd.R_below F268.out hq_)
        replace F297 := Aside0.mk (Kd.S_below F297.out hq_)
        replace F320 := Aside0.mk (Kd.R_below F320.out hq_)
        replace F370 := Aside0.mk (Kd.S_below F370.out hq_)
        have hn_ := Aside0.mk (blk_below BK3.out hq_)
        clear hczb1_0 hfzb1_0; clear hczb1_1 hfzb1_1
        clear BK3
        have BK3 := hn_
        clear hn_
        have hn_ := Aside0.mk (blk_below BK10.out hq_)
        clear hczb8_0 hfzb8_0; clear hczb8_1 hfzb8_1; clear hczb8_2 hfzb8_2; clear hczb8_3 hfzb8_3; clear hczb8_4 hfzb8_4; clear hczb8_5 hfzb8_5
        clear BK10
        have BK10 := hn_
        clear hn_
        have hn_ := Aside0.mk (blk_below BK203.out hq_)
        clear hczb202_0 hfzb202_0; clear hczb202_1 hfzb202_1; clear hczb202_2 hfzb202_2; clear hczb202_3 hfzb202_3; clear hczb202_4 hfzb202_4; clear hczb202_5 hfzb202_5
        clear BK203
        have BK203 := hn_
        clear hn_
        have hn_ := Aside0.mk (blk_below BK221.out hq_)
        clear hczb219_0 hfzb219_0; clear hczb219_1 hfzb219_1
        clear BK221
        have BK221 := hn_
        clear hn_
        have hn_ := Aside0.mk (blk_below BK246.out hq_)
        clear hczb244_0 hfzb244_0; clear hczb244_1 hfzb244_1; clear hczb244_2 hfzb244_2; clear hczb244_3 hfzb244_3; clear hczb244_4 hfzb244_4; clear hczb244_5 hfzb244_5
        clear BK246
        have BK246 := hn_
        clear hn_
        have hn_ := Aside0.mk (blk_below BK273.out hq_)
        clear hczb271_0 hfzb271_0; clear hczb271_1 hfzb271_1; clear hczb271_2 hfzb271_2; clear hczb271_3 hfzb271_3; clear hczb271_4 hfzb271_4; clear hczb271_5 hfzb271_5
        clear BK273
        have BK273 := hn_
        clear hn_
        clear hq_
        obtain ⟨hczb1_0, hfzb1_0, hczb1_1, hfzb1_1⟩ := bk2 BK3.out
        obtain ⟨hczb8_0, hfzb8_0, hczb8_1, hfzb8_1, hczb8_2, hfzb8_2, hczb8_3, hfzb8_3, hczb8_4, hfzb8_4, hczb8_5, hfzb8_5⟩ := bk6 BK10.out
        obtain ⟨hczb202_0, hfzb202_0, hczb202_1, hfzb202_1, hczb202_2, hfzb202_2, hczb202_3, hfzb202_3, hczb202_4, hfzb202_4, hczb202_5, hfzb202_5⟩ := bk6 BK203.out
        obtain ⟨hczb219_0, hfzb219_0, hczb219_1, hfzb219_1⟩ := bk2 BK221.out
        obtain ⟨hczb244_0, hfzb244_0, hczb244_1, hfzb244_1, hczb244_2, hfzb244_2, hczb244_3, hfzb244_3, hczb244_4, hfzb244_4, hczb244_5, hfzb244_5⟩ := bk6 BK246.out
        obtain ⟨hczb271_0, hfzb271_0, hczb271_1, hfzb271_1, hczb271_2, hfzb271_2, hczb271_3, hfzb271_3, hczb271_4, hfzb271_4, hczb271_5, hfzb271_5⟩ := bk6 BK273.out
        have BK437 := Aside0.mk hx_
        have GQ441 := Aside0.mk (show w365.heap.size ≤ gb435 ∧ gb435 < w436.heap.size from ⟨Nat.le_of_eq hg2_.symm, blk_lt hx_⟩)
        clear hb hg_ hg2_ hx_
        obtain ⟨hczb440_0, hfzb440_0, hczb440_1, hfzb440_1, hczb440_2, hfzb440_2, hczb440_3, hfzb440_3, hczb440_4, hfzb440_4, hczb440_5, hfzb440_5⟩ := bk6 BK437.out
        refine hK.out _ _ ⟨bZ BK3.out 0, bZ BK3.out 1, bZ BK10.out 0, bZ BK10.out 1, bZ BK10.out 2, bZ BK10.out 3, bZ BK10.out 4, bZ BK10.out 5⟩ (fun hHeld => ?_)
        clear hK K
        refine norm_ (a' := ?_) ?_ ?_
        rotate_left
        · show Act.put _ (some 19) _ = _
          simp only [Act.put, List.setIfInBounds_toArray, List.set_cons_zero, List.set_cons_succ, i64_w, i32_w]
          rfl
        refine one_ (i := 3) (N := some 117) (bs 14 1055) rfl rfl (by kernel_rfl) (by decide) (fun K hK => ?_)
        refine goes_ Try.func33 (by kernel_rfl) rfl #[.agg #[.int .i64 a1_0, .int .i64 a1_1, .slice A1_2 l1_2.length c1_2, .int .i64 a1_3, .int .i64 a1_4, .int .i64 a1_5]] (by rfl) rfl rfl (by (try simp only [List.map_toArray, List.map_cons, List.map_nil]); first | done | rfl | (simp only [List.length_drop, List.length_take]; rfl)) ?_
        refine (laws_toCache.calls k a1_0 a1_1 _ _ l1_2 a1_3 a1_4 a1_5 t373 t374 t375 t376 t377 t378 _ (Kd.C_below HR1_2.out HB.out) HC1_2.out H379.out).mono ?_
        rintro e_ w448 ⟨v449, rfl, f450, hb⟩
        have hq_ : Below w436.heap.size w436 w448 := ⟨hb.os, hb.tape, hb.output, hb.size, hb.block⟩
        have HZ451 := Aside0.mk (show w436.heap.size ≤ w448.heap.size from hq_.size)
        replace HB := Aside0.mk (below_then HB.out HB.out.size hq_)
        have HA452 := Aside0.mk (show w.heap.size ≤ w448.heap.size from HB.out.size)
        replace F201 := Aside0.mk (Kd.R_below F201.out hq_)
        replace F216 := Aside0.mk (Kd.S_below F216.out hq_)
        replace F241 := Aside0.mk (Kd.R_below F241.out hq_)
        replace F268 := Aside0.mk (Kd.R_below F268.out hq_)
        replace F297 := Aside0.mk (Kd.S_below F297.out hq_)
        replace F320 := Aside0.mk (Kd.R_below F320.out hq_)
        replace F370 := Aside0.mk (Kd.S_below F370.out hq_)
        have hn_ := Aside0.mk (blk_below BK3.out hq_)
        clear hczb1_0 hfzb1_0; clear hczb1_1 hfzb1_1
        clear BK3
        have BK3 := hn_
        clear hn_
        have hn_ := Aside0.mk (blk_below BK10.out hq_)
        clear hczb8_0 hfzb8_0; clear hczb8_1 hfzb8_1; clear hczb8_2 hfzb8_2; clear hczb8_3 hfzb8_3; clear hczb8_4 hfzb8_4; clear hczb8_5 hfzb8_5
        clear BK10
        have BK10 := hn_
        clear hn_
        have hn_ := Aside0.mk (blk_below BK203.out hq_)
        clear hczb202_0 hfzb202_0; clear hczb202_1 hfzb202_1; clear hczb202_2 hfzb202_2; clear hczb202_3 hfzb202_3; clear hczb202_4 hfzb202_4; clear hczb202_5 hfzb202_5
        clear BK203
        have BK203 := hn_
        clear hn_
        have hn_ := Aside0.mk (blk_below BK221.out hq_)
        clear hczb219_0 hfzb219_0; clear hczb219_1 hfzb219_1
        clear BK221
        have BK221 := hn_
        clear hn_
        have hn_ := Aside0.mk (blk_below BK246.out hq_)
        clear hczb244_0 hfzb244_0; clear hczb244_1 hfzb244_1; clear hczb244_2 hfzb244_2; clear hczb244_3 hfzb244_3; clear hczb244_4 hfzb244_4; clear hczb244_5 hfzb244_5
        clear BK246
        have BK246 := hn_
        clear hn_
        have hn_ := Aside0.mk (blk_below BK273.out hq_)
        clear hczb271_0 hfzb271_0; clear hczb271_1 hfzb271_1; clear hczb271_2 hfzb271_2; clear hczb271_3 hfzb271_3; clear hczb271_4 hfzb271_4; clear hczb271_5 hfzb271_5
        clear BK273
        have BK273 := hn_
        clear hn_
        have hn_ := Aside0.mk (blk_below BK437.out hq_)
        clear hczb440_0 hfzb440_0; clear hczb440_1 hfzb440_1; clear hczb440_2 hfzb440_2; clear hczb440_3 hfzb440_3; clear hczb440_4 hfzb440_4; clear hczb440_5 hfzb440_5
        clear BK437
        have BK437 := hn_
        clear hn_
        clear hq_
        obtain ⟨hczb1_0, hfzb1_0, hczb1_1, hfzb1_1⟩ := bk2 BK3.out
        obtain ⟨hczb8_0, hfzb8_0, hczb8_1, hfzb8_1, hczb8_2, hfzb8_2, hczb8_3, hfzb8_3, hczb8_4, hfzb8_4, hczb8_5, hfzb8_5⟩ := bk6 BK10.out
        obtain ⟨hczb202_0, hfzb202_0, hczb202_1, hfzb202_1, hczb202_2, hfzb202_2, hczb202_3, hfzb202_3, hczb202_4, hfzb202_4, hczb202_5, hfzb202_5⟩ := bk6 BK203.out
        obtain ⟨hczb219_0, hfzb219_0, hczb219_1, hfzb219_1⟩ := bk2 BK221.out
        obtain ⟨hczb244_0, hfzb244_0, hczb244_1, hfzb244_1, hczb244_2, hfzb244_2, hczb244_3, hfzb244_3, hczb244_4, hfzb244_4, hczb244_5, hfzb244_5⟩ := bk6 BK246.out
        obtain ⟨hczb271_0, hfzb271_0, hczb271_1, hfzb271_1, hczb271_2, hfzb271_2, hczb271_3, hfzb271_3, hczb271_4, hfzb271_4, hczb271_5, hfzb271_5⟩ := bk6 BK273.out
        obtain ⟨hczb440_0, hfzb440_0, hczb440_1, hfzb440_1, hczb440_2, hfzb440_2, hczb440_3, hfzb440_3, hczb440_4, hfzb440_4, hczb440_5, hfzb440_5⟩ := bk6 BK437.out
        replace HBr := Aside0.mk (below_then HBr.out HBr.out.size hb)
        clear hb
        refine ⟨_, rfl, ?_⟩
        have F453 := Aside0.mk (Lk.newR (b := w436.heap.size) (base := w.heap.size) (Sep := fun k_ => True) rfl f450 (HA439.out) (fun k_ hk_ => hk_))
        clear f450
        obtain ⟨A454, c455, e_⟩ := Kd.R_slice F453.out
        subst e_
        refine hK.out _ _ ⟨bZ BK3.out 0, bZ BK3.out 1, bZ BK10.out 0, bZ BK10.out 1, bZ BK10.out 2, bZ BK10.out 3, bZ BK10.out 4, bZ BK10.out 5⟩ (fun hHeld => ?_)
        clear hK K
        refine norm_ (a' := ?_) ?_ ?_
        rotate_left
        · show Act.put _ (some 117) _ = _
          simp only [Act.put, List.setIfInBounds_toArray, List.set_cons_zero, List.set_cons_succ, i64_w, i32_w]
          rfl
        refine one_ (i := 5) (N := some 119) (bs 14 1087) rfl rfl (by kernel_rfl) (by decide) (fun K hK => ?_)
        refine goes_ Try.func42 (by kernel_rfl) rfl #[.agg #[.slice A371 t362.length c372, .int .i64 t363], .agg #[.int .i64 t373, .int .i64 t374, .slice A454 t375.length c455, .int .i64 t376, .int .i64 t377, .int .i64 t378], .int .i64 a2] (by rfl) rfl rfl (by (try simp only [List.map_toArray, List.map_cons, List.map_nil]); first | done | rfl | (simp only [List.length_drop, List.length_take]; rfl)) ?_
        refine (impl_CallBy.calls k _ _ t362 t363 t373 t374 _ _ t375 t376 t377 t378 a2 t388 t389 t390 t391 t392 t393 t60 t61 _ (Lk.Sr F370.out).2 (Lk.Sr F370.out).1 (Lk.Rr F453.out).2 (Lk.Rr F453.out).1 H396.out).mono ?_
        rintro e_ w464 ⟨v465, rfl, f466, hb⟩
        have hq_ : Below w448.heap.size w448 w464 := ⟨hb.os, hb.tape, hb.output, hb.size, hb.block⟩
        have HZ467 := Aside0.mk (show w448.heap.size ≤ w464.heap.size from hq_.size)
        replace HB := Aside0.mk (below_then HB.out HB.out.size hq_)
        have HA468 := Aside0.mk (show w.heap.size ≤ w464.heap.size from HB.out.size)
        replace F201 := Aside0.mk (Kd.R_below F201.out hq_)
        replace F216 := Aside0.mk (Kd.S_below F216.out hq_)
        replace F241 := Aside0.mk (Kd.R_below F241.out hq_)
        replace F268 := Aside0.mk (Kd.R_below F268.out hq_)
        replace F297 := Aside0.mk (Kd.S_below F297.out hq_)
        replace F320 := Aside0.mk (Kd.R_below F320.out hq_)
        replace F370 := Aside0.mk (Kd.S_below F370.out hq_)
        replace F453 := Aside0.mk (Kd.R_below F453.out hq_)
        have hn_ := Aside0.mk (blk_below BK3.out hq_)
        clear hczb1_0 hfzb1_0; clear hczb1_1 hfzb1_1
        clear BK3
        have BK3 := hn_
        clear hn_
        have hn_ := Aside0.mk (blk_below BK10.out hq_)
        clear hczb8_0 hfzb8_0; clear hczb8_1 hfzb8_1; clear hczb8_2 hfzb8_2; clear hczb8_3 hfzb8_3; clear hczb8_4 hfzb8_4; clear hczb8_5 hfzb8_5
        clear BK10
        have BK10 := hn_
        clear hn_
        have hn_ := Aside0.mk (blk_below BK203.out hq_)
        clear hczb202_0 hfzb202_0; clear hczb202_1 hfzb202_1; clear hczb202_2 hfzb202_2; clear hczb202_3 hfzb202_3; clear hczb202_4 hfzb202_4; clear hczb202_5 hfzb202_5
        clear BK203
        have BK203 := hn_
        clear hn_
        have hn_ := Aside0.mk (blk_below BK221.out hq_)
        clear hczb219_0 hfzb219_0; clear hczb219_1 hfzb219_1
        clear BK221
        have BK221 := hn_
        clear hn_
        have hn_ := Aside0.mk (blk_below BK246.out hq_)
        clear hczb244_0 hfzb244_0; clear hczb244_1 hfzb244_1; clear hczb244_2 hfzb244_2; clear hczb244_3 hfzb244_3; clear hczb244_4 hfzb244_4; clear hczb244_5 hfzb244_5
        clear BK246
        have BK246 := hn_
        clear hn_
        have hn_ := Aside0.mk (blk_below BK273.out hq_)
        clear hczb271_0 hfzb271_0; clear hczb271_1 hfzb271_1; clear hczb271_2 hfzb271_2; clear hczb271_3 hfzb271_3; clear hczb271_4 hfzb271_4; clear hczb271_5 hfzb271_5
        clear BK273
        have BK273 := hn_
        clear hn_
        have hn_ := Aside0.mk (blk_below BK437.out hq_)
        clear hczb440_0 hfzb440_0; clear hczb440_1 hfzb440_1; clear hczb440_2 hfzb440_2; clear hczb440_3 hfzb440_3; clear hczb440_4 hfzb440_4; clear hczb440_5 hfzb440_5
        clear BK437
        have BK437 := hn_
        clear hn_
        clear hq_
        obtain ⟨hczb1_0, hfzb1_0, hczb1_1, hfzb1_1⟩ := bk2 BK3.out
        obtain ⟨hczb8_0, hfzb8_0, hczb8_1, hfzb8_1, hczb8_2, hfzb8_2, hczb8_3, hfzb8_3, hczb8_4, hfzb8_4, hczb8_5, hfzb8_5⟩ := bk6 BK10.out
        obtain ⟨hczb202_0, hfzb202_0, hczb202_1, hfzb202_1, hczb202_2, hfzb202_2, hczb202_3, hfzb202_3, hczb202_4, hfzb202_4, hczb202_5, hfzb202_5⟩ := bk6 BK203.out
        obtain ⟨hczb219_0, hfzb219_0, hczb219_1, hfzb219_1⟩ := bk2 BK221.out
        obtain ⟨hczb244_0, hfzb244_0, hczb244_1, hfzb244_1, hczb244_2, hfzb244_2, hczb244_3, hfzb244_3, hczb244_4, hfzb244_4, hczb244_5, hfzb244_5⟩ := bk6 BK246.out
        obtain ⟨hczb271_0, hfzb271_0, hczb271_1, hfzb271_1, hczb271_2, hfzb271_2, hczb271_3, hfzb271_3, hczb271_4, hfzb271_4, hczb271_5, hfzb271_5⟩ := bk6 BK273.out
        obtain ⟨hczb440_0, hfzb440_0, hczb440_1, hfzb440_1, hczb440_2, hfzb440_2, hczb440_3, hfzb440_3, hczb440_4, hfzb440_4, hczb440_5, hfzb440_5⟩ := bk6 BK437.out
        replace HBr := Aside0.mk (below_then HBr.out HBr.out.size hb)
        clear hb
        refine ⟨_, rfl, ?_⟩
        have F469 := Aside0.mk (Lk.newR (b := w448.heap.size) (base := w.heap.size) (Sep := fun k_ => True) rfl f466 (HA452.out) (fun k_ hk_ => hk_))
        clear f466
        obtain ⟨A470, c471, e_⟩ := Kd.R_slice F469.out
        subst e_
        refine hK.out _ _ ⟨bZ BK3.out 0, bZ BK3.out 1, bZ BK10.out 0, bZ BK10.out 1, bZ BK10.out 2, bZ BK10.out 3, bZ BK10.out 4, bZ BK10.out 5⟩ (fun hHeld => ?_)
        clear hK K
        refine norm_ (a' := ?_) ?_ ?_
        rotate_left
        · show Act.put _ (some 119) _ = _
          simp only [Act.put, List.setIfInBounds_toArray, List.set_cons_zero, List.set_cons_succ, i64_w, i32_w]
          rfl
        refine pure_ (i := 6) (N := some 113) (v := ?_) (a' := ?_) (bs 14 1151) rfl rfl (by kernel_rfl) (fun _ _ _ h => h) (Or.inl ⟨by rfl, ?_⟩) ?_ ?_
        rotate_left
        · intro w'
          go_simp
          with_reducible rfl
        rotate_left
        · simp only [Act.put, List.setIfInBounds_toArray, List.set_cons_zero, List.set_cons_succ, i64_w, i32_w]
          rfl
        refine pure_ (i := 7) (N := some 120) (v := ?_) (a' := ?_) (bs 14 1279) rfl rfl (by kernel_rfl) (fun _ _ _ h => h) (Or.inl ⟨by rfl, ?_⟩) ?_ ?_
        rotate_left
        · intro w'
          go_simp
          with_reducible rfl
        rotate_left
        · simp only [Act.put, List.setIfInBounds_toArray, List.set_cons_zero, List.set_cons_succ, i64_w, i32_w]
          rfl
        refine pure_ (i := 8) (N := some 121) (v := ?_) (a' := ?_) (bs 14 1535) rfl rfl (by kernel_rfl) (fun _ _ _ h => h) (Or.inl ⟨by rfl, ?_⟩) ?_ ?_
        rotate_left
        · intro w'
          go_simp
          with_reducible rfl
        rotate_left
        · simp only [Act.put, List.setIfInBounds_toArray, List.set_cons_zero, List.set_cons_succ, i64_w, i32_w]
          rfl
        refine pure_ (i := 9) (N := some 122) (v := ?_) (a' := ?_) (bs 14 2047) rfl rfl (by kernel_rfl) (fun _ _ _ h => h) (Or.inl ⟨by rfl, ?_⟩) ?_ ?_
        rotate_left
        · intro w'
          go_simp
          with_reducible rfl
        rotate_left
        · simp only [Act.put, List.setIfInBounds_toArray, List.set_cons_zero, List.set_cons_succ, i64_w, i32_w]
          rfl
        refine norm_ ?_ (hcont_ (.agg #[.slice A371 t362.length c372, .int .i64 t363], .agg #[.int .i64 t373, .int .i64 t374, .slice A454 t375.length c455, .int .i64 t376, .int .i64 t377, .int .i64 t378], A470, c471, gb435) _ ⟨HBr.out, w448, w464, by have := HZ6.out; have := HZ13.out; have := HZ18.out; have := HZ23.out; have := HZ26.out; have := HZ194.out; have := HZ195.out; have := HZ196.out; have := HZ206.out; have := HZ214.out; have := HZ224.out; have := HZ227.out; have := HZ239.out; have := HZ249.out; have := HZ252.out; have := HZ266.out; have := HZ276.out; have := HZ279.out; have := HZ284.out; have := HZ287.out; have := HZ295.out; have := HZ303.out; have := HZ306.out; have := HZ318.out; have := HZ326.out; have := HZ330.out; have := HZ338.out; have := HZ344.out; have := HZ351.out; have := HZ357.out; have := HZ360.out; have := HZ368.out; have := HZ438.out; have := HZ451.out; have := HZ467.out; have := GQ441.out; have := HBr.out.size; omega, by have := HZ6.out; have := HZ13.out; have := HZ18.out; have := HZ23.out; have := HZ26.out; have := HZ194.out; have := HZ195.out; have := HZ196.out; have := HZ206.out; have := HZ214.out; have := HZ224.out; have := HZ227.out; have := HZ239.out; have := HZ249.out; have := HZ252.out; have := HZ266.out; have := HZ276.out; have := HZ279.out; have := HZ284.out; have := HZ287.out; have := HZ295.out; have := HZ303.out; have := HZ306.out; have := HZ318.out; have := HZ326.out; have := HZ330.out; have := HZ338.out; have := HZ344.out; have := HZ351.out; have := HZ357.out; have := HZ360.out; have := HZ368.out; have := HZ438.out; have := HZ451.out; have := HZ467.out; have := GQ441.out; have := HBr.out.size; omega, by have := HZ6.out; have := HZ13.out; have := HZ18.out; have := HZ23.out; have := HZ26.out; have := HZ194.out; have := HZ195.out; have := HZ196.out; have := HZ206.out; have := HZ214.out; have := HZ224.out; have := HZ227.out; have := HZ239.out; have := HZ249.out; have := HZ252.out; have := HZ266.out; have := HZ276.out; have := HZ279.out; have := HZ284.out; have := HZ287.out; have := HZ295.out; have := HZ303.out; have := HZ306.out; have := HZ318.out; have := HZ326.out; have := HZ330.out; have := HZ338.out; have := HZ344.out; have := HZ351.out; have := HZ357.out; have := HZ360.out; have := HZ368.out; have := HZ438.out; have := HZ451.out; have := HZ467.out; have := GQ441.out; have := HBr.out.size; omega, F469.out, BK437.out, by have := HZ6.out; have := HZ13.out; have := HZ18.out; have := HZ23.out; have := HZ26.out; have := HZ194.out; have := HZ195.out; have := HZ196.out; have := HZ206.out; have := HZ214.out; have := HZ224.out; have := HZ227.out; have := HZ239.out; have := HZ249.out; have := HZ252.out; have := HZ266.out; have := HZ276.out; have := HZ279.out; have := HZ284.out; have := HZ287.out; have := HZ295.out; have := HZ303.out; have := HZ306.out; have := HZ318.out; have := HZ326.out; have := HZ330.out; have := HZ338.out; have := HZ344.out; have := HZ351.out; have := HZ357.out; have := HZ360.out; have := HZ368.out; have := HZ438.out; have := HZ451.out; have := HZ467.out; have := GQ441.out; have := HBr.out.size; omega, by have := HZ6.out; have := HZ13.out; have := HZ18.out; have := HZ23.out; have := HZ26.out; have := HZ194.out; have := HZ195.out; have := HZ196.out; have := HZ206.out; have := HZ214.out; have := HZ224.out; have := HZ227.out; have := HZ239.out; have := HZ249.out; have := HZ252.out; have := HZ266.out; have := HZ276.out; have := HZ279.out; have := HZ284.out; have := HZ287.out; have := HZ295.out; have := HZ303.out; have := HZ306.out; have := HZ318.out; have := HZ326.out; have := HZ330.out; have := HZ338.out; have := HZ344.out; have := HZ351.out; have := HZ357.out; have := HZ360.out; have := HZ368.out; have := HZ438.out; have := HZ451.out; have := HZ467.out; have := GQ441.out; have := HBr.out.size; omega, by have := HZ6.out; have := HZ13.out; have := HZ18.out; have := HZ23.out; have := HZ26.out; have := HZ194.out; have := HZ195.out; have := HZ196.out; have := HZ206.out; have := HZ214.out; have := HZ224.out; have := HZ227.out; have := HZ239.out; have := HZ249.out; have := HZ252.out; have := HZ266.out; have := HZ276.out; have := HZ279.out; have := HZ284.out; have := HZ287.out; have := HZ295.out; have := HZ303.out; have := HZ306.out; have := HZ318.out; have := HZ326.out; have := HZ330.out; have := HZ338.out; have := HZ344.out; have := HZ351.out; have := HZ357.out; have := HZ360.out; have := HZ368.out; have := HZ438.out; have := HZ451.out; have := HZ467.out; have := GQ441.out; have := HBr.out.size; omega⟩)
        simp only [putAll, Act.put, List.setIfInBounds_toArray, List.set_cons_zero, List.set_cons_succ]
    · skip
      refine Lk.alloc_step (cs := #[(.int .i64 0), (.int .i64 0), (.slice none 0 0), (.int .i64 0), (.int .i64 0), (.int .i64 0)]) (t := 44) (by rfl) rfl (by first | (go_simp; done) | (go_simp; rfl)) ?_
      intro gb472 w473 hg_ hx_ hb
      have hg2_ : gb472 = w359.heap.size := hg_
      replace HBr := Aside0.mk (below_then HBr.out HBr.out.size hb)
      have hq_ : Below w359.heap.size w359 w473 := ⟨hb.os, hb.tape, hb.output, hb.size, hb.block⟩
      have HZ475 := Aside0.mk (show w359.heap.size ≤ w473.heap.size from hq_.size)
      replace HB := Aside0.mk (below_then HB.out HB.out.size hq_)
      have HA476 := Aside0.mk (show w.heap.size ≤ w473.heap.size from HB.out.size)
      replace F201 := Aside0.mk (Kd.R_below F201.out hq_)
      replace F216 := Aside0.mk (Kd.S_below F216.out hq_)
      replace F241 := Aside0.mk (Kd.R_below F241.out hq_)
      replace F268 := Aside0.mk (Kd.R_below F268.out hq_)
      replace F297 := Aside0.mk (Kd.S_below F297.out hq_)
      replace F320 := Aside0.mk (Kd.R_below F320.out hq_)
      have hn_ := Aside0.mk (blk_below BK3.out hq_)
      clear hczb1_0 hfzb1_0; clear hczb1_1 hfzb1_1
      clear BK3
      have BK3 := hn_
      clear hn_
      have hn_ := Aside0.mk (blk_below BK10.out hq_)
      clear hczb8_0 hfzb8_0; clear hczb8_1 hfzb8_1; clear hczb8_2 hfzb8_2; clear hczb8_3 hfzb8_3; clear hczb8_4 hfzb8_4; clear hczb8_5 hfzb8_5
      clear BK10
      have BK10 := hn_
      clear hn_
      have hn_ := Aside0.mk (blk_below BK203.out hq_)
      clear hczb202_0 hfzb202_0; clear hczb202_1 hfzb202_1; clear hczb202_2 hfzb202_2; clear hczb202_3 hfzb202_3; clear hczb202_4 hfzb202_4; clear hczb202_5 hfzb202_5
      clear BK203
      have BK203 := hn_
      clear hn_
      have hn_ := Aside0.mk (blk_below BK221.out hq_)
      clear hczb219_0 hfzb219_0; clear hczb219_1 hfzb219_1
      clear BK221
      have BK221 := hn_
      clear hn_
      have hn_ := Aside0.mk (blk_below BK246.out hq_)
      clear hczb244_0 hfzb244_0; clear hczb244_1 hfzb244_1; clear hczb244_2 hfzb244_2; clear hczb244_3 hfzb244_3; clear hczb244_4 hfzb244_4; clear hczb244_5 hfzb244_5
      clear BK246
      have BK246 := hn_
      clear hn_
      have hn_ := Aside0.mk (blk_below BK273.out hq_)
      clear hczb271_0 hfzb271_0; clear hczb271_1 hfzb271_1; clear hczb271_2 hfzb271_2; clear hczb271_3 hfzb271_3; clear hczb271_4 hfzb271_4; clear hczb271_5 hfzb271_5
      clear BK273
      have BK273 := hn_
      clear hn_
      clear hq_
      obtain ⟨hczb1_0, hfzb1_0, hczb1_1, hfzb1_1⟩ := bk2 BK3.out
      obtain ⟨hczb8_0, hfzb8_0, hczb8_1, hfzb8_1, hczb8_2, hfzb8_2, hczb8_3, hfzb8_3, hczb8_4, hfzb8_4, hczb8_5, hfzb8_5⟩ := bk6 BK10.out
      obtain ⟨hczb202_0, hfzb202_0, hczb202_1, hfzb202_1, hczb202_2, hfzb202_2, hczb202_3, hfzb202_3, hczb202_4, hfzb202_4, hczb202_5, hfzb202_5⟩ := bk6 BK203.out
      obtain ⟨hczb219_0, hfzb219_0, hczb219_1, hfzb219_1⟩ := bk2 BK221.out
      obtain ⟨hczb244_0, hfzb244_0, hczb244_1, hfzb244_1, hczb244_2, hfzb244_2, hczb244_3, hfzb244_3, hczb244_4, hfzb244_4, hczb244_5, hfzb244_5⟩ := bk6 BK246.out
      obtain ⟨hczb271_0, hfzb271_0, hczb271_1, hfzb271_1, hczb271_2, hfzb271_2, hczb271_3, hfzb271_3, hczb271_4, hfzb271_4, hczb271_5, hfzb271_5⟩ := bk6 BK273.out
      have BK474 := Aside0.mk hx_
      have GQ478 := Aside0.mk (show w359.heap.size ≤ gb472 ∧ gb472 < w473.heap.size from ⟨Nat.le_of_eq hg2_.symm, blk_lt hx_⟩)
      clear hb hg_ hg2_ hx_
      obtain ⟨hczb477_0, hfzb477_0, hczb477_1, hfzb477_1, hczb477_2, hfzb477_2, hczb477_3, hfzb477_3, hczb477_4, hfzb477_4, hczb477_5, hfzb477_5⟩ := bk6 BK474.out
      refine hK.out _ _ ⟨bZ BK3.out 0, bZ BK3.out 1, bZ BK10.out 0, bZ BK10.out 1, bZ BK10.out 2, bZ BK10.out 3, bZ BK10.out 4, bZ BK10.out 5⟩ (fun hHeld => ?_)
      clear hK K
      refine norm_ (a' := ?_) ?_ ?_
      rotate_left
      · show Act.put _ (some 19) _ = _
        simp only [Act.put, List.setIfInBounds_toArray, List.set_cons_zero, List.set_cons_succ, i64_w, i32_w]
        rfl
      refine one_ (i := 1) (N := some 115) (bs 14 1047) rfl rfl (by kernel_rfl) (by decide) (fun K hK => ?_)
      refine goes_ Try.func15 (by kernel_rfl) rfl #[.agg #[.slice A0_0 l0_0.length c0_0, .int .i64 a0_1]] (by rfl) rfl rfl (by (try simp only [List.map_toArray, List.map_cons, List.map_nil]); first | done | rfl | (simp only [List.length_drop, List.length_take]; rfl)) ?_
      refine (laws_toWorld.calls k _ _ l0_0 a0_1 t362 t363 _ (Kd.C_below HR0_0.out HB.out) HC0_0.out H364.out).mono ?_
      rintro e_ w481 ⟨v482, rfl, f483, hb⟩
      have hq_ : Below w473.heap.size w473 w481 := ⟨hb.os, hb.tape, hb.output, hb.size, hb.block⟩
      have HZ484 := Aside0.mk (show w473.heap.size ≤ w481.heap.size from hq_.size)
      replace HB := Aside0.mk (below_then HB.out HB.out.size hq_)
      have HA485 := Aside0.mk (show w.heap.size ≤ w481.heap.size from HB.out.size)
      replace F201 := Aside0.mk (Kd.R_below F201.out hq_)
      replace F216 := Aside0.mk (Kd.S_below F216.out hq_)
      replace F241 := Aside0.mk (Kd.R_below F241.out hq_)
      replace F268 := Aside0.mk (Kd.R_below F268.out hq_)
      replace F297 := Aside0.mk (Kd.S_below F297.out hq_)
      replace F320 := Aside0.mk (Kd.R_below F320.out hq_)
      have hn_ := Aside0.mk (blk_below BK3.out hq_)
      clear hczb1_0 hfzb1_0; clear hczb1_1 hfzb1_1
      clear BK3
      have BK3 := hn_
      clear hn_
      have hn_ := Aside0.mk (blk_below BK10.out hq_)
      clear hczb8_0 hfzb8_0; clear hczb8_1 hfzb8_1; clear hczb8_2 hfzb8_2; clear hczb8_3 hfzb8_3; clear hczb8_4 hfzb8_4; clear hczb8_5 hfzb8_5
      clear BK10
      have BK10 := hn_
      clear hn_
      have hn_ := Aside0.mk (blk_below BK203.out hq_)
      clear hczb202_0 hfzb202_0; clear hczb202_1 hfzb202_1; clear hczb202_2 hfzb202_2; clear hczb202_3 hfzb202_3; clear hczb202_4 hfzb202_4; clear hczb202_5 hfzb202_5
      clear BK203
      have BK203 := hn_
      clear hn_
      have hn_ := Aside0.mk (blk_below BK221.out hq_)
      clear hczb219_0 hfzb219_0; clear hczb219_1 hfzb219_1
      clear BK221
      have BK221 := hn_
      clear hn_
      have hn_ := Aside0.mk (blk_below BK246.out hq_)
      clear hczb244_0 hfzb244_0; clear hczb244_1 hfzb244_1; clear hczb244_2 hfzb244_2; clear hczb244_3 hfzb244_3; clear hczb244_4 hfzb244_4; clear hczb244_5 hfzb244_5
      clear BK246
      have BK246 := hn_
      clear hn_
      have hn_ := Aside0.mk (blk_below BK273.out hq_)
      clear hczb271_0 hfzb271_0; clear hczb271_1 hfzb271_1; clear hczb271_2 hfzb271_2; clear hczb271_3 hfzb271_3; clear hczb271_4 hfzb271_4; clear hczb271_5 hfzb271_5
      clear BK273
      have BK273 := hn_
      clear hn_
      have hn_ := Aside0.mk (blk_below BK474.out hq_)
      clear hczb477_0 hfzb477_0; clear hczb477_1 hfzb477_1; clear hczb477_2 hfzb477_2; clear hczb477_3 hfzb477_3; clear hczb477_4 hfzb477_4; clear hczb477_5 hfzb477_5
      clear BK474
      have BK474 := hn_
      clear hn_
      clear hq_
      obtain ⟨hczb1_0, hfzb1_0, hczb1_1, hfzb1_1⟩ := bk2 BK3.out
      obtain ⟨hczb8_0, hfzb8_0, hczb8_1, hfzb8_1, hczb8_2, hfzb8_2, hczb8_3, hfzb8_3, hczb8_4, hfzb8_4, hczb8_5, hfzb8_5⟩ := bk6 BK10.out
      obtain ⟨hczb202_0, hfzb202_0, hczb202_1, hfzb202_1, hczb202_2, hfzb202_2, hczb202_3, hfzb202_3, hczb202_4, hfzb202_4, hczb202_5, hfzb202_5⟩ := bk6 BK203.out
      obtain ⟨hczb219_0, hfzb219_0, hczb219_1, hfzb219_1⟩ := bk2 BK221.out
      obtain ⟨hczb244_0, hfzb244_0, hczb244_1, hfzb244_1, hczb244_2, hfzb244_2, hczb244_3, hfzb244_3, hczb244_4, hfzb244_4, hczb244_5, hfzb244_5⟩ := bk6 BK246.out
      obtain ⟨hczb271_0, hfzb271_0, hczb271_1, hfzb271_1, hczb271_2, hfzb271_2, hczb271_3, hfzb271_3, hczb271_4, hfzb271_4, hczb271_5, hfzb271_5⟩ := bk6 BK273.out
      obtain ⟨hczb477_0, hfzb477_0, hczb477_1, hfzb477_1, hczb477_2, hfzb477_2, hczb477_3, hfzb477_3, hczb477_4, hfzb477_4, hczb477_5, hfzb477_5⟩ := bk6 BK474.out
      replace HBr := Aside0.mk (below_then HBr.out HBr.out.size hb)
      clear hb
      refine ⟨_, rfl, ?_⟩
      have F486 := Aside0.mk (Lk.newS (b := w473.heap.size) (base := w.heap.size) (Sep := fun k_ => True) f483 (HA476.out) (fun k_ hk_ => hk_))
      clear f483
      obtain ⟨A487, c488, e_⟩ := Kd.S_slice F486.out
      subst e_
      refine hK.out _ _ ⟨bZ BK3.out 0, bZ BK3.out 1, bZ BK10.out 0, bZ BK10.out 1, bZ BK10.out 2, bZ BK10.out 3, bZ BK10.out 4, bZ BK10.out 5⟩ (fun hHeld => ?_)
      clear hK K
      refine norm_ (a' := ?_) ?_ ?_
      rotate_left
      · show Act.put _ (some 115) _ = _
        simp only [Act.put, List.setIfInBounds_toArray, List.set_cons_zero, List.set_cons_succ, i64_w, i32_w]
        rfl
      refine one_ (i := 3) (N := some 117) (bs 14 1055) rfl rfl (by kernel_rfl) (by decide) (fun K hK => ?_)
      refine goes_ Try.func33 (by kernel_rfl) rfl #[.agg #[.int .i64 a1_0, .int .i64 a1_1, .slice A1_2 l1_2.length c1_2, .int .i64 a1_3, .int .i64 a1_4, .int .i64 a1_5]] (by rfl) rfl rfl (by (try simp only [List.map_toArray, List.map_cons, List.map_nil]); first | done | rfl | (simp only [List.length_drop, List.length_take]; rfl)) ?_
      refine (laws_toCache.calls k a1_0 a1_1 _ _ l1_2 a1_3 a1_4 a1_5 t373 t374 t375 t376 t377 t378 _ (Kd.C_below HR1_2.out HB.out) HC1_2.out H379.out).mono ?_
      rintro e_ w495 ⟨v496, rfl, f497, hb⟩
      have hq_ : Below w481.heap.size w481 w495 := ⟨hb.os, hb.tape, hb.output, hb.size, hb.block⟩
      have HZ498 := Aside0.mk (show w481.heap.size ≤ w495.heap.size from hq_.size)
      replace HB := Aside0.mk (below_then HB.out HB.out.size hq_)
      have HA499 := Aside0.mk (show w.heap.size ≤ w495.heap.size from HB.out.size)
      replace F201 := Aside0.mk (Kd.R_below F201.out hq_)
      replace F216 := Aside0.mk (Kd.S_below F216.out hq_)
      replace F241 := Aside0.mk (Kd.R_below F241.out hq_)
      replace F268 := Aside0.mk (Kd.R_below F268.out hq_)
      replace F297 := Aside0.mk (Kd.S_below F297.out hq_)
      replace F320 := Aside0.mk (Kd.R_below F320.out hq_)
      replace F486 := Aside0.mk (Kd.S_below F486.out hq_)
      have hn_ := Aside0.mk (blk_below BK3.out hq_)
      clear hczb1_0 hfzb1_0; clear hczb1_1 hfzb1_1
      clear BK3
      have BK3 := hn_
      clear hn_
      have hn_ := Aside0.mk (blk_below BK10.out hq_)
      clear hczb8_0 hfzb8_0; clear hczb8_1 hfzb8_1; clear hczb8_2 hfzb8_2; clear hczb8_3 hfzb8_3; clear hczb8_4 hfzb8_4; clear hczb8_5 hfzb8_5
      clear BK10
      have BK10 := hn_
      clear hn_
      have hn_ := Aside0.mk (blk_below BK203.out hq_)
      clear hczb202_0 hfzb202_0; clear hczb202_1 hfzb202_1; clear hczb202_2 hfzb202_2; clear hczb202_3 hfzb202_3; clear hczb202_4 hfzb202_4; clear hczb202_5 hfzb202_5
      clear BK203
      have BK203 := hn_
      clear hn_
      have hn_ := Aside0.mk (blk_below BK221.out hq_)
      clear hczb219_0 hfzb219_0; clear hczb219_1 hfzb219_1
      clear BK221
      have BK221 := hn_
      clear hn_
      have hn_ := Aside0.mk (blk_below BK246.out hq_)
      clear hczb244_0 hfzb244_0; clear hczb244_1 hfzb244_1; clear hczb244_2 hfzb244_2; clear hczb244_3 hfzb244_3; clear hczb244_4 hfzb244_4; clear hczb244_5 hfzb244_5
      clear BK246
      have BK246 := hn_
      clear hn_
      have hn_ := Aside0.mk (blk_below BK273.out hq_)
      clear hczb271_0 hfzb271_0; clear hczb271_1 hfzb271_1; clear hczb271_2 hfzb271_2; clear hczb271_3 hfzb271_3; clear hczb271_4 hfzb271_4; clear hczb271_5 hfzb271_5
      clear BK273
      have BK273 := hn_
      clear hn_
      have hn_ := Aside0.mk (blk_below BK474.out hq_)
      clear hczb477_0 hfzb477_0; clear hczb477_1 hfzb477_1; clear hczb477_2 hfzb477_2; clear hczb477_3 hfzb477_3; clear hczb477_4 hfzb477_4; clear hczb477_5 hfzb477_5
      clear BK474
      have BK474 := hn_
      clear hn_
      clear hq_
      obtain ⟨hczb1_0, hfzb1_0, hczb1_1, hfzb1_1⟩ := bk2 BK3.out
      obtain ⟨hczb8_0, hfzb8_0, hczb8_1, hfzb8_1, hczb8_2, hfzb8_2, hczb8_3, hfzb8_3, hczb8_4, hfzb8_4, hczb8_5, hfzb8_5⟩ := bk6 BK10.out
      obtain ⟨hczb202_0, hfzb202_0, hczb202_1, hfzb202_1, hczb202_2, hfzb202_2, hczb202_3, hfzb202_3, hczb202_4, hfzb202_4, hczb202_5, hfzb202_5⟩ := bk6 BK203.out
      obtain ⟨hczb219_0, hfzb219_0, hczb219_1, hfzb219_1⟩ := bk2 BK221.out
      obtain ⟨hczb244_0, hfzb244_0, hczb244_1, hfzb244_1, hczb244_2, hfzb244_2, hczb244_3, hfzb244_3, hczb244_4, hfzb244_4, hczb244_5, hfzb244_5⟩ := bk6 BK246.out
      obtain ⟨hczb271_0, hfzb271_0, hczb271_1, hfzb271_1, hczb271_2, hfzb271_2, hczb271_3, hfzb271_3, hczb271_4, hfzb271_4, hczb271_5, hfzb271_5⟩ := bk6 BK273.out
      obtain ⟨hczb477_0, hfzb477_0, hczb477_1, hfzb477_1, hczb477_2, hfzb477_2, hczb477_3, hfzb477_3, hczb477_4, hfzb477_4, hczb477_5, hfzb477_5⟩ := bk6 BK474.out
      replace HBr := Aside0.mk (below_then HBr.out HBr.out.size hb)
      clear hb
      refine ⟨_, rfl, ?_⟩
      have F500 := Aside0.mk (Lk.newR (b := w481.heap.size) (base := w.heap.size) (Sep := fun k_ => True) rfl f497 (HA485.out) (fun k_ hk_ => hk_))
      clear f497
      obtain ⟨A501, c502, e_⟩ := Kd.R_slice F500.out
      subst e_
      refine hK.out _ _ ⟨bZ BK3.out 0, bZ BK3.out 1, bZ BK10.out 0, bZ BK10.out 1, bZ BK10.out 2, bZ BK10.out 3, bZ BK10.out 4, bZ BK10.out 5⟩ (fun hHeld => ?_)
      clear hK K
      refine norm_ (a' := ?_) ?_ ?_
      rotate_left
      · show Act.put _ (some 117) _ = _
        simp only [Act.put, List.setIfInBounds_toArray, List.set_cons_zero, List.set_cons_succ, i64_w, i32_w]
        rfl
      refine one_ (i := 5) (N := some 119) (bs 14 1087) rfl rfl (by kernel_rfl) (by decide) (fun K hK => ?_)
      refine goes_ Try.func42 (by kernel_rfl) rfl #[.agg #[.slice A487 t362.length c488, .int .i64 t363], .agg #[.int .i64 t373, .int .i64 t374, .slice A501 t375.length c502, .int .i64 t376, .int .i64 t377, .int .i64 t378], .int .i64 a2] (by rfl) rfl rfl (by (try simp only [List.map_toArray, List.map_cons, List.map_nil]); first | done | rfl | (simp only [List.length_drop, List.length_take]; rfl)) ?_
      refine (impl_CallBy.calls k _ _ t362 t363 t373 t374 _ _ t375 t376 t377 t378 a2 t388 t389 t390 t391 t392 t393 t60 t61 _ (Lk.Sr F486.out).2 (Lk.Sr F486.out).1 (Lk.Rr F500.out).2 (Lk.Rr F500.out).1 H396.out).mono ?_
      rintro e_ w511 ⟨v512, rfl, f513, hb⟩
      have hq_ : Below w495.heap.size w495 w511 := ⟨hb.os, hb.tape, hb.output, hb.size, hb.block⟩
      have HZ514 := Aside0.mk (show w495.heap.size ≤ w511.heap.size from hq_.size)
      replace HB := Aside0.mk (below_then HB.out HB.out.size hq_)
      have HA515 := Aside0.mk (show w.heap.size ≤ w511.heap.size from HB.out.size)
      replace F201 := Aside0.mk (Kd.R_below F201.out hq_)
      replace F216 := Aside0.mk (Kd.S_below F216.out hq_)
      replace F241 := Aside0.mk (Kd.R_below F241.out hq_)
      replace F268 := Aside0.mk (Kd.R_below F268.out hq_)
      replace F297 := Aside0.mk (Kd.S_below F297.out hq_)
      replace F320 := Aside0.mk (Kd.R_below F320.out hq_)
      replace F486 := Aside0.mk (Kd.S_below F486.out hq_)
      replace F500 := Aside0.mk (Kd.R_below F500.out hq_)
      have hn_ := Aside0.mk (blk_below BK3.out hq_)
      clear hczb1_0 hfzb1_0; clear hczb1_1 hfzb1_1
      clear BK3
      have BK3 := hn_
      clear hn_
      have hn_ := Aside0.mk (blk_below BK10.out hq_)
      clear hczb8_0 hfzb8_0; clear hczb8_1 hfzb8_1; clear hczb8_2 hfzb8_2; clear hczb8_3 hfzb8_3; clear hczb8_4 hfzb8_4; clear hczb8_5 hfzb8_5
      clear BK10
      have BK10 := hn_
      clear hn_
      have hn_ := Aside0.mk (blk_below BK203.out hq_)
      clear hczb202_0 hfzb202_0; clear hczb202_1 hfzb202_1; clear hczb202_2 hfzb202_2; clear hczb202_3 hfzb202_3; clear hczb202_4 hfzb202_4; clear hczb202_5 hfzb202_5
      clear BK203
      have BK203 := hn_
      clear hn_
      have hn_ := Aside0.mk (blk_below BK221.out hq_)
      clear hczb219_0 hfzb219_0; clear hczb219_1 hfzb219_1
      clear BK221
      have BK221 := hn_
      clear hn_
      have hn_ := Aside0.mk (blk_below BK246.out hq_)
      clear hczb244_0 hfzb244_0; clear hczb244_1 hfzb244_1; clear hczb244_2 hfzb244_2; clear hczb244_3 hfzb244_3; clear hczb244_4 hfzb244_4; clear hczb244_5 hfzb244_5
      clear BK246
      have BK246 := hn_
      clear hn_
      have hn_ := Aside0.mk (blk_below BK273.out hq_)
      clear hczb271_0 hfzb271_0; clear hczb271_1 hfzb271_1; clear hczb271_2 hfzb271_2; clear hczb271_3 hfzb271_3; clear hczb271_4 hfzb271_4; clear hczb271_5 hfzb271_5
      clear BK273
      have BK273 := hn_
      clear hn_
      have hn_ := Aside0.mk (blk_below BK474.out hq_)
      clear hczb477_0 hfzb477_0; clear hczb477_1 hfzb477_1; clear hczb477_2 hfzb477_2; clear hczb477_3 hfzb477_3; clear hczb477_4 hfzb477_4; clear hczb477_5 hfzb477_5
      clear BK474
      have BK474 := hn_
      clear hn_
      clear hq_
      obtain ⟨hczb1_0, hfzb1_0, hczb1_1, hfzb1_1⟩ := bk2 BK3.out
      obtain ⟨hczb8_0, hfzb8_0, hczb8_1, hfzb8_1, hczb8_2, hfzb8_2, hczb8_3, hfzb8_3, hczb8_4, hfzb8_4, hczb8_5, hfzb8_5⟩ := bk6 BK10.out
      obtain ⟨hczb202_0, hfzb202_0, hczb202_1, hfzb202_1, hczb202_2, hfzb202_2, hczb202_3, hfzb202_3, hczb202_4, hfzb202_4, hczb202_5, hfzb202_5⟩ := bk6 BK203.out
      obtain ⟨hczb219_0, hfzb219_0, hczb219_1, hfzb219_1⟩ := bk2 BK221.out
      obtain ⟨hczb244_0, hfzb244_0, hczb244_1, hfzb244_1, hczb244_2, hfzb244_2, hczb244_3, hfzb244_3, hczb244_4, hfzb244_4, hczb244_5, hfzb244_5⟩ := bk6 BK246.out
      obtain ⟨hczb271_0, hfzb271_0, hczb271_1, hfzb271_1, hczb271_2, hfzb271_2, hczb271_3, hfzb271_3, hczb271_4, hfzb271_4, hczb271_5, hfzb271_5⟩ := bk6 BK273.out
      obtain ⟨hczb477_0, hfzb477_0, hczb477_1, hfzb477_1, hczb477_2, hfzb477_2, hczb477_3, hfzb477_3, hczb477_4, hfzb477_4, hczb477_5, hfzb477_5⟩ := bk6 BK474.out
      replace HBr := Aside0.mk (below_then HBr.out HBr.out.size hb)
      clear hb
      refine ⟨_, rfl, ?_⟩
      have F516 := Aside0.mk (Lk.newR (b := w495.heap.size) (base := w.heap.size) (Sep := fun k_ => True) rfl f513 (HA499.out) (fun k_ hk_ => hk_))
      clear f513
      obtain ⟨A517, c518, e_⟩ := Kd.R_slice F516.out
      subst e_
      refine hK.out _ _ ⟨bZ BK3.out 0, bZ BK3.out 1, bZ BK10.out 0, bZ BK10.out 1, bZ BK10.out 2, bZ BK10.out 3, bZ BK10.out 4, bZ BK10.out 5⟩ (fun hHeld => ?_)
      clear hK K
      refine norm_ (a' := ?_) ?_ ?_
      rotate_left
      · show Act.put _ (some 119) _ = _
        simp only [Act.put, List.setIfInBounds_toArray, List.set_cons_zero, List.set_cons_succ, i64_w, i32_w]
        rfl
      refine pure_ (i := 6) (N := some 113) (v := ?_) (a' := ?_) (bs 14 1151) rfl rfl (by kernel_rfl) (fun _ _ _ h => h) (Or.inl ⟨by rfl, ?_⟩) ?_ ?_
      rotate_left
      · intro w'
        go_simp
        with_reducible rfl
      rotate_left
      · simp only [Act.put, List.setIfInBounds_toArray, List.set_cons_zero, List.set_cons_succ, i64_w, i32_w]
        rfl
      refine pure_ (i := 7) (N := some 120) (v := ?_) (a' := ?_) (bs 14 1279) rfl rfl (by kernel_rfl) (fun _ _ _ h => h) (Or.inl ⟨by rfl, ?_⟩) ?_ ?_
      rotate_left
      · intro w'
        go_simp
        with_reducible rfl
      rotate_left
      · simp only [Act.put, List.setIfInBounds_toArray, List.set_cons_zero, List.set_cons_succ, i64_w, i32_w]
        rfl
      refine pure_ (i := 8) (N := some 121) (v := ?_) (a' := ?_) (bs 14 1535) rfl rfl (by kernel_rfl) (fun _ _ _ h => h) (Or.inl ⟨by rfl, ?_⟩) ?_ ?_
      rotate_left
      · intro w'
        go_simp
        with_reducible rfl
      rotate_left
      · simp only [Act.put, List.setIfInBounds_toArray, List.set_cons_zero, List.set_cons_succ, i64_w, i32_w]
        rfl
      refine pure_ (i := 9) (N := some 122) (v := ?_) (a' := ?_) (bs 14 2047) rfl rfl (by kernel_rfl) (fun _ _ _ h => h) (Or.inl ⟨by rfl, ?_⟩) ?_ ?_
      rotate_left
      · intro w'
        go_simp
        with_reducible rfl
      rotate_left
      · simp only [Act.put, List.setIfInBounds_toArray, List.set_cons_zero, List.set_cons_succ, i64_w, i32_w]
        rfl
      refine norm_ ?_ (hcont_ (.agg #[.slice A487 t362.length c488, .int .i64 t363], .agg #[.int .i64 t373, .int .i64 t374, .slice A501 t375.length c502, .int .i64 t376, .int .i64 t377, .int .i64 t378], A517, c518, gb472) _ ⟨HBr.out, w495, w511, by have := HZ6.out; have := HZ13.out; have := HZ18.out; have := HZ23.out; have := HZ26.out; have := HZ194.out; have := HZ195.out; have := HZ196.out; have := HZ206.out; have := HZ214.out; have := HZ224.out; have := HZ227.out; have := HZ239.out; have := HZ249.out; have := HZ252.out; have := HZ266.out; have := HZ276.out; have := HZ279.out; have := HZ284.out; have := HZ287.out; have := HZ295.out; have := HZ303.out; have := HZ306.out; have := HZ318.out; have := HZ326.out; have := HZ330.out; have := HZ338.out; have := HZ344.out; have := HZ351.out; have := HZ357.out; have := HZ360.out; have := HZ475.out; have := HZ484.out; have := HZ498.out; have := HZ514.out; have := GQ478.out; have := HBr.out.size; omega, by have := HZ6.out; have := HZ13.out; have := HZ18.out; have := HZ23.out; have := HZ26.out; have := HZ194.out; have := HZ195.out; have := HZ196.out; have := HZ206.out; have := HZ214.out; have := HZ224.out; have := HZ227.out; have := HZ239.out; have := HZ249.out; have := HZ252.out; have := HZ266.out; have := HZ276.out; have := HZ279.out; have := HZ284.out; have := HZ287.out; have := HZ295.out; have := HZ303.out; have := HZ306.out; have := HZ318.out; have := HZ326.out; have := HZ330.out; have := HZ338.out; have := HZ344.out; have := HZ351.out; have := HZ357.out; have := HZ360.out; have := HZ475.out; have := HZ484.out; have := HZ498.out; have := HZ514.out; have := GQ478.out; have := HBr.out.size; omega, by have := HZ6.out; have := HZ13.out; have := HZ18.out; have := HZ23.out; have := HZ26.out; have := HZ194.out; have := HZ195.out; have := HZ196.out; have := HZ206.out; have := HZ214.out; have := HZ224.out; have := HZ227.out; have := HZ239.out; have := HZ249.out; have := HZ252.out; have := HZ266.out; have := HZ276.out; have := HZ279.out; have := HZ284.out; have := HZ287.out; have := HZ295.out; have := HZ303.out; have := HZ306.out; have := HZ318.out; have := HZ326.out; have := HZ330.out; have := HZ338.out; have := HZ344.out; have := HZ351.out; have := HZ357.out; have := HZ360.out; have := HZ475.out; have := HZ484.out; have := HZ498.out; have := HZ514.out; have := GQ478.out; have := HBr.out.size; omega, F516.out, BK474.out, by have := HZ6.out; have := HZ13.out; have := HZ18.out; have := HZ23.out; have := HZ26.out; have := HZ194.out; have := HZ195.out; have := HZ196.out; have := HZ206.out; have := HZ214.out; have := HZ224.out; have := HZ227.out; have := HZ239.out; have := HZ249.out; have := HZ252.out; have := HZ266.out; have := HZ276.out; have := HZ279.out; have := HZ284.out; have := HZ287.out; have := HZ295.out; have := HZ303.out; have := HZ306.out; have := HZ318.out; have := HZ326.out; have := HZ330.out; have := HZ338.out; have := HZ344.out; have := HZ351.out; have := HZ357.out; have := HZ360.out; have := HZ475.out; have := HZ484.out; have := HZ498.out; have := HZ514.out; have := GQ478.out; have := HBr.out.size; omega, by have := HZ6.out; have := HZ13.out; have := HZ18.out; have := HZ23.out; have := HZ26.out; have := HZ194.out; have := HZ195.out; have := HZ196.out; have := HZ206.out; have := HZ214.out; have := HZ224.out; have := HZ227.out; have := HZ239.out; have := HZ249.out; have := HZ252.out; have := HZ266.out; have := HZ276.out; have := HZ279.out; have := HZ284.out; have := HZ287.out; have := HZ295.out; have := HZ303.out; have := HZ306.out; have := HZ318.out; have := HZ326.out; have := HZ330.out; have := HZ338.out; have := HZ344.out; have := HZ351.out; have := HZ357.out; have := HZ360.out; have := HZ475.out; have := HZ484.out; have := HZ498.out; have := HZ514.out; have := GQ478.out; have := HBr.out.size; omega, by have := HZ6.out; have := HZ13.out; have := HZ18.out; have := HZ23.out; have := HZ26.out; have := HZ194.out; have := HZ195.out; have := HZ196.out; have := HZ206.out; have := HZ214.out; have := HZ224.out; have := HZ227.out; have := HZ239.out; have := HZ249.out; have := HZ252.out; have := HZ266.out; have := HZ276.out; have := HZ279.out; have := HZ284.out; have := HZ287.out; have := HZ295.out; have := HZ303.out; have := HZ306.out; have := HZ318.out; have := HZ326.out; have := HZ330.out; have := HZ338.out; have := HZ344.out; have := HZ351.out; have := HZ357.out; have := HZ360.out; have := HZ475.out; have := HZ484.out; have := HZ498.out; have := HZ514.out; have := GQ478.out; have := HBr.out.size; omega⟩)
      simp only [putAll, Act.put, List.setIfInBounds_toArray, List.set_cons_zero, List.set_cons_succ]
  rintro ⟨v525, v526, A523, c524, gb522⟩ w521 ⟨hb, w519, w520, z1_, z2_, z3_, f527, hx_, q1_, q2_, q3_⟩
  clear HBr
  refine norm_ (a' := ?_) ?_ ?_
  rotate_left
  · simp only [putAll, Act.put, List.setIfInBounds_toArray, List.set_cons_zero, List.set_cons_succ]
    rfl
  have hq_ : Below w359.heap.size w359 w521 := ⟨hb.os, hb.tape, hb.output, hb.size, hb.block⟩
  have HZ531 := Aside0.mk (show w359.heap.size ≤ w521.heap.size from hq_.size)
  replace HB := Aside0.mk (below_then HB.out HB.out.size hq_)
  have HA532 := Aside0.mk (show w.heap.size ≤ w521.heap.size from HB.out.size)
  replace F201 := Aside0.mk (Kd.R_below F201.out hq_)
  replace F216 := Aside0.mk (Kd.S_below F216.out hq_)
  replace F241 := Aside0.mk (Kd.R_below F241.out hq_)
  replace F268 := Aside0.mk (Kd.R_below F268.out hq_)
  replace F297 := Aside0.mk (Kd.S_below F297.out hq_)
  replace F320 := Aside0.mk (Kd.R_below F320.out hq_)
  have hn_ := Aside0.mk (blk_below BK3.out hq_)
  clear hczb1_0 hfzb1_0; clear hczb1_1 hfzb1_1
  clear BK3
  have BK3 := hn_
  clear hn_
  have hn_ := Aside0.mk (blk_below BK10.out hq_)
  clear hczb8_0 hfzb8_0; clear hczb8_1 hfzb8_1; clear hczb8_2 hfzb8_2; clear hczb8_3 hfzb8_3; clear hczb8_4 hfzb8_4; clear hczb8_5 hfzb8_5
  clear BK10
  have BK10 := hn_
  clear hn_
  have hn_ := Aside0.mk (blk_below BK203.out hq_)
  clear hczb202_0 hfzb202_0; clear hczb202_1 hfzb202_1; clear hczb202_2 hfzb202_2; clear hczb202_3 hfzb202_3; clear hczb202_4 hfzb202_4; clear hczb202_5 hfzb202_5
  clear BK203
  have BK203 := hn_
  clear hn_
  have hn_ := Aside0.mk (blk_below BK221.out hq_)
  clear hczb219_0 hfzb219_0; clear hczb219_1 hfzb219_1
  clear BK221
  have BK221 := hn_
  clear hn_
  have hn_ := Aside0.mk (blk_below BK246.out hq_)
  clear hczb244_0 hfzb244_0; clear hczb244_1 hfzb244_1; clear hczb244_2 hfzb244_2; clear hczb244_3 hfzb244_3; clear hczb244_4 hfzb244_4; clear hczb244_5 hfzb244_5
  clear BK246
  have BK246 := hn_
  clear hn_
  have hn_ := Aside0.mk (blk_below BK273.out hq_)
  clear hczb271_0 hfzb271_0; clear hczb271_1 hfzb271_1; clear hczb271_2 hfzb271_2; clear hczb271_3 hfzb271_3; clear hczb271_4 hfzb271_4; clear hczb271_5 hfzb271_5
  clear BK273
  have BK273 := hn_
  clear hn_
  clear hq_
  obtain ⟨hczb1_0, hfzb1_0, hczb1_1, hfzb1_1⟩ := bk2 BK3.out
  obtain ⟨hczb8_0, hfzb8_0, hczb8_1, hfzb8_1, hczb8_2, hfzb8_2, hczb8_3, hfzb8_3, hczb8_4, hfzb8_4, hczb8_5, hfzb8_5⟩ := bk6 BK10.out
  obtain ⟨hczb202_0, hfzb202_0, hczb202_1, hfzb202_1, hczb202_2, hfzb202_2, hczb202_3, hfzb202_3, hczb202_4, hfzb202_4, hczb202_5, hfzb202_5⟩ := bk6 BK203.out
  obtain ⟨hczb219_0, hfzb219_0, hczb219_1, hfzb219_1⟩ := bk2 BK221.out
  obtain ⟨hczb244_0, hfzb244_0, hczb244_1, hfzb244_1, hczb244_2, hfzb244_2, hczb244_3, hfzb244_3, hczb244_4, hfzb244_4, hczb244_5, hfzb244_5⟩ := bk6 BK246.out
  obtain ⟨hczb271_0, hfzb271_0, hczb271_1, hfzb271_1, hczb271_2, hfzb271_2, hczb271_3, hfzb271_3, hczb271_4, hfzb271_4, hczb271_5, hfzb271_5⟩ := bk6 BK273.out
  have HZ528 := Aside0.mk z1_
  have HA533 := Aside0.mk (show w.heap.size ≤ w519.heap.size by have := HA361.out; have := HZ528.out; omega)
  have HZ529 := Aside0.mk z2_
  have HA534 := Aside0.mk (show w.heap.size ≤ w520.heap.size by have := HA533.out; have := HZ529.out; omega)
  have HZ530 := Aside0.mk z3_
  have F535 := Aside0.mk f527
  have BK537 := Aside0.mk hx_
  have GQ538 := Aside0.mk (show w359.heap.size ≤ gb522 ∧ gb522 < w521.heap.size ∧ (gb522 < w519.heap.size ∨ w520.heap.size ≤ gb522) from ⟨q1_, q2_, q3_⟩)
  clear hb z1_ z2_ z3_ hx_ q1_ q2_ q3_ f527
  obtain ⟨hczb536_0, hfzb536_0, hczb536_1, hfzb536_1, hczb536_2, hfzb536_2, hczb536_3, hfzb536_3, hczb536_4, hfzb536_4, hczb536_5, hfzb536_5⟩ := bk6 BK537.out
  have hHeld : w521.cell? ⟨gb2, 0, none⟩ = some (.slice A0_0 l0_0.length c0_0) ∧ w521.cell? ⟨gb2, 1, none⟩ = some (.int .i64 a0_1) ∧ w521.cell? ⟨gb9, 0, none⟩ = some (.int .i64 a1_0) ∧ w521.cell? ⟨gb9, 1, none⟩ = some (.int .i64 a1_1) ∧ w521.cell? ⟨gb9, 2, none⟩ = some (.slice A1_2 l1_2.length c1_2) ∧ w521.cell? ⟨gb9, 3, none⟩ = some (.int .i64 a1_3) ∧ w521.cell? ⟨gb9, 4, none⟩ = some (.int .i64 a1_4) ∧ w521.cell? ⟨gb9, 5, none⟩ = some (.int .i64 a1_5) := ⟨bZ BK3.out 0, bZ BK3.out 1, bZ BK10.out 0, bZ BK10.out 1, bZ BK10.out 2, bZ BK10.out 3, bZ BK10.out 4, bZ BK10.out 5⟩
  refine one_ (i := 11) (N := none) (bs 14 4095) rfl rfl (by kernel_rfl) (by decide) (fun K hK => ?_)
  refine Lk.store_step (w1 := ((((((w521.setCell ⟨gb522, 0, none⟩ (.int .i64 t388)).setCell ⟨gb522, 1, none⟩ (.int .i64 t389)).setCell ⟨gb522, 2, none⟩ (.slice A523 t390.length c524)).setCell ⟨gb522, 3, none⟩ (.int .i64 t391)).setCell ⟨gb522, 4, none⟩ (.int .i64 t392)).setCell ⟨gb522, 5, none⟩ (.int .i64 t393))) (by rfl) rfl (by first | (go_simp; done) | (go_simp; rfl)) ?_
  intro w539 hw_
  have hx_ : w539.heap[gb522]? = some (.cells #[(.int .i64 t388), (.int .i64 t389), (.slice A523 t390.length c524), (.int .i64 t391), (.int .i64 t392), (.int .i64 t393)] 44 (0, 0)) := (by rw [hw_]; exact Lk.filled (us := [(.int .i64 t388), (.int .i64 t389), (.slice A523 t390.length c524), (.int .i64 t391), (.int .i64 t392), (.int .i64 t393)]) BK537.out rfl)
  have hk2_ : Kept w521 w539 (fun k_ => k_ = gb522) := (by rw [hw_]; exact Lk.fill_kept [(.int .i64 t388), (.int .i64 t389), (.slice A523 t390.length c524), (.int .i64 t391), (.int .i64 t392), (.int .i64 t393)] 0 w521)
  replace HB := Aside0.mk (show Below w.heap.size w w539 by rw [hw_]; exact Lk.fill_below [(.int .i64 t388), (.int .i64 t389), (.slice A523 t390.length c524), (.int .i64 t391), (.int .i64 t392), (.int .i64 t393)] 0 w w521 HB.out (by skip; have := HA361.out; have := GQ538.out; omega))
  have HZ540 := Aside0.mk (show w521.heap.size ≤ w539.heap.size from hk2_.1)
  have HA541 := Aside0.mk (show w.heap.size ≤ w539.heap.size from HB.out.size)
  have hn_ := Aside0.mk (Kd.R_kept F201.out hk2_ (fun k_ h1_ h2_ => by skip; have := HZ196.out; have := HZ206.out; have := HZ214.out; have := HZ224.out; have := HZ227.out; have := HZ239.out; have := HZ249.out; have := HZ252.out; have := HZ266.out; have := HZ276.out; have := HZ279.out; have := HZ284.out; have := HZ287.out; have := HZ295.out; have := HZ303.out; have := HZ306.out; have := HZ318.out; have := HZ326.out; have := HZ330.out; have := HZ338.out; have := HZ344.out; have := HZ351.out; have := HZ357.out; have := HZ360.out; have := GQ538.out; have h3_ := h1_.1; omega))
  clear F201
  have F201 := hn_
  clear hn_
  have hn_ := Aside0.mk (Kd.S_kept F216.out hk2_ (fun k_ h1_ h2_ => by skip; have := HZ224.out; have := HZ227.out; have := HZ239.out; have := HZ249.out; have := HZ252.out; have := HZ266.out; have := HZ276.out; have := HZ279.out; have := HZ284.out; have := HZ287.out; have := HZ295.out; have := HZ303.out; have := HZ306.out; have := HZ318.out; have := HZ326.out; have := HZ330.out; have := HZ338.out; have := HZ344.out; have := HZ351.out; have := HZ357.out; have := HZ360.out; have := GQ538.out; have h3_ := h1_.1; omega))
  clear F216
  have F216 := hn_
  clear hn_
  have hn_ := Aside0.mk (Kd.R_kept F241.out hk2_ (fun k_ h1_ h2_ => by skip; have := HZ249.out; have := HZ252.out; have := HZ266.out; have := HZ276.out; have := HZ279.out; have := HZ284.out; have := HZ287.out; have := HZ295.out; have := HZ303.out; have := HZ306.out; have := HZ318.out; have := HZ326.out; have := HZ330.out; have := HZ338.out; have := HZ344.out; have := HZ351.out; have := HZ357.out; have := HZ360.out; have := GQ538.out; have h3_ := h1_.1; omega))
  clear F241
  have F241 := hn_
  clear hn_
  have hn_ := Aside0.mk (Kd.R_kept F268.out hk2_ (fun k_ h1_ h2_ => by skip; have := HZ276.out; have := HZ279.out; have := HZ284.out; have := HZ287.out; have := HZ295.out; have := HZ303.out; have := HZ306.out; have := HZ318.out; have := HZ326.out; have := HZ330.out; have := HZ338.out; have := HZ344.out; have := HZ351.out; have := HZ357.out; have := HZ360.out; have := GQ538.out; have h3_ := h1_.1; omega))
  clear F268
  have F268 := hn_
  clear hn_
  have hn_ := Aside0.mk (Kd.S_kept F297.out hk2_ (fun k_ h1_ h2_ => by skip; have := HZ303.out; have := HZ306.out; have := HZ318.out; have := HZ326.out; have := HZ330.out; have := HZ338.out; have := HZ344.out; have := HZ351.out; have := HZ357.out; have := HZ360.out; have := GQ538.out; have h3_ := h1_.1; omega))
  clear F297
  have F297 := hn_
  clear hn_
  have hn_ := Aside0.mk (Kd.R_kept F320.out hk2_ (fun k_ h1_ h2_ => by skip; have := HZ326.out; have := HZ330.out; have := HZ338.out; have := HZ344.out; have := HZ351.out; have := HZ357.out; have := HZ360.out; have := GQ538.out; have h3_ := h1_.1; omega))
  clear F320
  have F320 := hn_
  clear hn_
  have hn_ := Aside0.mk (Kd.R_kept F535.out hk2_ (fun k_ h1_ h2_ => by skip; have := HZ6.out; have := HZ13.out; have := HZ18.out; have := HZ23.out; have := HZ26.out; have := HZ194.out; have := HZ195.out; have := HZ196.out; have := HZ206.out; have := HZ214.out; have := HZ224.out; have := HZ227.out; have := HZ239.out; have := HZ249.out; have := HZ252.out; have := HZ266.out; have := HZ276.out; have := HZ279.out; have := HZ284.out; have := HZ287.out; have := HZ295.out; have := HZ303.out; have := HZ306.out; have := HZ318.out; have := HZ326.out; have := HZ330.out; have := HZ338.out; have := HZ344.out; have := HZ351.out; have := HZ357.out; have := HZ360.out; have := HZ528.out; have := HZ529.out; have := HZ530.out; have := HZ540.out; have := GQ538.out; have h3_ := h1_.1; omega))
  clear F535
  have F535 := hn_
  clear hn_
  clear hczb1_0 hfzb1_0; clear hczb1_1 hfzb1_1
  have hn_ := Aside0.mk (blk_kept BK3.out hk2_ (fun h_ => by skip; have := HZ13.out; have := HZ18.out; have := HZ23.out; have := HZ26.out; have := HZ194.out; have := HZ195.out; have := HZ196.out; have := HZ206.out; have := HZ214.out; have := HZ224.out; have := HZ227.out; have := HZ239.out; have := HZ249.out; have := HZ252.out; have := HZ266.out; have := HZ276.out; have := HZ279.out; have := HZ284.out; have := HZ287.out; have := HZ295.out; have := HZ303.out; have := HZ306.out; have := HZ318.out; have := HZ326.out; have := HZ330.out; have := HZ338.out; have := HZ344.out; have := HZ351.out; have := HZ357.out; have := HZ360.out; have := GQ538.out; have := GQ4.out; omega))
  clear BK3
  have BK3 := hn_
  clear hn_
  clear hczb8_0 hfzb8_0; clear hczb8_1 hfzb8_1; clear hczb8_2 hfzb8_2; clear hczb8_3 hfzb8_3; clear hczb8_4 hfzb8_4; clear hczb8_5 hfzb8_5
  have hn_ := Aside0.mk (blk_kept BK10.out hk2_ (fun h_ => by skip; have := HZ18.out; have := HZ23.out; have := HZ26.out; have := HZ194.out; have := HZ195.out; have := HZ196.out; have := HZ206.out; have := HZ214.out; have := HZ224.out; have := HZ227.out; have := HZ239.out; have := HZ249.out; have := HZ252.out; have := HZ266.out; have := HZ276.out; have := HZ279.out; have := HZ284.out; have := HZ287.out; have := HZ295.out; have := HZ303.out; have := HZ306.out; have := HZ318.out; have := HZ326.out; have := HZ330.out; have := HZ338.out; have := HZ344.out; have := HZ351.out; have := HZ357.out; have := HZ360.out; have := GQ538.out; have := GQ11.out; omega))
  clear BK10
  have BK10 := hn_
  clear hn_
  clear hczb202_0 hfzb202_0; clear hczb202_1 hfzb202_1; clear hczb202_2 hfzb202_2; clear hczb202_3 hfzb202_3; clear hczb202_4 hfzb202_4; clear hczb202_5 hfzb202_5
  have hn_ := Aside0.mk (blk_kept BK203.out hk2_ (fun h_ => by skip; have := HZ206.out; have := HZ214.out; have := HZ224.out; have := HZ227.out; have := HZ239.out; have := HZ249.out; have := HZ252.out; have := HZ266.out; have := HZ276.out; have := HZ279.out; have := HZ284.out; have := HZ287.out; have := HZ295.out; have := HZ303.out; have := HZ306.out; have := HZ318.out; have := HZ326.out; have := HZ330.out; have := HZ338.out; have := HZ344.out; have := HZ351.out; have := HZ357.out; have := HZ360.out; have := GQ538.out; have := GQ204.out; omega))
  clear BK203
  have BK203 := hn_
  clear hn_
  clear hczb219_0 hfzb219_0; clear hczb219_1 hfzb219_1
  have hn_ := Aside0.mk (blk_kept BK221.out hk2_ (fun h_ => by skip; have := HZ227.out; have := HZ239.out; have := HZ249.out; have := HZ252.out; have := HZ266.out; have := HZ276.out; have := HZ279.out; have := HZ284.out; have := HZ287.out; have := HZ295.out; have := HZ303.out; have := HZ306.out; have := HZ318.out; have := HZ326.out; have := HZ330.out; have := HZ338.out; have := HZ344.out; have := HZ351.out; have := HZ357.out; have := HZ360.out; have := GQ538.out; have := GQ222.out; omega))
  clear BK221
  have BK221 := hn_
  clear hn_
  clear hczb244_0 hfzb244_0; clear hczb244_1 hfzb244_1; clear hczb244_2 hfzb244_2; clear hczb244_3 hfzb244_3; clear hczb244_4 hfzb244_4; clear hczb244_5 hfzb244_5
  have hn_ := Aside0.mk (blk_kept BK246.out hk2_ (fun h_ => by skip; have := HZ252.out; have := HZ266.out; have := HZ276.out; have := HZ279.out; have := HZ284.out; have := HZ287.out; have := HZ295.out; have := HZ303.out; have := HZ306.out; have := HZ318.out; have := HZ326.out; have := HZ330.out; have := HZ338.out; have := HZ344.out; have := HZ351.out; have := HZ357.out; have := HZ360.out; have := GQ538.out; have := GQ247.out; omega))
  clear BK246
  have BK246 := hn_
  clear hn_
  clear hczb271_0 hfzb271_0; clear hczb271_1 hfzb271_1; clear hczb271_2 hfzb271_2; clear hczb271_3 hfzb271_3; clear hczb271_4 hfzb271_4; clear hczb271_5 hfzb271_5
  have hn_ := Aside0.mk (blk_kept BK273.out hk2_ (fun h_ => by skip; have := HZ279.out; have := HZ284.out; have := HZ287.out; have := HZ295.out; have := HZ303.out; have := HZ306.out; have := HZ318.out; have := HZ326.out; have := HZ330.out; have := HZ338.out; have := HZ344.out; have := HZ351.out; have := HZ357.out; have := HZ360.out; have := GQ538.out; have := GQ274.out; omega))
  clear BK273
  have BK273 := hn_
  clear hn_
  clear hczb536_0 hfzb536_0; clear hczb536_1 hfzb536_1; clear hczb536_2 hfzb536_2; clear hczb536_3 hfzb536_3; clear hczb536_4 hfzb536_4; clear hczb536_5 hfzb536_5
  clear BK537
  have BK537 := Aside0.mk hx_
  clear hk2_ hx_ hw_
  obtain ⟨hczb1_0, hfzb1_0, hczb1_1, hfzb1_1⟩ := bk2 BK3.out
  obtain ⟨hczb8_0, hfzb8_0, hczb8_1, hfzb8_1, hczb8_2, hfzb8_2, hczb8_3, hfzb8_3, hczb8_4, hfzb8_4, hczb8_5, hfzb8_5⟩ := bk6 BK10.out
  obtain ⟨hczb202_0, hfzb202_0, hczb202_1, hfzb202_1, hczb202_2, hfzb202_2, hczb202_3, hfzb202_3, hczb202_4, hfzb202_4, hczb202_5, hfzb202_5⟩ := bk6 BK203.out
  obtain ⟨hczb219_0, hfzb219_0, hczb219_1, hfzb219_1⟩ := bk2 BK221.out
  obtain ⟨hczb244_0, hfzb244_0, hczb244_1, hfzb244_1, hczb244_2, hfzb244_2, hczb244_3, hfzb244_3, hczb244_4, hfzb244_4, hczb244_5, hfzb244_5⟩ := bk6 BK246.out
  obtain ⟨hczb271_0, hfzb271_0, hczb271_1, hfzb271_1, hczb271_2, hfzb271_2, hczb271_3, hfzb271_3, hczb271_4, hfzb271_4, hczb271_5, hfzb271_5⟩ := bk6 BK273.out
  obtain ⟨hczb536_0, hfzb536_0, hczb536_1, hfzb536_1, hczb536_2, hfzb536_2, hczb536_3, hfzb536_3, hczb536_4, hfzb536_4, hczb536_5, hfzb536_5⟩ := bk6 BK537.out
  refine hK.out _ _ ⟨bZ BK3.out 0, bZ BK3.out 1, bZ BK10.out 0, bZ BK10.out 1, bZ BK10.out 2, bZ BK10.out 3, bZ BK10.out 4, bZ BK10.out 5⟩ (fun hHeld => ?_)
  clear hK K
  refine pure_ (i := 12) (N := some 20) (v := ?_) (a' := ?_) (bs 14 8191) rfl rfl (by kernel_rfl) (fun _ _ _ h => h) (Or.inl ⟨by rfl, ?_⟩) ?_ ?_
  rotate_left
  · intro w'
    go_simp
    with_reducible rfl
  rotate_left
  · simp only [Act.put, List.setIfInBounds_toArray, List.set_cons_zero, List.set_cons_succ, i64_w, i32_w]
    rfl
  refine pure_ (i := 13) (N := some 21) (v := ?_) (a' := ?_) (bs 14 16383) rfl rfl (by kernel_rfl) (fun _ _ _ h => h) (Or.inl ⟨by rfl, ?_⟩) ?_ ?_
  rotate_left
  · intro w'
    go_simp
    with_reducible rfl
  rotate_left
  · simp only [Act.put, List.setIfInBounds_toArray, List.set_cons_zero, List.set_cons_succ, i64_w, i32_w]
    rfl
  refine done_ (by kernel_rfl) ?_
  go_wp2_with fail
  refine (laws_eqCache.calls k t388 t389 _ _ t390 t391 t392 t393 t54 t55 _ _ t56 t57 t58 t59 true _ (Lk.Rr F535.out).2 (Lk.Rr F535.out).1 (Lk.Rr F201.out).2 (Lk.Rr F201.out).1 H543.out).mono ?_
  rintro e_ w544 ⟨rfl, hb⟩
  have hq_ : Below w539.heap.size w539 w544 := ⟨hb.os, hb.tape, hb.output, hb.size, hb.block⟩
  have HZ545 := Aside0.mk (show w539.heap.size ≤ w544.heap.size from hq_.size)
  replace HB := Aside0.mk (below_then HB.out HB.out.size hq_)
  have HA546 := Aside0.mk (show w.heap.size ≤ w544.heap.size from HB.out.size)
  replace F201 := Aside0.mk (Kd.R_below F201.out hq_)
  replace F216 := Aside0.mk (Kd.S_below F216.out hq_)
  replace F241 := Aside0.mk (Kd.R_below F241.out hq_)
  replace F268 := Aside0.mk (Kd.R_below F268.out hq_)
  replace F297 := Aside0.mk (Kd.S_below F297.out hq_)
  replace F320 := Aside0.mk (Kd.R_below F320.out hq_)
  replace F535 := Aside0.mk (Kd.R_below F535.out hq_)
  have hn_ := Aside0.mk (blk_below BK3.out hq_)
  clear hczb1_0 hfzb1_0; clear hczb1_1 hfzb1_1
  clear BK3
  have BK3 := hn_
  clear hn_
  have hn_ := Aside0.mk (blk_below BK10.out hq_)
  clear hczb8_0 hfzb8_0; clear hczb8_1 hfzb8_1; clear hczb8_2 hfzb8_2; clear hczb8_3 hfzb8_3; clear hczb8_4 hfzb8_4; clear hczb8_5 hfzb8_5
  clear BK10
  have BK10 := hn_
  clear hn_
  have hn_ := Aside0.mk (blk_below BK203.out hq_)
  clear hczb202_0 hfzb202_0; clear hczb202_1 hfzb202_1; clear hczb202_2 hfzb202_2; clear hczb202_3 hfzb202_3; clear hczb202_4 hfzb202_4; clear hczb202_5 hfzb202_5
  clear BK203
  have BK203 := hn_
  clear hn_
  have hn_ := Aside0.mk (blk_below BK221.out hq_)
  clear hczb219_0 hfzb219_0; clear hczb219_1 hfzb219_1
  clear BK221
  have BK221 := hn_
  clear hn_
  have hn_ := Aside0.mk (blk_below BK246.out hq_)
  clear hczb244_0 hfzb244_0; clear hczb244_1 hfzb244_1; clear hczb244_2 hfzb244_2; clear hczb244_3 hfzb244_3; clear hczb244_4 hfzb244_4; clear hczb244_5 hfzb244_5
  clear BK246
  have BK246 := hn_
  clear hn_
  have hn_ := Aside0.mk (blk_below BK273.out hq_)
  clear hczb271_0 hfzb271_0; clear hczb271_1 hfzb271_1; clear hczb271_2 hfzb271_2; clear hczb271_3 hfzb271_3; clear hczb271_4 hfzb271_4; clear hczb271_5 hfzb271_5
  clear BK273
  have BK273 := hn_
  clear hn_
  have hn_ := Aside0.mk (blk_below BK537.out hq_)
  clear hczb536_0 hfzb536_0; clear hczb536_1 hfzb536_1; clear hczb536_2 hfzb536_2; clear hczb536_3 hfzb536_3; clear hczb536_4 hfzb536_4; clear hczb536_5 hfzb536_5
  clear BK537
  have BK537 := hn_
  clear hn_
  clear hq_
  obtain ⟨hczb1_0, hfzb1_0, hczb1_1, hfzb1_1⟩ := bk2 BK3.out
  obtain ⟨hczb8_0, hfzb8_0, hczb8_1, hfzb8_1, hczb8_2, hfzb8_2, hczb8_3, hfzb8_3, hczb8_4, hfzb8_4, hczb8_5, hfzb8_5⟩ := bk6 BK10.out
  obtain ⟨hczb202_0, hfzb202_0, hczb202_1, hfzb202_1, hczb202_2, hfzb202_2, hczb202_3, hfzb202_3, hczb202_4, hfzb202_4, hczb202_5, hfzb202_5⟩ := bk6 BK203.out
  obtain ⟨hczb219_0, hfzb219_0, hczb219_1, hfzb219_1⟩ := bk2 BK221.out
  obtain ⟨hczb244_0, hfzb244_0, hczb244_1, hfzb244_1, hczb244_2, hfzb244_2, hczb244_3, hfzb244_3, hczb244_4, hfzb244_4, hczb244_5, hfzb244_5⟩ := bk6 BK246.out
  obtain ⟨hczb271_0, hfzb271_0, hczb271_1, hfzb271_1, hczb271_2, hfzb271_2, hczb271_3, hfzb271_3, hczb271_4, hfzb271_4, hczb271_5, hfzb271_5⟩ := bk6 BK273.out
  obtain ⟨hczb536_0, hfzb536_0, hczb536_1, hfzb536_1, hczb536_2, hfzb536_2, hczb536_3, hfzb536_3, hczb536_4, hfzb536_4, hczb536_5, hfzb536_5⟩ := bk6 BK537.out
  clear hb
  go_wp2_with fail
  have hc_ := laws_heldCache.calls k t254 t255 _ _ t348 t257 t258 t259 1 t347 _ (Lk.Rr F268.out).2 (Lk.Rr F268.out).1 H548.out
  simp only [← HL352.out] at hc_
  refine hc_.mono ?_
  clear hc_
  rintro e_ w549 ⟨rfl, hb⟩
  have hq_ : Below w544.heap.size w544 w549 := ⟨hb.os, hb.tape, hb.output, hb.size, hb.block⟩
  have HZ550 := Aside0.mk (show w544.heap.size ≤ w549.heap.size from hq_.size)
  replace HB := Aside0.mk (below_then HB.out HB.out.size hq_)
  have HA551 := Aside0.mk (show w.heap.size ≤ w549.heap.size from HB.out.size)
  replace F201 := Aside0.mk (Kd.R_below F201.out hq_)
  replace F216 := Aside0.mk (Kd.S_below F216.out hq_)
  replace F241 := Aside0.mk (Kd.R_below F241.out hq_)
  replace F268 := Aside0.mk (Kd.R_below F268.out hq_)
  replace F297 := Aside0.mk (Kd.S_below F297.out hq_)
  replace F320 := Aside0.mk (Kd.R_below F320.out hq_)
  replace F535 := Aside0.mk (Kd.R_below F535.out hq_)
  have hn_ := Aside0.mk (blk_below BK3.out hq_)
  clear hczb1_0 hfzb1_0; clear hczb1_1 hfzb1_1
  clear BK3
  have BK3 := hn_
  clear hn_
  have hn_ := Aside0.mk (blk_below BK10.out hq_)
  clear hczb8_0 hfzb8_0; clear hczb8_1 hfzb8_1; clear hczb8_2 hfzb8_2; clear hczb8_3 hfzb8_3; clear hczb8_4 hfzb8_4; clear hczb8_5 hfzb8_5
  clear BK10
  have BK10 := hn_
  clear hn_
  have hn_ := Aside0.mk (blk_below BK203.out hq_)
  clear hczb202_0 hfzb202_0; clear hczb202_1 hfzb202_1; clear hczb202_2 hfzb202_2; clear hczb202_3 hfzb202_3; clear hczb202_4 hfzb202_4; clear hczb202_5 hfzb202_5
  clear BK203
  have BK203 := hn_
  clear hn_
  have hn_ := Aside0.mk (blk_below BK221.out hq_)
  clear hczb219_0 hfzb219_0; clear hczb219_1 hfzb219_1
  clear BK221
  have BK221 := hn_
  clear hn_
  have hn_ := Aside0.mk (blk_below BK246.out hq_)
  clear hczb244_0 hfzb244_0; clear hczb244_1 hfzb244_1; clear hczb244_2 hfzb244_2; clear hczb244_3 hfzb244_3; clear hczb244_4 hfzb244_4; clear hczb244_5 hfzb244_5
  clear BK246
  have BK246 := hn_
  clear hn_
  have hn_ := Aside0.mk (blk_below BK273.out hq_)
  clear hczb271_0 hfzb271_0; clear hczb271_1 hfzb271_1; clear hczb271_2 hfzb271_2; clear hczb271_3 hfzb271_3; clear hczb271_4 hfzb271_4; clear hczb271_5 hfzb271_5
  clear BK273
  have BK273 := hn_
  clear hn_
  have hn_ := Aside0.mk (blk_below BK537.out hq_)
  clear hczb536_0 hfzb536_0; clear hczb536_1 hfzb536_1; clear hczb536_2 hfzb536_2; clear hczb536_3 hfzb536_3; clear hczb536_4 hfzb536_4; clear hczb536_5 hfzb536_5
  clear BK537
  have BK537 := hn_
  clear hn_
  clear hq_
  obtain ⟨hczb1_0, hfzb1_0, hczb1_1, hfzb1_1⟩ := bk2 BK3.out
  obtain ⟨hczb8_0, hfzb8_0, hczb8_1, hfzb8_1, hczb8_2, hfzb8_2, hczb8_3, hfzb8_3, hczb8_4, hfzb8_4, hczb8_5, hfzb8_5⟩ := bk6 BK10.out
  obtain ⟨hczb202_0, hfzb202_0, hczb202_1, hfzb202_1, hczb202_2, hfzb202_2, hczb202_3, hfzb202_3, hczb202_4, hfzb202_4, hczb202_5, hfzb202_5⟩ := bk6 BK203.out
  obtain ⟨hczb219_0, hfzb219_0, hczb219_1, hfzb219_1⟩ := bk2 BK221.out
  obtain ⟨hczb244_0, hfzb244_0, hczb244_1, hfzb244_1, hczb244_2, hfzb244_2, hczb244_3, hfzb244_3, hczb244_4, hfzb244_4, hczb244_5, hfzb244_5⟩ := bk6 BK246.out
  obtain ⟨hczb271_0, hfzb271_0, hczb271_1, hfzb271_1, hczb271_2, hfzb271_2, hczb271_3, hfzb271_3, hczb271_4, hfzb271_4, hczb271_5, hfzb271_5⟩ := bk6 BK273.out
  obtain ⟨hczb536_0, hfzb536_0, hczb536_1, hfzb536_1, hczb536_2, hfzb536_2, hczb536_3, hfzb536_3, hczb536_4, hfzb536_4, hczb536_5, hfzb536_5⟩ := bk6 BK537.out
  clear hb
  go_wp2_with fail
  go_ret
  exact ⟨rfl, HB.out⟩
end Go.Proofs.Ytjmgleomljfieaa.Q
