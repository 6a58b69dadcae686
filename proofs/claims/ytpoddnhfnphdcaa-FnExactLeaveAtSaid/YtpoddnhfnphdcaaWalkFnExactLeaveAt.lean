/- The law FnExactLeaveAt of this seat: the walk along its one way. Conditions: none. -/
import Derived.Test.YtpoddnhfnphdcaaQx0
import Derived.Test.YtpoddnhfnphdcaaQx1
import Derived.Test.YtpoddnhfnphdcaaQx3
import Derived.Test.YtpoddnhfnphdcaaQx5
import Derived.Test.YtpoddnhfnphdcaaQx7
import Derived.Test.YtpoddnhfnphdcaaQx8
import Derived.Test.YtpoddnhfnphdcaaGoodFnExactLeaveAt
import Derived.Test.YtpoddnhfnphdcaaLk
namespace Go.Proofs.Ytpoddnhfnphdcaa.Q
open Go.RowKit Go.Proofs.YtpoddnhfnphdcaaW.PrintWords Go.Proofs.YtpoddnhfnphdcaaW.PrintLast Go.Proofs.YtpoddnhfnphdcaaW.PrintMore
set_option linter.unusedVariables false
set_option linter.unusedSimpArgs false
open Lk in
set_option maxHeartbeats 8000000 in
set_option maxRecDepth 100000 in
theorem laws_FnExactLeaveAt.calls (k : Nat) (A0_0 : Option Addr) (c0_0 : Nat) (l0_0 : List (S93)) (A0_1 : Option Addr) (c0_1 : Nat) (l0_1 : List Int) (A0_2 : Option Addr) (c0_2 : Nat) (l0_2 : List (List (S100))) (a1 : Int) (A2 : Option Addr) (c2 : Nat) (l2 : List Int) (A3 : Option Addr) (c3 : Nat) (l3 : List Int) (r : Bool) (w : World) (hr0_0 : Kd.C k93 w A0_0 l0_0.length l0_0) (hc0_0 : l0_0.length ≤ c0_0) (hr0_1 : Kd.C (Kd.int .i64) w A0_1 l0_1.length l0_1) (hc0_1 : l0_1.length ≤ c0_1) (hr0_2 : Kd.C (Kd.slice 100 k100) w A0_2 l0_2.length l0_2) (hc0_2 : l0_2.length ≤ c0_2) (hr2 : Kd.C (Kd.int .i64) w A2 l2.length l2) (hc2 : l2.length ≤ c2) (hr3 : Kd.C (Kd.int .i64) w A3 l3.length l3) (hc3 : l3.length ≤ c3) (h : laws_FnExactLeaveAt.f k l0_0 l0_1 l0_2 a1 l2 l3 = some r) :
    Calls Try.prog 7 #[.agg #[.slice A0_0 l0_0.length c0_0, .slice A0_1 l0_1.length c0_1, .slice A0_2 l0_2.length c0_2], .int .i64 a1, .slice A2 l2.length c2, .slice A3 l3.length c3] w fun e w' => e = .returned (.bool r) ∧ Below w.heap.size w w' := by
  unfold laws_FnExactLeaveAt.f at h
  split at h
  case isFalse => cases h
  rename_i hg
  obtain rfl := Option.some.inj h
  clear h
  have HR0_0 := Aside0.mk hr0_0
  have HC0_0 := Aside0.mk hc0_0
  clear hr0_0 hc0_0
  have HR0_1 := Aside0.mk hr0_1
  have HC0_1 := Aside0.mk hc0_1
  clear hr0_1 hc0_1
  have HR0_2 := Aside0.mk hr0_2
  have HC0_2 := Aside0.mk hc0_2
  clear hr0_2 hc0_2
  have HR2 := Aside0.mk hr2
  have HC2 := Aside0.mk hc2
  clear hr2 hc2
  have HR3 := Aside0.mk hr3
  have HC3 := Aside0.mk hc3
  clear hr3 hc3
  have HB := Aside0.mk (Below.refl w.heap.size w)
  unfold laws_FnExactLeaveAt.good at hg
  skip
  rcases hg with hs | ⟨hs, hg⟩
  · have hs1_ : decide (1048576 < (l2.length : Int)) = true := decide_eq_true hs
    have hs1n_ : decide (1048576 < l2.length) = true := decide_eq_true (by omega)
    clear hs
    go_enter Try.func7, Try.ntmps7
    go_wp2_with fail
    go_ret
    exact ⟨rfl, by repeat first | exact HB.out | apply below_alloc⟩
  have hs2_ : decide (1048576 < (l2.length : Int)) = false := decide_eq_false hs
  have hs2n_ : decide (1048576 < l2.length) = false := decide_eq_false (by omega)
  clear hs
  skip
  rcases hg with hs | ⟨hs, hg⟩
  · have hs1_ : decide (1048576 < (l3.length : Int)) = true := decide_eq_true hs
    have hs1n_ : decide (1048576 < l3.length) = true := decide_eq_true (by omega)
    clear hs
    go_enter Try.func7, Try.ntmps7
    go_wp2_with fail
    go_ret
    exact ⟨rfl, by repeat first | exact HB.out | apply below_alloc⟩
  have hs3_ : decide (1048576 < (l3.length : Int)) = false := decide_eq_false hs
  have hs3n_ : decide (1048576 < l3.length) = false := decide_eq_false (by omega)
  clear hs
  obtain ⟨t8, H90, hg⟩ := hg
  have H9 := Aside0.mk H90
  clear H90
  rcases hg with hs | ⟨hs, hg⟩
  · have hs1_ : decide (t8 < 0) = true := decide_eq_true hs
    clear hs
    go_enter Try.func7, Try.ntmps7
    go_wp2_with (first | ((with_reducible refine gate_dst (N := 4) rfl ?_); refine box_event ?hg (N := 4) ?hd (cs := #[.slice A0_0 l0_0.length c0_0, .slice A0_1 l0_1.length c0_1, .slice A0_2 l0_2.length c0_2]) (t := 48) ?hr ?_; (case hd => rfl); (case hg => rfl); (case hr => first | (go_simp; done) | (go_simp; rfl)); intro gb2 hg_ w5 hx_ hb; have hg2_ : gb2 = w.heap.size := hg_; have hq_ : Below w.heap.size w w5 := ⟨hb.os, hb.tape, hb.output, hb.size, hb.block⟩; have HZ6 := Aside0.mk (show w.heap.size ≤ w5.heap.size from hq_.size); have hn_ := Aside0.mk (below_then HB.out HB.out.size hq_); clear HB; have HB := hn_; clear hn_; have HA7 := Aside0.mk (show w.heap.size ≤ w5.heap.size from HB.out.size); clear hq_; have BK3 := Aside0.mk hx_; have GQ4 := Aside0.mk (show w.heap.size ≤ gb2 ∧ gb2 < w5.heap.size from ⟨Nat.le_of_eq hg2_.symm, blk_lt hx_⟩); clear hb hg_ hg2_ hx_; have hczb1_0 : w5.cell? ⟨gb2, 0, none⟩ = some (.slice A0_0 l0_0.length c0_0) := (blk_cell BK3.out 0).trans rfl; have hfzb1_0 := blk_frozen BK3.out 0; have hczb1_1 : w5.cell? ⟨gb2, 1, none⟩ = some (.slice A0_1 l0_1.length c0_1) := (blk_cell BK3.out 1).trans rfl; have hfzb1_1 := blk_frozen BK3.out 1; have hczb1_2 : w5.cell? ⟨gb2, 2, none⟩ = some (.slice A0_2 l0_2.length c0_2) := (blk_cell BK3.out 2).trans rfl; have hfzb1_2 := blk_frozen BK3.out 2))
    refine (laws_szTranslated.calls k _ _ l0_0 _ _ l0_1 _ _ l0_2 1048576 t8 _ (Kd.C_below HR0_0.out HB.out) HC0_0.out (Kd.C_below HR0_1.out HB.out) HC0_1.out (Kd.C_below HR0_2.out HB.out) HC0_2.out H9.out).mono ?_
    rintro e_ w10 ⟨rfl, hb⟩
    have hq_ : Below w5.heap.size w5 w10 := ⟨hb.os, hb.tape, hb.output, hb.size, hb.block⟩
    have HZ11 := Aside0.mk (show w5.heap.size ≤ w10.heap.size from hq_.size)
    have hn_ := Aside0.mk (below_then HB.out HB.out.size hq_)
    clear HB
    have HB := hn_
    clear hn_
    have HA12 := Aside0.mk (show w.heap.size ≤ w10.heap.size from HB.out.size)
    have hn_ := Aside0.mk (blk_below BK3.out hq_)
    clear hczb1_0 hfzb1_0; clear hczb1_1 hfzb1_1; clear hczb1_2 hfzb1_2
    clear BK3
    have BK3 := hn_
    clear hn_
    clear hq_
    have hczb1_0 : w10.cell? ⟨gb2, 0, none⟩ = some (.slice A0_0 l0_0.length c0_0) := (blk_cell BK3.out 0).trans rfl; have hfzb1_0 := blk_frozen BK3.out 0; have hczb1_1 : w10.cell? ⟨gb2, 1, none⟩ = some (.slice A0_1 l0_1.length c0_1) := (blk_cell BK3.out 1).trans rfl; have hfzb1_1 := blk_frozen BK3.out 1; have hczb1_2 : w10.cell? ⟨gb2, 2, none⟩ = some (.slice A0_2 l0_2.length c0_2) := (blk_cell BK3.out 2).trans rfl; have hfzb1_2 := blk_frozen BK3.out 2
    clear hb
    go_wp2_with fail
    go_ret
    exact ⟨rfl, by repeat first | exact HB.out | apply below_alloc⟩
  have hs4_ : decide (t8 < 0) = false := decide_eq_false hs
  clear hs
  obtain ⟨t13, t14, t15, H160, t35, H360, t45, H460, t55, t56, t57, t58, H590, t88, t89, t90, H910, t120, H1210, t130, H1310, t140, t141, t142, H1440, H1740, t181, t182, t183, H1840, H2040, t208, H2090, H2190, t223, H2240, H2340, H2390, t246, t247, H2480, H2490, t254, t255, H2560, H2570, H2620, H2670, H2740, t278, t279, t280, H2810, t300, H3010, t310, H3110, t320, t321, t322, H3240, H3540, H3590, hg⟩ := hg
  have H16 := Aside0.mk H160
  clear H160
  have H36 := Aside0.mk H360
  clear H360
  have H46 := Aside0.mk H460
  clear H460
  have H59 := Aside0.mk H590
  clear H590
  have H91 := Aside0.mk H910
  clear H910
  have H121 := Aside0.mk H1210
  clear H1210
  have H131 := Aside0.mk H1310
  clear H1310
  have H144 := Aside0.mk H1440
  clear H1440
  have H174 := Aside0.mk H1740
  clear H1740
  have H184 := Aside0.mk H1840
  clear H1840
  have H204 := Aside0.mk H2040
  clear H2040
  have H209 := Aside0.mk H2090
  clear H2090
  have H219 := Aside0.mk H2190
  clear H2190
  have H224 := Aside0.mk H2240
  clear H2240
  have H234 := Aside0.mk H2340
  clear H2340
  have H239 := Aside0.mk H2390
  clear H2390
  have H248 := Aside0.mk H2480
  clear H2480
  have H249 := Aside0.mk H2490
  clear H2490
  have H256 := Aside0.mk H2560
  clear H2560
  have H257 := Aside0.mk H2570
  clear H2570
  have H262 := Aside0.mk H2620
  clear H2620
  have H267 := Aside0.mk H2670
  clear H2670
  have H274 := Aside0.mk H2740
  clear H2740
  have H281 := Aside0.mk H2810
  clear H2810
  have H301 := Aside0.mk H3010
  clear H3010
  have H311 := Aside0.mk H3110
  clear H3110
  have H324 := Aside0.mk H3240
  clear H3240
  have H354 := Aside0.mk H3540
  clear H3540
  have H359 := Aside0.mk H3590
  clear H3590
  clear hg
  go_enter Try.func7, Try.ntmps7
  go_wp2_with (first | ((with_reducible refine gate_dst (N := 4) rfl ?_); refine box_event ?hg (N := 4) ?hd (cs := #[.slice A0_0 l0_0.length c0_0, .slice A0_1 l0_1.length c0_1, .slice A0_2 l0_2.length c0_2]) (t := 48) ?hr ?_; (case hd => rfl); (case hg => rfl); (case hr => first | (go_simp; done) | (go_simp; rfl)); intro gb2 hg_ w5 hx_ hb; have hg2_ : gb2 = w.heap.size := hg_; have hq_ : Below w.heap.size w w5 := ⟨hb.os, hb.tape, hb.output, hb.size, hb.block⟩; have HZ6 := Aside0.mk (show w.heap.size ≤ w5.heap.size from hq_.size); have hn_ := Aside0.mk (below_then HB.out HB.out.size hq_); clear HB; have HB := hn_; clear hn_; have HA7 := Aside0.mk (show w.heap.size ≤ w5.heap.size from HB.out.size); clear hq_; have BK3 := Aside0.mk hx_; have GQ4 := Aside0.mk (show w.heap.size ≤ gb2 ∧ gb2 < w5.heap.size from ⟨Nat.le_of_eq hg2_.symm, blk_lt hx_⟩); clear hb hg_ hg2_ hx_; have hczb1_0 : w5.cell? ⟨gb2, 0, none⟩ = some (.slice A0_0 l0_0.length c0_0) := (blk_cell BK3.out 0).trans rfl; have hfzb1_0 := blk_frozen BK3.out 0; have hczb1_1 : w5.cell? ⟨gb2, 1, none⟩ = some (.slice A0_1 l0_1.length c0_1) := (blk_cell BK3.out 1).trans rfl; have hfzb1_1 := blk_frozen BK3.out 1; have hczb1_2 : w5.cell? ⟨gb2, 2, none⟩ = some (.slice A0_2 l0_2.length c0_2) := (blk_cell BK3.out 2).trans rfl; have hfzb1_2 := blk_frozen BK3.out 2))
  refine (laws_szTranslated.calls k _ _ l0_0 _ _ l0_1 _ _ l0_2 1048576 t8 _ (Kd.C_below HR0_0.out HB.out) HC0_0.out (Kd.C_below HR0_1.out HB.out) HC0_1.out (Kd.C_below HR0_2.out HB.out) HC0_2.out H9.out).mono ?_
  rintro e_ w10 ⟨rfl, hb⟩
  have hq_ : Below w5.heap.size w5 w10 := ⟨hb.os, hb.tape, hb.output, hb.size, hb.block⟩
  have HZ11 := Aside0.mk (show w5.heap.size ≤ w10.heap.size from hq_.size)
  have hn_ := Aside0.mk (below_then HB.out HB.out.size hq_)
  clear HB
  have HB := hn_
  clear hn_
  have HA12 := Aside0.mk (show w.heap.size ≤ w10.heap.size from HB.out.size)
  have hn_ := Aside0.mk (blk_below BK3.out hq_)
  clear hczb1_0 hfzb1_0; clear hczb1_1 hfzb1_1; clear hczb1_2 hfzb1_2
  clear BK3
  have BK3 := hn_
  clear hn_
  clear hq_
  have hczb1_0 : w10.cell? ⟨gb2, 0, none⟩ = some (.slice A0_0 l0_0.length c0_0) := (blk_cell BK3.out 0).trans rfl; have hfzb1_0 := blk_frozen BK3.out 0; have hczb1_1 : w10.cell? ⟨gb2, 1, none⟩ = some (.slice A0_1 l0_1.length c0_1) := (blk_cell BK3.out 1).trans rfl; have hfzb1_1 := blk_frozen BK3.out 1; have hczb1_2 : w10.cell? ⟨gb2, 2, none⟩ = some (.slice A0_2 l0_2.length c0_2) := (blk_cell BK3.out 2).trans rfl; have hfzb1_2 := blk_frozen BK3.out 2
  clear hb
  go_wp2_with fail
  refine (laws_toTranslated.calls k _ _ l0_0 _ _ l0_1 _ _ l0_2 t13 t14 t15 _ (Kd.C_below HR0_0.out HB.out) HC0_0.out (Kd.C_below HR0_1.out HB.out) HC0_1.out (Kd.C_below HR0_2.out HB.out) HC0_2.out H16.out).mono ?_
  rintro e_ w17 ⟨v18, v19, v20, rfl, f21, f22, f23, hb⟩
  have hq_ : Below w10.heap.size w10 w17 := ⟨hb.os, hb.tape, hb.output, hb.size, hb.block⟩
  have HZ24 := Aside0.mk (show w10.heap.size ≤ w17.heap.size from hq_.size)
  have hn_ := Aside0.mk (below_then HB.out HB.out.size hq_)
  clear HB
  have HB := hn_
  clear hn_
  have HA25 := Aside0.mk (show w.heap.size ≤ w17.heap.size from HB.out.size)
  have hn_ := Aside0.mk (blk_below BK3.out hq_)
  clear hczb1_0 hfzb1_0; clear hczb1_1 hfzb1_1; clear hczb1_2 hfzb1_2
  clear BK3
  have BK3 := hn_
  clear hn_
  clear hq_
  have hczb1_0 : w17.cell? ⟨gb2, 0, none⟩ = some (.slice A0_0 l0_0.length c0_0) := (blk_cell BK3.out 0).trans rfl; have hfzb1_0 := blk_frozen BK3.out 0; have hczb1_1 : w17.cell? ⟨gb2, 1, none⟩ = some (.slice A0_1 l0_1.length c0_1) := (blk_cell BK3.out 1).trans rfl; have hfzb1_1 := blk_frozen BK3.out 1; have hczb1_2 : w17.cell? ⟨gb2, 2, none⟩ = some (.slice A0_2 l0_2.length c0_2) := (blk_cell BK3.out 2).trans rfl; have hfzb1_2 := blk_frozen BK3.out 2
  clear hb
  have F26 := Aside0.mk (Lk.newR (b := w10.heap.size) (base := w.heap.size) (Sep := fun k_ => True) rfl f21 (HA12.out) (fun k_ hk_ => hk_))
  clear f21
  have F29 := Aside0.mk (Lk.newR (b := w10.heap.size) (base := w.heap.size) (Sep := fun k_ => True) rfl f22 (HA12.out) (fun k_ hk_ => hk_))
  clear f22
  have F32 := Aside0.mk (Lk.newS (b := w10.heap.size) (base := w.heap.size) (Sep := fun k_ => True) f23 (HA12.out) (fun k_ hk_ => hk_))
  clear f23
  obtain ⟨A27, c28, e_⟩ := Kd.R_slice F26.out
  subst e_
  obtain ⟨A30, c31, e_⟩ := Kd.R_slice F29.out
  subst e_
  obtain ⟨A33, c34, e_⟩ := Kd.S_slice F32.out
  subst e_
  go_wp2_with fail
  refine (laws_toIntS.calls k _ _ l2 t35 _ (Kd.C_below HR2.out HB.out) HC2.out H36.out).mono ?_
  rintro e_ w37 ⟨v38, rfl, f39, hb⟩
  have hq_ : Below w17.heap.size w17 w37 := ⟨hb.os, hb.tape, hb.output, hb.size, hb.block⟩
  have HZ40 := Aside0.mk (show w17.heap.size ≤ w37.heap.size from hq_.size)
  have hn_ := Aside0.mk (below_then HB.out HB.out.size hq_)
  clear HB
  have HB := hn_
  clear hn_
  have HA41 := Aside0.mk (show w.heap.size ≤ w37.heap.size from HB.out.size)
  have hn_ := Aside0.mk (Kd.R_below F26.out hq_)
  clear F26
  have F26 := hn_
  clear hn_
  have hn_ := Aside0.mk (Kd.R_below F29.out hq_)
  clear F29
  have F29 := hn_
  clear hn_
  have hn_ := Aside0.mk (Kd.S_below F32.out hq_)
  clear F32
  have F32 := hn_
  clear hn_
  have hn_ := Aside0.mk (blk_below BK3.out hq_)
  clear hczb1_0 hfzb1_0; clear hczb1_1 hfzb1_1; clear hczb1_2 hfzb1_2
  clear BK3
  have BK3 := hn_
  clear hn_
  clear hq_
  have hczb1_0 : w37.cell? ⟨gb2, 0, none⟩ = some (.slice A0_0 l0_0.length c0_0) := (blk_cell BK3.out 0).trans rfl; have hfzb1_0 := blk_frozen BK3.out 0; have hczb1_1 : w37.cell? ⟨gb2, 1, none⟩ = some (.slice A0_1 l0_1.length c0_1) := (blk_cell BK3.out 1).trans rfl; have hfzb1_1 := blk_frozen BK3.out 1; have hczb1_2 : w37.cell? ⟨gb2, 2, none⟩ = some (.slice A0_2 l0_2.length c0_2) := (blk_cell BK3.out 2).trans rfl; have hfzb1_2 := blk_frozen BK3.out 2
  clear hb
  have F42 := Aside0.mk (Lk.newR (b := w17.heap.size) (base := w.heap.size) (Sep := fun k_ => True) rfl f39 (HA25.out) (fun k_ hk_ => hk_))
  clear f39
  obtain ⟨A43, c44, e_⟩ := Kd.R_slice F42.out
  subst e_
  go_wp2_with fail
  refine (laws_toIntS.calls k _ _ l3 t45 _ (Kd.C_below HR3.out HB.out) HC3.out H46.out).mono ?_
  rintro e_ w47 ⟨v48, rfl, f49, hb⟩
  have hq_ : Below w37.heap.size w37 w47 := ⟨hb.os, hb.tape, hb.output, hb.size, hb.block⟩
  have HZ50 := Aside0.mk (show w37.heap.size ≤ w47.heap.size from hq_.size)
  have hn_ := Aside0.mk (below_then HB.out HB.out.size hq_)
  clear HB
  have HB := hn_
  clear hn_
  have HA51 := Aside0.mk (show w.heap.size ≤ w47.heap.size from HB.out.size)
  have hn_ := Aside0.mk (Kd.R_below F26.out hq_)
  clear F26
  have F26 := hn_
  clear hn_
  have hn_ := Aside0.mk (Kd.R_below F29.out hq_)
  clear F29
  have F29 := hn_
  clear hn_
  have hn_ := Aside0.mk (Kd.S_below F32.out hq_)
  clear F32
  have F32 := hn_
  clear hn_
  have hn_ := Aside0.mk (Kd.R_below F42.out hq_)
  clear F42
  have F42 := hn_
  clear hn_
  have hn_ := Aside0.mk (blk_below BK3.out hq_)
  clear hczb1_0 hfzb1_0; clear hczb1_1 hfzb1_1; clear hczb1_2 hfzb1_2
  clear BK3
  have BK3 := hn_
  clear hn_
  clear hq_
  have hczb1_0 : w47.cell? ⟨gb2, 0, none⟩ = some (.slice A0_0 l0_0.length c0_0) := (blk_cell BK3.out 0).trans rfl; have hfzb1_0 := blk_frozen BK3.out 0; have hczb1_1 : w47.cell? ⟨gb2, 1, none⟩ = some (.slice A0_1 l0_1.length c0_1) := (blk_cell BK3.out 1).trans rfl; have hfzb1_1 := blk_frozen BK3.out 1; have hczb1_2 : w47.cell? ⟨gb2, 2, none⟩ = some (.slice A0_2 l0_2.length c0_2) := (blk_cell BK3.out 2).trans rfl; have hfzb1_2 := blk_frozen BK3.out 2
  clear hb
  have F52 := Aside0.mk (Lk.newR (b := w37.heap.size) (base := w.heap.size) (Sep := fun k_ => True) rfl f49 (HA41.out) (fun k_ hk_ => hk_))
  clear f49
  obtain ⟨A53, c54, e_⟩ := Kd.R_slice F52.out
  subst e_
  go_wp2_with fail
  refine (spec_LeaveAt.calls k _ _ t13 _ _ t14 _ _ t15 a1 _ _ t35 _ _ t45 t55 t56 t57 t58 _ (Lk.Rr F26.out).2 (Lk.Rr F26.out).1 (Lk.Rr F29.out).2 (Lk.Rr F29.out).1 (Lk.Sr F32.out).2 (Lk.Sr F32.out).1 (Lk.Rr F42.out).2 (Lk.Rr F42.out).1 (Lk.Rr F52.out).2 (Lk.Rr F52.out).1 H59.out).mono ?_
  rintro e_ w60 ⟨v61, v62, v63, rfl, f64, f65, f66, hb⟩
  have hq_ : Below w47.heap.size w47 w60 := ⟨hb.os, hb.tape, hb.output, hb.size, hb.block⟩
  have HZ67 := Aside0.mk (show w47.heap.size ≤ w60.heap.size from hq_.size)
  have hn_ := Aside0.mk (below_then HB.out HB.out.size hq_)
  clear HB
  have HB := hn_
  clear hn_
  have HA68 := Aside0.mk (show w.heap.size ≤ w60.heap.size from HB.out.size)
  have hn_ := Aside0.mk (Kd.R_below F26.out hq_)
  clear F26
  have F26 := hn_
  clear hn_
  have hn_ := Aside0.mk (Kd.R_below F29.out hq_)
  clear F29
  have F29 := hn_
  clear hn_
  have hn_ := Aside0.mk (Kd.S_below F32.out hq_)
  clear F32
  have F32 := hn_
  clear hn_
  have hn_ := Aside0.mk (Kd.R_below F42.out hq_)
  clear F42
  have F42 := hn_
  clear hn_
  have hn_ := Aside0.mk (Kd.R_below F52.out hq_)
  clear F52
  have F52 := hn_
  clear hn_
  have hn_ := Aside0.mk (blk_below BK3.out hq_)
  clear hczb1_0 hfzb1_0; clear hczb1_1 hfzb1_1; clear hczb1_2 hfzb1_2
  clear BK3
  have BK3 := hn_
  clear hn_
  clear hq_
  have hczb1_0 : w60.cell? ⟨gb2, 0, none⟩ = some (.slice A0_0 l0_0.length c0_0) := (blk_cell BK3.out 0).trans rfl; have hfzb1_0 := blk_frozen BK3.out 0; have hczb1_1 : w60.cell? ⟨gb2, 1, none⟩ = some (.slice A0_1 l0_1.length c0_1) := (blk_cell BK3.out 1).trans rfl; have hfzb1_1 := blk_frozen BK3.out 1; have hczb1_2 : w60.cell? ⟨gb2, 2, none⟩ = some (.slice A0_2 l0_2.length c0_2) := (blk_cell BK3.out 2).trans rfl; have hfzb1_2 := blk_frozen BK3.out 2
  clear hb
  have F69 := Aside0.mk (Lk.newR (b := w47.heap.size) (base := w.heap.size) (Sep := fun k_ => some k_ ≠ (v62 : Value).ownBlock ∧ some k_ ≠ (v63 : Value).ownBlock) rfl f64 (HA51.out) (fun k_ hk_ => hk_))
  clear f64
  have F72 := Aside0.mk (Lk.newR (b := w47.heap.size) (base := w.heap.size) (Sep := fun k_ => some k_ ≠ (v61 : Value).ownBlock ∧ some k_ ≠ (v63 : Value).ownBlock) rfl f65 (HA51.out) (fun k_ hk_ => hk_))
  clear f65
  have F75 := Aside0.mk (Lk.newR (b := w47.heap.size) (base := w.heap.size) (Sep := fun k_ => some k_ ≠ (v61 : Value).ownBlock ∧ some k_ ≠ (v62 : Value).ownBlock) rfl f66 (HA51.out) (fun k_ hk_ => hk_))
  clear f66
  obtain ⟨A70, c71, e_⟩ := Kd.R_slice F69.out
  subst e_
  obtain ⟨A73, c74, e_⟩ := Kd.R_slice F72.out
  subst e_
  obtain ⟨A76, c77, e_⟩ := Kd.R_slice F75.out
  subst e_
  go_wp2_with (first | ((with_reducible refine gate_dst (N := 10) rfl ?_); refine box_event ?hg (N := 10) ?hd (cs := #[.slice none 0 0, .slice none 0 0, .slice none 0 0]) (t := 27) ?hr ?_; (case hd => rfl); (case hg => rfl); (case hr => first | (go_simp; done) | (go_simp; rfl)); intro gb79 hg_ w82 hx_ hb; have hg2_ : gb79 = w60.heap.size := hg_; have hq_ : Below w60.heap.size w60 w82 := ⟨hb.os, hb.tape, hb.output, hb.size, hb.block⟩; have HZ83 := Aside0.mk (show w60.heap.size ≤ w82.heap.size from hq_.size); have hn_ := Aside0.mk (below_then HB.out HB.out.size hq_); clear HB; have HB := hn_; clear hn_; have HA84 := Aside0.mk (show w.heap.size ≤ w82.heap.size from HB.out.size); have hn_ := Aside0.mk (Kd.R_below F26.out hq_); clear F26; have F26 := hn_; clear hn_; have hn_ := Aside0.mk (Kd.R_below F29.out hq_); clear F29; have F29 := hn_; clear hn_; have hn_ := Aside0.mk (Kd.S_below F32.out hq_); clear F32; have F32 := hn_; clear hn_; have hn_ := Aside0.mk (Kd.R_below F42.out hq_); clear F42; have F42 := hn_; clear hn_; have hn_ := Aside0.mk (Kd.R_below F52.out hq_); clear F52; have F52 := hn_; clear hn_; have hn_ := Aside0.mk (Kd.R_below F69.out hq_); clear F69; have F69 := hn_; clear hn_; have hn_ := Aside0.mk (Kd.R_below F72.out hq_); clear F72; have F72 := hn_; clear hn_; have hn_ := Aside0.mk (Kd.R_below F75.out hq_); clear F75; have F75 := hn_; clear hn_; have hn_ := Aside0.mk (blk_below BK3.out hq_); clear hczb1_0 hfzb1_0; clear hczb1_1 hfzb1_1; clear hczb1_2 hfzb1_2; clear BK3; have BK3 := hn_; clear hn_; clear hq_; have hczb1_0 : w82.cell? ⟨gb2, 0, none⟩ = some (.slice A0_0 l0_0.length c0_0) := (blk_cell BK3.out 0).trans rfl; have hfzb1_0 := blk_frozen BK3.out 0; have hczb1_1 : w82.cell? ⟨gb2, 1, none⟩ = some (.slice A0_1 l0_1.length c0_1) := (blk_cell BK3.out 1).trans rfl; have hfzb1_1 := blk_frozen BK3.out 1; have hczb1_2 : w82.cell? ⟨gb2, 2, none⟩ = some (.slice A0_2 l0_2.length c0_2) := (blk_cell BK3.out 2).trans rfl; have hfzb1_2 := blk_frozen BK3.out 2; have BK80 := Aside0.mk hx_; have GQ81 := Aside0.mk (show w60.heap.size ≤ gb79 ∧ gb79 < w82.heap.size from ⟨Nat.le_of_eq hg2_.symm, blk_lt hx_⟩); clear hb hg_ hg2_ hx_; have hczb78_0 : w82.cell? ⟨gb79, 0, none⟩ = some (.slice none 0 0) := (blk_cell BK80.out 0).trans rfl; have hfzb78_0 := blk_frozen BK80.out 0; have hczb78_1 : w82.cell? ⟨gb79, 1, none⟩ = some (.slice none 0 0) := (blk_cell BK80.out 1).trans rfl; have hfzb78_1 := blk_frozen BK80.out 1; have hczb78_2 : w82.cell? ⟨gb79, 2, none⟩ = some (.slice none 0 0) := (blk_cell BK80.out 2).trans rfl; have hfzb78_2 := blk_frozen BK80.out 2) | ((with_reducible refine gate_store (t := 27) (p := 10) rfl ?_); refine store_event (t := 27) (p := 10) (v := ?vo_w85) (w1 := (((w82.setCell ⟨gb79, 0, none⟩ (.slice A70 t55.length c71)).setCell ⟨gb79, 1, none⟩ (.slice A73 t56.length c74)).setCell ⟨gb79, 2, none⟩ (.slice A76 t57.length c77))) ?hg ?ho ?hn ?hr ?_; (case ho => rfl); (case hg => rfl); (case hn => rfl); (case hr => first | (go_simp; done) | (go_simp; rfl)); intro w85 hw_; have hx_ : w85.heap[gb79]? = some (.cells #[(.slice A70 t55.length c71), (.slice A73 t56.length c74), (.slice A76 t57.length c77)] 27 (0, 0)) := (by rw [hw_]; exact Lk.filled (us := [(.slice A70 t55.length c71), (.slice A73 t56.length c74), (.slice A76 t57.length c77)]) BK80.out rfl); have hk2_ : Kept w82 w85 (fun k_ => k_ = gb79) := (by rw [hw_]; exact Lk.fill_kept [(.slice A70 t55.length c71), (.slice A73 t56.length c74), (.slice A76 t57.length c77)] 0 w82); have hB_ := Aside0.mk (show Below w.heap.size w w85 by rw [hw_]; exact Lk.fill_below [(.slice A70 t55.length c71), (.slice A73 t56.length c74), (.slice A76 t57.length c77)] 0 w w82 HB.out (by skip; have := HA68.out; have := GQ81.out; omega)); clear HB; have HB := hB_; clear hB_; have HZ86 := Aside0.mk (show w82.heap.size ≤ w85.heap.size from hk2_.1); have HA87 := Aside0.mk (show w.heap.size ≤ w85.heap.size from HB.out.size); have hn_ := Aside0.mk (Kd.R_kept F26.out hk2_ (fun k_ h1_ h2_ => by skip; have := HZ40.out; have := HZ50.out; have := HZ67.out; have := GQ81.out; have h3_ := h1_.1; omega)); clear F26; have F26 := hn_; clear hn_; have hn_ := Aside0.mk (Kd.R_kept F29.out hk2_ (fun k_ h1_ h2_ => by skip; have := HZ40.out; have := HZ50.out; have := HZ67.out; have := GQ81.out; have h3_ := h1_.1; omega)); clear F29; have F29 := hn_; clear hn_; have hn_ := Aside0.mk (Kd.S_kept F32.out hk2_ (fun k_ h1_ h2_ => by skip; have := HZ40.out; have := HZ50.out; have := HZ67.out; have := GQ81.out; have h3_ := h1_.1; omega)); clear F32; have F32 := hn_; clear hn_; have hn_ := Aside0.mk (Kd.R_kept F42.out hk2_ (fun k_ h1_ h2_ => by skip; have := HZ50.out; have := HZ67.out; have := GQ81.out; have h3_ := h1_.1; omega)); clear F42; have F42 := hn_; clear hn_; have hn_ := Aside0.mk (Kd.R_kept F52.out hk2_ (fun k_ h1_ h2_ => by skip; have := HZ67.out; have := GQ81.out; have h3_ := h1_.1; omega)); clear F52; have F52 := hn_; clear hn_; have hn_ := Aside0.mk (Kd.R_kept F69.out hk2_ (fun k_ h1_ h2_ => by skip; have := GQ81.out; have h3_ := h1_.1; omega)); clear F69; have F69 := hn_; clear hn_; have hn_ := Aside0.mk (Kd.R_kept F72.out hk2_ (fun k_ h1_ h2_ => by skip; have := GQ81.out; have h3_ := h1_.1; omega)); clear F72; have F72 := hn_; clear hn_; have hn_ := Aside0.mk (Kd.R_kept F75.out hk2_ (fun k_ h1_ h2_ => by skip; have := GQ81.out; have h3_ := h1_.1; omega)); clear F75; have F75 := hn_; clear hn_; clear hczb1_0 hfzb1_0; clear hczb1_1 hfzb1_1; clear hczb1_2 hfzb1_2; have hn_ := Aside0.mk (blk_kept BK3.out hk2_ (fun h_ => by skip; have := HZ11.out; have := HZ24.out; have := HZ40.out; have := HZ50.out; have := HZ67.out; have := GQ81.out; have := GQ4.out; omega)); clear BK3; have BK3 := hn_; clear hn_; clear hczb78_0 hfzb78_0; clear hczb78_1 hfzb78_1; clear hczb78_2 hfzb78_2; clear BK80; have BK80 := Aside0.mk hx_; clear hk2_ hx_ hw_; have hczb1_0 : w85.cell? ⟨gb2, 0, none⟩ = some (.slice A0_0 l0_0.length c0_0) := (blk_cell BK3.out 0).trans rfl; have hfzb1_0 := blk_frozen BK3.out 0; have hczb1_1 : w85.cell? ⟨gb2, 1, none⟩ = some (.slice A0_1 l0_1.length c0_1) := (blk_cell BK3.out 1).trans rfl; have hfzb1_1 := blk_frozen BK3.out 1; have hczb1_2 : w85.cell? ⟨gb2, 2, none⟩ = some (.slice A0_2 l0_2.length c0_2) := (blk_cell BK3.out 2).trans rfl; have hfzb1_2 := blk_frozen BK3.out 2; have hczb78_0 : w85.cell? ⟨gb79, 0, none⟩ = some (.slice A70 t55.length c71) := (blk_cell BK80.out 0).trans rfl; have hfzb78_0 := blk_frozen BK80.out 0; have hczb78_1 : w85.cell? ⟨gb79, 1, none⟩ = some (.slice A73 t56.length c74) := (blk_cell BK80.out 1).trans rfl; have hfzb78_1 := blk_frozen BK80.out 1; have hczb78_2 : w85.cell? ⟨gb79, 2, none⟩ = some (.slice A76 t57.length c77) := (blk_cell BK80.out 2).trans rfl; have hfzb78_2 := blk_frozen BK80.out 2))
  refine (laws_toTranslated.calls k _ _ l0_0 _ _ l0_1 _ _ l0_2 t88 t89 t90 _ (Kd.C_below HR0_0.out HB.out) HC0_0.out (Kd.C_below HR0_1.out HB.out) HC0_1.out (Kd.C_below HR0_2.out HB.out) HC0_2.out H91.out).mono ?_
  rintro e_ w92 ⟨v93, v94, v95, rfl, f96, f97, f98, hb⟩
  have hq_ : Below w85.heap.size w85 w92 := ⟨hb.os, hb.tape, hb.output, hb.size, hb.block⟩
  have HZ99 := Aside0.mk (show w85.heap.size ≤ w92.heap.size from hq_.size)
  have hn_ := Aside0.mk (below_then HB.out HB.out.size hq_)
  clear HB
  have HB := hn_
  clear hn_
  have HA100 := Aside0.mk (show w.heap.size ≤ w92.heap.size from HB.out.size)
  have hn_ := Aside0.mk (Kd.R_below F26.out hq_)
  clear F26
  have F26 := hn_
  clear hn_
  have hn_ := Aside0.mk (Kd.R_below F29.out hq_)
  clear F29
  have F29 := hn_
  clear hn_
  have hn_ := Aside0.mk (Kd.S_below F32.out hq_)
  clear F32
  have F32 := hn_
  clear hn_
  have hn_ := Aside0.mk (Kd.R_below F42.out hq_)
  clear F42
  have F42 := hn_
  clear hn_
  have hn_ := Aside0.mk (Kd.R_below F52.out hq_)
  clear F52
  have F52 := hn_
  clear hn_
  have hn_ := Aside0.mk (Kd.R_below F69.out hq_)
  clear F69
  have F69 := hn_
  clear hn_
  have hn_ := Aside0.mk (Kd.R_below F72.out hq_)
  clear F72
  have F72 := hn_
  clear hn_
  have hn_ := Aside0.mk (Kd.R_below F75.out hq_)
  clear F75
  have F75 := hn_
  clear hn_
  have hn_ := Aside0.mk (blk_below BK3.out hq_)
  clear hczb1_0 hfzb1_0; clear hczb1_1 hfzb1_1; clear hczb1_2 hfzb1_2
  clear BK3
  have BK3 := hn_
  clear hn_
  have hn_ := Aside0.mk (blk_below BK80.out hq_)
  clear hczb78_0 hfzb78_0; clear hczb78_1 hfzb78_1; clear hczb78_2 hfzb78_2
  clear BK80
  have BK80 := hn_
  clear hn_
  clear hq_
  have hczb1_0 : w92.cell? ⟨gb2, 0, none⟩ = some (.slice A0_0 l0_0.length c0_0) := (blk_cell BK3.out 0).trans rfl; have hfzb1_0 := blk_frozen BK3.out 0; have hczb1_1 : w92.cell? ⟨gb2, 1, none⟩ = some (.slice A0_1 l0_1.length c0_1) := (blk_cell BK3.out 1).trans rfl; have hfzb1_1 := blk_frozen BK3.out 1; have hczb1_2 : w92.cell? ⟨gb2, 2, none⟩ = some (.slice A0_2 l0_2.length c0_2) := (blk_cell BK3.out 2).trans rfl; have hfzb1_2 := blk_frozen BK3.out 2
  have hczb78_0 : w92.cell? ⟨gb79, 0, none⟩ = some (.slice A70 t55.length c71) := (blk_cell BK80.out 0).trans rfl; have hfzb78_0 := blk_frozen BK80.out 0; have hczb78_1 : w92.cell? ⟨gb79, 1, none⟩ = some (.slice A73 t56.length c74) := (blk_cell BK80.out 1).trans rfl; have hfzb78_1 := blk_frozen BK80.out 1; have hczb78_2 : w92.cell? ⟨gb79, 2, none⟩ = some (.slice A76 t57.length c77) := (blk_cell BK80.out 2).trans rfl; have hfzb78_2 := blk_frozen BK80.out 2
  clear hb
  have F101 := Aside0.mk (Lk.newR (b := w85.heap.size) (base := w.heap.size) (Sep := fun k_ => True) rfl f96 (HA87.out) (fun k_ hk_ => hk_))
  clear f96
  have F104 := Aside0.mk (Lk.newR (b := w85.heap.size) (base := w.heap.size) (Sep := fun k_ => True) rfl f97 (HA87.out) (fun k_ hk_ => hk_))
  clear f97
  have F107 := Aside0.mk (Lk.newS (b := w85.heap.size) (base := w.heap.size) (Sep := fun k_ => True) f98 (HA87.out) (fun k_ hk_ => hk_))
  clear f98
  obtain ⟨A102, c103, e_⟩ := Kd.R_slice F101.out
  subst e_
  obtain ⟨A105, c106, e_⟩ := Kd.R_slice F104.out
  subst e_
  obtain ⟨A108, c109, e_⟩ := Kd.S_slice F107.out
  subst e_
  go_wp2_with (first | ((with_reducible refine gate_dst (N := 12) rfl ?_); refine box_event ?hg (N := 12) ?hd (cs := #[.slice none 0 0, .slice none 0 0, .slice none 0 0]) (t := 55) ?hr ?_; (case hd => rfl); (case hg => rfl); (case hr => first | (go_simp; done) | (go_simp; rfl)); intro gb111 hg_ w114 hx_ hb; have hg2_ : gb111 = w92.heap.size := hg_; have hq_ : Below w92.heap.size w92 w114 := ⟨hb.os, hb.tape, hb.output, hb.size, hb.block⟩; have HZ115 := Aside0.mk (show w92.heap.size ≤ w114.heap.size from hq_.size); have hn_ := Aside0.mk (below_then HB.out HB.out.size hq_); clear HB; have HB := hn_; clear hn_; have HA116 := Aside0.mk (show w.heap.size ≤ w114.heap.size from HB.out.size); have hn_ := Aside0.mk (Kd.R_below F26.out hq_); clear F26; have F26 := hn_; clear hn_; have hn_ := Aside0.mk (Kd.R_below F29.out hq_); clear F29; have F29 := hn_; clear hn_; have hn_ := Aside0.mk (Kd.S_below F32.out hq_); clear F32; have F32 := hn_; clear hn_; have hn_ := Aside0.mk (Kd.R_below F42.out hq_); clear F42; have F42 := hn_; clear hn_; have hn_ := Aside0.mk (Kd.R_below F52.out hq_); clear F52; have F52 := hn_; clear hn_; have hn_ := Aside0.mk (Kd.R_below F69.out hq_); clear F69; have F69 := hn_; clear hn_; have hn_ := Aside0.mk (Kd.R_below F72.out hq_); clear F72; have F72 := hn_; clear hn_; have hn_ := Aside0.mk (Kd.R_below F75.out hq_); clear F75; have F75 := hn_; clear hn_; have hn_ := Aside0.mk (Kd.R_below F101.out hq_); clear F101; have F101 := hn_; clear hn_; have hn_ := Aside0.mk (Kd.R_below F104.out hq_); clear F104; have F104 := hn_; clear hn_; have hn_ := Aside0.mk (Kd.S_below F107.out hq_); clear F107; have F107 := hn_; clear hn_; have hn_ := Aside0.mk (blk_below BK3.out hq_); clear hczb1_0 hfzb1_0; clear hczb1_1 hfzb1_1; clear hczb1_2 hfzb1_2; clear BK3; have BK3 := hn_; clear hn_; have hn_ := Aside0.mk (blk_below BK80.out hq_); clear hczb78_0 hfzb78_0; clear hczb78_1 hfzb78_1; clear hczb78_2 hfzb78_2; clear BK80; have BK80 := hn_; clear hn_; clear hq_; have hczb1_0 : w114.cell? ⟨gb2, 0, none⟩ = some (.slice A0_0 l0_0.length c0_0) := (blk_cell BK3.out 0).trans rfl; have hfzb1_0 := blk_frozen BK3.out 0; have hczb1_1 : w114.cell? ⟨gb2, 1, none⟩ = some (.slice A0_1 l0_1.length c0_1) := (blk_cell BK3.out 1).trans rfl; have hfzb1_1 := blk_frozen BK3.out 1; have hczb1_2 : w114.cell? ⟨gb2, 2, none⟩ = some (.slice A0_2 l0_2.length c0_2) := (blk_cell BK3.out 2).trans rfl; have hfzb1_2 := blk_frozen BK3.out 2; have hczb78_0 : w114.cell? ⟨gb79, 0, none⟩ = some (.slice A70 t55.length c71) := (blk_cell BK80.out 0).trans rfl; have hfzb78_0 := blk_frozen BK80.out 0; have hczb78_1 : w114.cell? ⟨gb79, 1, none⟩ = some (.slice A73 t56.length c74) := (blk_cell BK80.out 1).trans rfl; have hfzb78_1 := blk_frozen BK80.out 1; have hczb78_2 : w114.cell? ⟨gb79, 2, none⟩ = some (.slice A76 t57.length c77) := (blk_cell BK80.out 2).trans rfl; have hfzb78_2 := blk_frozen BK80.out 2; have BK112 := Aside0.mk hx_; have GQ113 := Aside0.mk (show w92.heap.size ≤ gb111 ∧ gb111 < w114.heap.size from ⟨Nat.le_of_eq hg2_.symm, blk_lt hx_⟩); clear hb hg_ hg2_ hx_; have hczb110_0 : w114.cell? ⟨gb111, 0, none⟩ = some (.slice none 0 0) := (blk_cell BK112.out 0).trans rfl; have hfzb110_0 := blk_frozen BK112.out 0; have hczb110_1 : w114.cell? ⟨gb111, 1, none⟩ = some (.slice none 0 0) := (blk_cell BK112.out 1).trans rfl; have hfzb110_1 := blk_frozen BK112.out 1; have hczb110_2 : w114.cell? ⟨gb111, 2, none⟩ = some (.slice none 0 0) := (blk_cell BK112.out 2).trans rfl; have hfzb110_2 := blk_frozen BK112.out 2) | ((with_reducible refine gate_store (t := 55) (p := 12) rfl ?_); refine store_event (t := 55) (p := 12) (v := ?vo_w117) (w1 := (((w114.setCell ⟨gb111, 0, none⟩ (.slice A102 t88.length c103)).setCell ⟨gb111, 1, none⟩ (.slice A105 t89.length c106)).setCell ⟨gb111, 2, none⟩ (.slice A108 t90.length c109))) ?hg ?ho ?hn ?hr ?_; (case ho => rfl); (case hg => rfl); (case hn => rfl); (case hr => first | (go_simp; done) | (go_simp; rfl)); intro w117 hw_; have hx_ : w117.heap[gb111]? = some (.cells #[(.slice A102 t88.length c103), (.slice A105 t89.length c106), (.slice A108 t90.length c109)] 55 (0, 0)) := (by rw [hw_]; exact Lk.filled (us := [(.slice A102 t88.length c103), (.slice A105 t89.length c106), (.slice A108 t90.length c109)]) BK112.out rfl); have hk2_ : Kept w114 w117 (fun k_ => k_ = gb111) := (by rw [hw_]; exact Lk.fill_kept [(.slice A102 t88.length c103), (.slice A105 t89.length c106), (.slice A108 t90.length c109)] 0 w114); have hB_ := Aside0.mk (show Below w.heap.size w w117 by rw [hw_]; exact Lk.fill_below [(.slice A102 t88.length c103), (.slice A105 t89.length c106), (.slice A108 t90.length c109)] 0 w w114 HB.out (by skip; have := HA100.out; have := GQ113.out; omega)); clear HB; have HB := hB_; clear hB_; have HZ118 := Aside0.mk (show w114.heap.size ≤ w117.heap.size from hk2_.1); have HA119 := Aside0.mk (show w.heap.size ≤ w117.heap.size from HB.out.size); have hn_ := Aside0.mk (Kd.R_kept F26.out hk2_ (fun k_ h1_ h2_ => by skip; have := HZ40.out; have := HZ50.out; have := HZ67.out; have := HZ83.out; have := HZ86.out; have := HZ99.out; have := GQ113.out; have h3_ := h1_.1; omega)); clear F26; have F26 := hn_; clear hn_; have hn_ := Aside0.mk (Kd.R_kept F29.out hk2_ (fun k_ h1_ h2_ => by skip; have := HZ40.out; have := HZ50.out; have := HZ67.out; have := HZ83.out; have := HZ86.out; have := HZ99.out; have := GQ113.out; have h3_ := h1_.1; omega)); clear F29; have F29 := hn_; clear hn_; have hn_ := Aside0.mk (Kd.S_kept F32.out hk2_ (fun k_ h1_ h2_ => by skip; have := HZ40.out; have := HZ50.out; have := HZ67.out; have := HZ83.out; have := HZ86.out; have := HZ99.out; have := GQ113.out; have h3_ := h1_.1; omega)); clear F32; have F32 := hn_; clear hn_; have hn_ := Aside0.mk (Kd.R_kept F42.out hk2_ (fun k_ h1_ h2_ => by skip; have := HZ50.out; have := HZ67.out; have := HZ83.out; have := HZ86.out; have := HZ99.out; have := GQ113.out; have h3_ := h1_.1; omega)); clear F42; have F42 := hn_; clear hn_; have hn_ := Aside0.mk (Kd.R_kept F52.out hk2_ (fun k_ h1_ h2_ => by skip; have := HZ67.out; have := HZ83.out; have := HZ86.out; have := HZ99.out; have := GQ113.out; have h3_ := h1_.1; omega)); clear F52; have F52 := hn_; clear hn_; have hn_ := Aside0.mk (Kd.R_kept F69.out hk2_ (fun k_ h1_ h2_ => by skip; have := HZ83.out; have := HZ86.out; have := HZ99.out; have := GQ113.out; have h3_ := h1_.1; omega)); clear F69; have F69 := hn_; clear hn_; have hn_ := Aside0.mk (Kd.R_kept F72.out hk2_ (fun k_ h1_ h2_ => by skip; have := HZ83.out; have := HZ86.out; have := HZ99.out; have := GQ113.out; have h3_ := h1_.1; omega)); clear F72; have F72 := hn_; clear hn_; have hn_ := Aside0.mk (Kd.R_kept F75.out hk2_ (fun k_ h1_ h2_ => by skip; have := HZ83.out; have := HZ86.out; have := HZ99.out; have := GQ113.out; have h3_ := h1_.1; omega)); clear F75; have F75 := hn_; clear hn_; have hn_ := Aside0.mk (Kd.R_kept F101.out hk2_ (fun k_ h1_ h2_ => by skip; have := GQ113.out; have h3_ := h1_.1; omega)); clear F101; have F101 := hn_; clear hn_; have hn_ := Aside0.mk (Kd.R_kept F104.out hk2_ (fun k_ h1_ h2_ => by skip; have := GQ113.out; have h3_ := h1_.1; omega)); clear F104; have F104 := hn_; clear hn_; have hn_ := Aside0.mk (Kd.S_kept F107.out hk2_ (fun k_ h1_ h2_ => by skip; have := GQ113.out; have h3_ := h1_.1; omega)); clear F107; have F107 := hn_; clear hn_; clear hczb1_0 hfzb1_0; clear hczb1_1 hfzb1_1; clear hczb1_2 hfzb1_2; have hn_ := Aside0.mk (blk_kept BK3.out hk2_ (fun h_ => by skip; have := HZ11.out; have := HZ24.out; have := HZ40.out; have := HZ50.out; have := HZ67.out; have := HZ83.out; have := HZ86.out; have := HZ99.out; have := GQ113.out; have := GQ4.out; omega)); clear BK3; have BK3 := hn_; clear hn_; clear hczb78_0 hfzb78_0; clear hczb78_1 hfzb78_1; clear hczb78_2 hfzb78_2; have hn_ := Aside0.mk (blk_kept BK80.out hk2_ (fun h_ => by skip; have := HZ86.out; have := HZ99.out; have := GQ113.out; have := GQ81.out; omega)); clear BK80; have BK80 := hn_; clear hn_; clear hczb110_0 hfzb110_0; clear hczb110_1 hfzb110_1; clear hczb110_2 hfzb110_2; clear BK112; have BK112 := Aside0.mk hx_; clear hk2_ hx_ hw_; have hczb1_0 : w117.cell? ⟨gb2, 0, none⟩ = some (.slice A0_0 l0_0.length c0_0) := (blk_cell BK3.out 0).trans rfl; have hfzb1_0 := blk_frozen BK3.out 0; have hczb1_1 : w117.cell? ⟨gb2, 1, none⟩ = some (.slice A0_1 l0_1.length c0_1) := (blk_cell BK3.out 1).trans rfl; have hfzb1_1 := blk_frozen BK3.out 1; have hczb1_2 : w117.cell? ⟨gb2, 2, none⟩ = some (.slice A0_2 l0_2.length c0_2) := (blk_cell BK3.out 2).trans rfl; have hfzb1_2 := blk_frozen BK3.out 2; have hczb78_0 : w117.cell? ⟨gb79, 0, none⟩ = some (.slice A70 t55.length c71) := (blk_cell BK80.out 0).trans rfl; have hfzb78_0 := blk_frozen BK80.out 0; have hczb78_1 : w117.cell? ⟨gb79, 1, none⟩ = some (.slice A73 t56.length c74) := (blk_cell BK80.out 1).trans rfl; have hfzb78_1 := blk_frozen BK80.out 1; have hczb78_2 : w117.cell? ⟨gb79, 2, none⟩ = some (.slice A76 t57.length c77) := (blk_cell BK80.out 2).trans rfl; have hfzb78_2 := blk_frozen BK80.out 2; have hczb110_0 : w117.cell? ⟨gb111, 0, none⟩ = some (.slice A102 t88.length c103) := (blk_cell BK112.out 0).trans rfl; have hfzb110_0 := blk_frozen BK112.out 0; have hczb110_1 : w117.cell? ⟨gb111, 1, none⟩ = some (.slice A105 t89.length c106) := (blk_cell BK112.out 1).trans rfl; have hfzb110_1 := blk_frozen BK112.out 1; have hczb110_2 : w117.cell? ⟨gb111, 2, none⟩ = some (.slice A108 t90.length c109) := (blk_cell BK112.out 2).trans rfl; have hfzb110_2 := blk_frozen BK112.out 2))
  refine (laws_toIntS.calls k _ _ l2 t120 _ (Kd.C_below HR2.out HB.out) HC2.out H121.out).mono ?_
  rintro e_ w122 ⟨v123, rfl, f124, hb⟩
  have hq_ : Below w117.heap.size w117 w122 := ⟨hb.os, hb.tape, hb.output, hb.size, hb.block⟩
  have HZ125 := Aside0.mk (show w117.heap.size ≤ w122.heap.size from hq_.size)
  have hn_ := Aside0.mk (below_then HB.out HB.out.size hq_)
  clear HB
  have HB := hn_
  clear hn_
  have HA126 := Aside0.mk (show w.heap.size ≤ w122.heap.size from HB.out.size)
  have hn_ := Aside0.mk (Kd.R_below F26.out hq_)
  clear F26
  have F26 := hn_
  clear hn_
  have hn_ := Aside0.mk (Kd.R_below F29.out hq_)
  clear F29
  have F29 := hn_
  clear hn_
  have hn_ := Aside0.mk (Kd.S_below F32.out hq_)
  clear F32
  have F32 := hn_
  clear hn_
  have hn_ := Aside0.mk (Kd.R_below F42.out hq_)
  clear F42
  have F42 := hn_
  clear hn_
  have hn_ := Aside0.mk (Kd.R_below F52.out hq_)
  clear F52
  have F52 := hn_
  clear hn_
  have hn_ := Aside0.mk (Kd.R_below F69.out hq_)
  clear F69
  have F69 := hn_
  clear hn_
  have hn_ := Aside0.mk (Kd.R_below F72.out hq_)
  clear F72
  have F72 := hn_
  clear hn_
  have hn_ := Aside0.mk (Kd.R_below F75.out hq_)
  clear F75
  have F75 := hn_
  clear hn_
  have hn_ := Aside0.mk (Kd.R_below F101.out hq_)
  clear F101
  have F101 := hn_
  clear hn_
  have hn_ := Aside0.mk (Kd.R_below F104.out hq_)
  clear F104
  have F104 := hn_
  clear hn_
  have hn_ := Aside0.mk (Kd.S_below F107.out hq_)
  clear F107
  have F107 := hn_
  clear hn_
  have hn_ := Aside0.mk (blk_below BK3.out hq_)
  clear hczb1_0 hfzb1_0; clear hczb1_1 hfzb1_1; clear hczb1_2 hfzb1_2
  clear BK3
  have BK3 := hn_
  clear hn_
  have hn_ := Aside0.mk (blk_below BK80.out hq_)
  clear hczb78_0 hfzb78_0; clear hczb78_1 hfzb78_1; clear hczb78_2 hfzb78_2
  clear BK80
  have BK80 := hn_
  clear hn_
  have hn_ := Aside0.mk (blk_below BK112.out hq_)
  clear hczb110_0 hfzb110_0; clear hczb110_1 hfzb110_1; clear hczb110_2 hfzb110_2
  clear BK112
  have BK112 := hn_
  clear hn_
  clear hq_
  have hczb1_0 : w122.cell? ⟨gb2, 0, none⟩ = some (.slice A0_0 l0_0.length c0_0) := (blk_cell BK3.out 0).trans rfl; have hfzb1_0 := blk_frozen BK3.out 0; have hczb1_1 : w122.cell? ⟨gb2, 1, none⟩ = some (.slice A0_1 l0_1.length c0_1) := (blk_cell BK3.out 1).trans rfl; have hfzb1_1 := blk_frozen BK3.out 1; have hczb1_2 : w122.cell? ⟨gb2, 2, none⟩ = some (.slice A0_2 l0_2.length c0_2) := (blk_cell BK3.out 2).trans rfl; have hfzb1_2 := blk_frozen BK3.out 2
  have hczb78_0 : w122.cell? ⟨gb79, 0, none⟩ = some (.slice A70 t55.length c71) := (blk_cell BK80.out 0).trans rfl; have hfzb78_0 := blk_frozen BK80.out 0; have hczb78_1 : w122.cell? ⟨gb79, 1, none⟩ = some (.slice A73 t56.length c74) := (blk_cell BK80.out 1).trans rfl; have hfzb78_1 := blk_frozen BK80.out 1; have hczb78_2 : w122.cell? ⟨gb79, 2, none⟩ = some (.slice A76 t57.length c77) := (blk_cell BK80.out 2).trans rfl; have hfzb78_2 := blk_frozen BK80.out 2
  have hczb110_0 : w122.cell? ⟨gb111, 0, none⟩ = some (.slice A102 t88.length c103) := (blk_cell BK112.out 0).trans rfl; have hfzb110_0 := blk_frozen BK112.out 0; have hczb110_1 : w122.cell? ⟨gb111, 1, none⟩ = some (.slice A105 t89.length c106) := (blk_cell BK112.out 1).trans rfl; have hfzb110_1 := blk_frozen BK112.out 1; have hczb110_2 : w122.cell? ⟨gb111, 2, none⟩ = some (.slice A108 t90.length c109) := (blk_cell BK112.out 2).trans rfl; have hfzb110_2 := blk_frozen BK112.out 2
  clear hb
  have F127 := Aside0.mk (Lk.newR (b := w117.heap.size) (base := w.heap.size) (Sep := fun k_ => True) rfl f124 (HA119.out) (fun k_ hk_ => hk_))
  clear f124
  obtain ⟨A128, c129, e_⟩ := Kd.R_slice F127.out
  subst e_
  go_wp2_with fail
  refine (laws_toIntS.calls k _ _ l3 t130 _ (Kd.C_below HR3.out HB.out) HC3.out H131.out).mono ?_
  rintro e_ w132 ⟨v133, rfl, f134, hb⟩
  have hq_ : Below w122.heap.size w122 w132 := ⟨hb.os, hb.tape, hb.output, hb.size, hb.block⟩
  have HZ135 := Aside0.mk (show w122.heap.size ≤ w132.heap.size from hq_.size)
  have hn_ := Aside0.mk (below_then HB.out HB.out.size hq_)
  clear HB
  have HB := hn_
  clear hn_
  have HA136 := Aside0.mk (show w.heap.size ≤ w132.heap.size from HB.out.size)
  have hn_ := Aside0.mk (Kd.R_below F26.out hq_)
  clear F26
  have F26 := hn_
  clear hn_
  have hn_ := Aside0.mk (Kd.R_below F29.out hq_)
  clear F29
  have F29 := hn_
  clear hn_
  have hn_ := Aside0.mk (Kd.S_below F32.out hq_)
  clear F32
  have F32 := hn_
  clear hn_
  have hn_ := Aside0.mk (Kd.R_below F42.out hq_)
  clear F42
  have F42 := hn_
  clear hn_
  have hn_ := Aside0.mk (Kd.R_below F52.out hq_)
  clear F52
  have F52 := hn_
  clear hn_
  have hn_ := Aside0.mk (Kd.R_below F69.out hq_)
  clear F69
  have F69 := hn_
  clear hn_
  have hn_ := Aside0.mk (Kd.R_below F72.out hq_)
  clear F72
  have F72 := hn_
  clear hn_
  have hn_ := Aside0.mk (Kd.R_below F75.out hq_)
  clear F75
  have F75 := hn_
  clear hn_
  have hn_ := Aside0.mk (Kd.R_below F101.out hq_)
  clear F101
  have F101 := hn_
  clear hn_
  have hn_ := Aside0.mk (Kd.R_below F104.out hq_)
  clear F104
  have F104 := hn_
  clear hn_
  have hn_ := Aside0.mk (Kd.S_below F107.out hq_)
  clear F107
  have F107 := hn_
  clear hn_
  have hn_ := Aside0.mk (Kd.R_below F127.out hq_)
  clear F127
  have F127 := hn_
  clear hn_
  have hn_ := Aside0.mk (blk_below BK3.out hq_)
  clear hczb1_0 hfzb1_0; clear hczb1_1 hfzb1_1; clear hczb1_2 hfzb1_2
  clear BK3
  have BK3 := hn_
  clear hn_
  have hn_ := Aside0.mk (blk_below BK80.out hq_)
  clear hczb78_0 hfzb78_0; clear hczb78_1 hfzb78_1; clear hczb78_2 hfzb78_2
  clear BK80
  have BK80 := hn_
  clear hn_
  have hn_ := Aside0.mk (blk_below BK112.out hq_)
  clear hczb110_0 hfzb110_0; clear hczb110_1 hfzb110_1; clear hczb110_2 hfzb110_2
  clear BK112
  have BK112 := hn_
  clear hn_
  clear hq_
  have hczb1_0 : w132.cell? ⟨gb2, 0, none⟩ = some (.slice A0_0 l0_0.length c0_0) := (blk_cell BK3.out 0).trans rfl; have hfzb1_0 := blk_frozen BK3.out 0; have hczb1_1 : w132.cell? ⟨gb2, 1, none⟩ = some (.slice A0_1 l0_1.length c0_1) := (blk_cell BK3.out 1).trans rfl; have hfzb1_1 := blk_frozen BK3.out 1; have hczb1_2 : w132.cell? ⟨gb2, 2, none⟩ = some (.slice A0_2 l0_2.length c0_2) := (blk_cell BK3.out 2).trans rfl; have hfzb1_2 := blk_frozen BK3.out 2
  have hczb78_0 : w132.cell? ⟨gb79, 0, none⟩ = some (.slice A70 t55.length c71) := (blk_cell BK80.out 0).trans rfl; have hfzb78_0 := blk_frozen BK80.out 0; have hczb78_1 : w132.cell? ⟨gb79, 1, none⟩ = some (.slice A73 t56.length c74) := (blk_cell BK80.out 1).trans rfl; have hfzb78_1 := blk_frozen BK80.out 1; have hczb78_2 : w132.cell? ⟨gb79, 2, none⟩ = some (.slice A76 t57.length c77) := (blk_cell BK80.out 2).trans rfl; have hfzb78_2 := blk_frozen BK80.out 2
  have hczb110_0 : w132.cell? ⟨gb111, 0, none⟩ = some (.slice A102 t88.length c103) := (blk_cell BK112.out 0).trans rfl; have hfzb110_0 := blk_frozen BK112.out 0; have hczb110_1 : w132.cell? ⟨gb111, 1, none⟩ = some (.slice A105 t89.length c106) := (blk_cell BK112.out 1).trans rfl; have hfzb110_1 := blk_frozen BK112.out 1; have hczb110_2 : w132.cell? ⟨gb111, 2, none⟩ = some (.slice A108 t90.length c109) := (blk_cell BK112.out 2).trans rfl; have hfzb110_2 := blk_frozen BK112.out 2
  clear hb
  have F137 := Aside0.mk (Lk.newR (b := w122.heap.size) (base := w.heap.size) (Sep := fun k_ => True) rfl f134 (HA126.out) (fun k_ hk_ => hk_))
  clear f134
  obtain ⟨A138, c139, e_⟩ := Kd.R_slice F137.out
  subst e_
  go_wp2_with fail
  refine (impl_LeaveAt.calls k _ _ t88 _ _ t89 _ _ t90 a1 _ _ t120 _ _ t130 t140 t141 t142 t58 _ (Lk.Rr F101.out).2 (Lk.Rr F101.out).1 (Lk.Rr F104.out).2 (Lk.Rr F104.out).1 (Lk.Sr F107.out).2 (Lk.Sr F107.out).1 (Lk.Rr F127.out).2 (Lk.Rr F127.out).1 (Lk.Rr F137.out).2 (Lk.Rr F137.out).1 H144.out).mono ?_
  rintro e_ w145 ⟨v146, v147, v148, rfl, f149, f150, f151, hb⟩
  have hq_ : Below w132.heap.size w132 w145 := ⟨hb.os, hb.tape, hb.output, hb.size, hb.block⟩
  have HZ152 := Aside0.mk (show w132.heap.size ≤ w145.heap.size from hq_.size)
  have hn_ := Aside0.mk (below_then HB.out HB.out.size hq_)
  clear HB
  have HB := hn_
  clear hn_
  have HA153 := Aside0.mk (show w.heap.size ≤ w145.heap.size from HB.out.size)
  have hn_ := Aside0.mk (Kd.R_below F26.out hq_)
  clear F26
  have F26 := hn_
  clear hn_
  have hn_ := Aside0.mk (Kd.R_below F29.out hq_)
  clear F29
  have F29 := hn_
  clear hn_
  have hn_ := Aside0.mk (Kd.S_below F32.out hq_)
  clear F32
  have F32 := hn_
  clear hn_
  have hn_ := Aside0.mk (Kd.R_below F42.out hq_)
  clear F42
  have F42 := hn_
  clear hn_
  have hn_ := Aside0.mk (Kd.R_below F52.out hq_)
  clear F52
  have F52 := hn_
  clear hn_
  have hn_ := Aside0.mk (Kd.R_below F69.out hq_)
  clear F69
  have F69 := hn_
  clear hn_
  have hn_ := Aside0.mk (Kd.R_below F72.out hq_)
  clear F72
  have F72 := hn_
  clear hn_
  have hn_ := Aside0.mk (Kd.R_below F75.out hq_)
  clear F75
  have F75 := hn_
  clear hn_
  have hn_ := Aside0.mk (Kd.R_below F101.out hq_)
  clear F101
  have F101 := hn_
  clear hn_
  have hn_ := Aside0.mk (Kd.R_below F104.out hq_)
  clear F104
  have F104 := hn_
  clear hn_
  have hn_ := Aside0.mk (Kd.S_below F107.out hq_)
  clear F107
  have F107 := hn_
  clear hn_
  have hn_ := Aside0.mk (Kd.R_below F127.out hq_)
  clear F127
  have F127 := hn_
  clear hn_
  have hn_ := Aside0.mk (Kd.R_below F137.out hq_)
  clear F137
  have F137 := hn_
  clear hn_
  have hn_ := Aside0.mk (blk_below BK3.out hq_)
  clear hczb1_0 hfzb1_0; clear hczb1_1 hfzb1_1; clear hczb1_2 hfzb1_2
  clear BK3
  have BK3 := hn_
  clear hn_
  have hn_ := Aside0.mk (blk_below BK80.out hq_)
  clear hczb78_0 hfzb78_0; clear hczb78_1 hfzb78_1; clear hczb78_2 hfzb78_2
  clear BK80
  have BK80 := hn_
  clear hn_
  have hn_ := Aside0.mk (blk_below BK112.out hq_)
  clear hczb110_0 hfzb110_0; clear hczb110_1 hfzb110_1; clear hczb110_2 hfzb110_2
  clear BK112
  have BK112 := hn_
  clear hn_
  clear hq_
  have hczb1_0 : w145.cell? ⟨gb2, 0, none⟩ = some (.slice A0_0 l0_0.length c0_0) := (blk_cell BK3.out 0).trans rfl; have hfzb1_0 := blk_frozen BK3.out 0; have hczb1_1 : w145.cell? ⟨gb2, 1, none⟩ = some (.slice A0_1 l0_1.length c0_1) := (blk_cell BK3.out 1).trans rfl; have hfzb1_1 := blk_frozen BK3.out 1; have hczb1_2 : w145.cell? ⟨gb2, 2, none⟩ = some (.slice A0_2 l0_2.length c0_2) := (blk_cell BK3.out 2).trans rfl; have hfzb1_2 := blk_frozen BK3.out 2
  have hczb78_0 : w145.cell? ⟨gb79, 0, none⟩ = some (.slice A70 t55.length c71) := (blk_cell BK80.out 0).trans rfl; have hfzb78_0 := blk_frozen BK80.out 0; have hczb78_1 : w145.cell? ⟨gb79, 1, none⟩ = some (.slice A73 t56.length c74) := (blk_cell BK80.out 1).trans rfl; have hfzb78_1 := blk_frozen BK80.out 1; have hczb78_2 : w145.cell? ⟨gb79, 2, none⟩ = some (.slice A76 t57.length c77) := (blk_cell BK80.out 2).trans rfl; have hfzb78_2 := blk_frozen BK80.out 2
  have hczb110_0 : w145.cell? ⟨gb111, 0, none⟩ = some (.slice A102 t88.length c103) := (blk_cell BK112.out 0).trans rfl; have hfzb110_0 := blk_frozen BK112.out 0; have hczb110_1 : w145.cell? ⟨gb111, 1, none⟩ = some (.slice A105 t89.length c106) := (blk_cell BK112.out 1).trans rfl; have hfzb110_1 := blk_frozen BK112.out 1; have hczb110_2 : w145.cell? ⟨gb111, 2, none⟩ = some (.slice A108 t90.length c109) := (blk_cell BK112.out 2).trans rfl; have hfzb110_2 := blk_frozen BK112.out 2
  clear hb
  have F154 := Aside0.mk (Lk.newR (b := w132.heap.size) (base := w.heap.size) (Sep := fun k_ => some k_ ≠ (v147 : Value).ownBlock ∧ some k_ ≠ (v148 : Value).ownBlock) rfl f149 (HA136.out) (fun k_ hk_ => hk_))
  clear f149
  have F157 := Aside0.mk (Lk.newR (b := w132.heap.size) (base := w.heap.size) (Sep := fun k_ => some k_ ≠ (v146 : Value).ownBlock ∧ some k_ ≠ (v148 : Value).ownBlock) rfl f150 (HA136.out) (fun k_ hk_ => hk_))
  clear f150
  have F160 := Aside0.mk (Lk.newR (b := w132.heap.size) (base := w.heap.size) (Sep := fun k_ => some k_ ≠ (v146 : Value).ownBlock ∧ some k_ ≠ (v147 : Value).ownBlock) rfl f151 (HA136.out) (fun k_ hk_ => hk_))
  clear f151
  obtain ⟨A155, c156, e_⟩ := Kd.R_slice F154.out
  subst e_
  obtain ⟨A158, c159, e_⟩ := Kd.R_slice F157.out
  subst e_
  obtain ⟨A161, c162, e_⟩ := Kd.R_slice F160.out
  subst e_
  go_wp2_with (first | ((with_reducible refine gate_dst (N := 15) rfl ?_); refine box_event ?hg (N := 15) ?hd (cs := #[.slice none 0 0, .slice none 0 0, .slice none 0 0]) (t := 27) ?hr ?_; (case hd => rfl); (case hg => rfl); (case hr => first | (go_simp; done) | (go_simp; rfl)); intro gb164 hg_ w167 hx_ hb; have hg2_ : gb164 = w145.heap.size := hg_; have hq_ : Below w145.heap.size w145 w167 := ⟨hb.os, hb.tape, hb.output, hb.size, hb.block⟩; have HZ168 := Aside0.mk (show w145.heap.size ≤ w167.heap.size from hq_.size); have hn_ := Aside0.mk (below_then HB.out HB.out.size hq_); clear HB; have HB := hn_; clear hn_; have HA169 := Aside0.mk (show w.heap.size ≤ w167.heap.size from HB.out.size); have hn_ := Aside0.mk (Kd.R_below F26.out hq_); clear F26; have F26 := hn_; clear hn_; have hn_ := Aside0.mk (Kd.R_below F29.out hq_); clear F29; have F29 := hn_; clear hn_; have hn_ := Aside0.mk (Kd.S_below F32.out hq_); clear F32; have F32 := hn_; clear hn_; have hn_ := Aside0.mk (Kd.R_below F42.out hq_); clear F42; have F42 := hn_; clear hn_; have hn_ := Aside0.mk (Kd.R_below F52.out hq_); clear F52; have F52 := hn_; clear hn_; have hn_ := Aside0.mk (Kd.R_below F69.out hq_); clear F69; have F69 := hn_; clear hn_; have hn_ := Aside0.mk (Kd.R_below F72.out hq_); clear F72; have F72 := hn_; clear hn_; have hn_ := Aside0.mk (Kd.R_below F75.out hq_); clear F75; have F75 := hn_; clear hn_; have hn_ := Aside0.mk (Kd.R_below F101.out hq_); clear F101; have F101 := hn_; clear hn_; have hn_ := Aside0.mk (Kd.R_below F104.out hq_); clear F104; have F104 := hn_; clear hn_; have hn_ := Aside0.mk (Kd.S_below F107.out hq_); clear F107; have F107 := hn_; clear hn_; have hn_ := Aside0.mk (Kd.R_below F127.out hq_); clear F127; have F127 := hn_; clear hn_; have hn_ := Aside0.mk (Kd.R_below F137.out hq_); clear F137; have F137 := hn_; clear hn_; have hn_ := Aside0.mk (Kd.R_below F154.out hq_); clear F154; have F154 := hn_; clear hn_; have hn_ := Aside0.mk (Kd.R_below F157.out hq_); clear F157; have F157 := hn_; clear hn_; have hn_ := Aside0.mk (Kd.R_below F160.out hq_); clear F160; have F160 := hn_; clear hn_; have hn_ := Aside0.mk (blk_below BK3.out hq_); clear hczb1_0 hfzb1_0; clear hczb1_1 hfzb1_1; clear hczb1_2 hfzb1_2; clear BK3; have BK3 := hn_; clear hn_; have hn_ := Aside0.mk (blk_below BK80.out hq_); clear hczb78_0 hfzb78_0; clear hczb78_1 hfzb78_1; clear hczb78_2 hfzb78_2; clear BK80; have BK80 := hn_; clear hn_; have hn_ := Aside0.mk (blk_below BK112.out hq_); clear hczb110_0 hfzb110_0; clear hczb110_1 hfzb110_1; clear hczb110_2 hfzb110_2; clear BK112; have BK112 := hn_; clear hn_; clear hq_; have hczb1_0 : w167.cell? ⟨gb2, 0, none⟩ = some (.slice A0_0 l0_0.length c0_0) := (blk_cell BK3.out 0).trans rfl; have hfzb1_0 := blk_frozen BK3.out 0; have hczb1_1 : w167.cell? ⟨gb2, 1, none⟩ = some (.slice A0_1 l0_1.length c0_1) := (blk_cell BK3.out 1).trans rfl; have hfzb1_1 := blk_frozen BK3.out 1; have hczb1_2 : w167.cell? ⟨gb2, 2, none⟩ = some (.slice A0_2 l0_2.length c0_2) := (blk_cell BK3.out 2).trans rfl; have hfzb1_2 := blk_frozen BK3.out 2; have hczb78_0 : w167.cell? ⟨gb79, 0, none⟩ = some (.slice A70 t55.length c71) := (blk_cell BK80.out 0).trans rfl; have hfzb78_0 := blk_frozen BK80.out 0; have hczb78_1 : w167.cell? ⟨gb79, 1, none⟩ = some (.slice A73 t56.length c74) := (blk_cell BK80.out 1).trans rfl; have hfzb78_1 := blk_frozen BK80.out 1; have hczb78_2 : w167.cell? ⟨gb79, 2, none⟩ = some (.slice A76 t57.length c77) := (blk_cell BK80.out 2).trans rfl; have hfzb78_2 := blk_frozen BK80.out 2; have hczb110_0 : w167.cell? ⟨gb111, 0, none⟩ = some (.slice A102 t88.length c103) := (blk_cell BK112.out 0).trans rfl; have hfzb110_0 := blk_frozen BK112.out 0; have hczb110_1 : w167.cell? ⟨gb111, 1, none⟩ = some (.slice A105 t89.length c106) := (blk_cell BK112.out 1).trans rfl; have hfzb110_1 := blk_frozen BK112.out 1; have hczb110_2 : w167.cell? ⟨gb111, 2, none⟩ = some (.slice A108 t90.length c109) := (blk_cell BK112.out 2).trans rfl; have hfzb110_2 := blk_frozen BK112.out 2; have BK165 := Aside0.mk hx_; have GQ166 := Aside0.mk (show w145.heap.size ≤ gb164 ∧ gb164 < w167.heap.size from ⟨Nat.le_of_eq hg2_.symm, blk_lt hx_⟩); clear hb hg_ hg2_ hx_; have hczb163_0 : w167.cell? ⟨gb164, 0, none⟩ = some (.slice none 0 0) := (blk_cell BK165.out 0).trans rfl; have hfzb163_0 := blk_frozen BK165.out 0; have hczb163_1 : w167.cell? ⟨gb164, 1, none⟩ = some (.slice none 0 0) := (blk_cell BK165.out 1).trans rfl; have hfzb163_1 := blk_frozen BK165.out 1; have hczb163_2 : w167.cell? ⟨gb164, 2, none⟩ = some (.slice none 0 0) := (blk_cell BK165.out 2).trans rfl; have hfzb163_2 := blk_frozen BK165.out 2) | ((with_reducible refine gate_store (t := 27) (p := 15) rfl ?_); refine store_event (t := 27) (p := 15) (v := ?vo_w170) (w1 := (((w167.setCell ⟨gb164, 0, none⟩ (.slice A155 t140.length c156)).setCell ⟨gb164, 1, none⟩ (.slice A158 t141.length c159)).setCell ⟨gb164, 2, none⟩ (.slice A161 t142.length c162))) ?hg ?ho ?hn ?hr ?_; (case ho => rfl); (case hg => rfl); (case hn => rfl); (case hr => first | (go_simp; done) | (go_simp; rfl)); intro w170 hw_; have hx_ : w170.heap[gb164]? = some (.cells #[(.slice A155 t140.length c156), (.slice A158 t141.length c159), (.slice A161 t142.length c162)] 27 (0, 0)) := (by rw [hw_]; exact Lk.filled (us := [(.slice A155 t140.length c156), (.slice A158 t141.length c159), (.slice A161 t142.length c162)]) BK165.out rfl); have hk2_ : Kept w167 w170 (fun k_ => k_ = gb164) := (by rw [hw_]; exact Lk.fill_kept [(.slice A155 t140.length c156), (.slice A158 t141.length c159), (.slice A161 t142.length c162)] 0 w167); have hB_ := Aside0.mk (show Below w.heap.size w w170 by rw [hw_]; exact Lk.fill_below [(.slice A155 t140.length c156), (.slice A158 t141.length c159), (.slice A161 t142.length c162)] 0 w w167 HB.out (by skip; have := HA153.out; have := GQ166.out; omega)); clear HB; have HB := hB_; clear hB_; have HZ171 := Aside0.mk (show w167.heap.size ≤ w170.heap.size from hk2_.1); have HA172 := Aside0.mk (show w.heap.size ≤ w170.heap.size from HB.out.size); have hn_ := Aside0.mk (Kd.R_kept F26.out hk2_ (fun k_ h1_ h2_ => by skip; have := HZ40.out; have := HZ50.out; have := HZ67.out; have := HZ83.out; have := HZ86.out; have := HZ99.out; have := HZ115.out; have := HZ118.out; have := HZ125.out; have := HZ135.out; have := HZ152.out; have := GQ166.out; have h3_ := h1_.1; omega)); clear F26; have F26 := hn_; clear hn_; have hn_ := Aside0.mk (Kd.R_kept F29.out hk2_ (fun k_ h1_ h2_ => by skip; have := HZ40.out; have := HZ50.out; have := HZ67.out; have := HZ83.out; have := HZ86.out; have := HZ99.out; have := HZ115.out; have := HZ118.out; have := HZ125.out; have := HZ135.out; have := HZ152.out; have := GQ166.out; have h3_ := h1_.1; omega)); clear F29; have F29 := hn_; clear hn_; have hn_ := Aside0.mk (Kd.S_kept F32.out hk2_ (fun k_ h1_ h2_ => by skip; have := HZ40.out; have := HZ50.out; have := HZ67.out; have := HZ83.out; have := HZ86.out; have := HZ99.out; have := HZ115.out; have := HZ118.out; have := HZ125.out; have := HZ135.out; have := HZ152.out; have := GQ166.out; have h3_ := h1_.1; omega)); clear F32; have F32 := hn_; clear hn_; have hn_ := Aside0.mk (Kd.R_kept F42.out hk2_ (fun k_ h1_ h2_ => by skip; have := HZ50.out; have := HZ67.out; have := HZ83.out; have := HZ86.out; have := HZ99.out; have := HZ115.out; have := HZ118.out; have := HZ125.out; have := HZ135.out; have := HZ152.out; have := GQ166.out; have h3_ := h1_.1; omega)); clear F42; have F42 := hn_; clear hn_; have hn_ := Aside0.mk (Kd.R_kept F52.out hk2_ (fun k_ h1_ h2_ => by skip; have := HZ67.out; have := HZ83.out; have := HZ86.out; have := HZ99.out; have := HZ115.out; have := HZ118.out; have := HZ125.out; have := HZ135.out; have := HZ152.out; have := GQ166.out; have h3_ := h1_.1; omega)); clear F52; have F52 := hn_; clear hn_; have hn_ := Aside0.mk (Kd.R_kept F69.out hk2_ (fun k_ h1_ h2_ => by skip; have := HZ83.out; have := HZ86.out; have := HZ99.out; have := HZ115.out; have := HZ118.out; have := HZ125.out; have := HZ135.out; have := HZ152.out; have := GQ166.out; have h3_ := h1_.1; omega)); clear F69; have F69 := hn_; clear hn_; have hn_ := Aside0.mk (Kd.R_kept F72.out hk2_ (fun k_ h1_ h2_ => by skip; have := HZ83.out; have := HZ86.out; have := HZ99.out; have := HZ115.out; have := HZ118.out; have := HZ125.out; have := HZ135.out; have := HZ152.out; have := GQ166.out; have h3_ := h1_.1; omega)); clear F72; have F72 := hn_; clear hn_; have hn_ := Aside0.mk (Kd.R_kept F75.out hk2_ (fun k_ h1_ h2_ => by skip; have := HZ83.out; have := HZ86.out; have := HZ99.out; have := HZ115.out; have := HZ118.out; have := HZ125.out; have := HZ135.out; have := HZ152.out; have := GQ166.out; have h3_ := h1_.1; omega)); clear F75; have F75 := hn_; clear hn_; have hn_ := Aside0.mk (Kd.R_kept F101.out hk2_ (fun k_ h1_ h2_ => by skip; have := HZ115.out; have := HZ118.out; have := HZ125.out; have := HZ135.out; have := HZ152.out; have := GQ166.out; have h3_ := h1_.1; omega)); clear F101; have F101 := hn_; clear hn_; have hn_ := Aside0.mk (Kd.R_kept F104.out hk2_ (fun k_ h1_ h2_ => by skip; have := HZ115.out; have := HZ118.out; have := HZ125.out; have := HZ135.out; have := HZ152.out; have := GQ166.out; have h3_ := h1_.1; omega)); clear F104; have F104 := hn_; clear hn_; have hn_ := Aside0.mk (Kd.S_kept F107.out hk2_ (fun k_ h1_ h2_ => by skip; have := HZ115.out; have := HZ118.out; have := HZ125.out; have := HZ135.out; have := HZ152.out; have := GQ166.out; have h3_ := h1_.1; omega)); clear F107; have F107 := hn_; clear hn_; have hn_ := Aside0.mk (Kd.R_kept F127.out hk2_ (fun k_ h1_ h2_ => by skip; have := HZ135.out; have := HZ152.out; have := GQ166.out; have h3_ := h1_.1; omega)); clear F127; have F127 := hn_; clear hn_; have hn_ := Aside0.mk (Kd.R_kept F137.out hk2_ (fun k_ h1_ h2_ => by skip; have := HZ152.out; have := GQ166.out; have h3_ := h1_.1; omega)); clear F137; have F137 := hn_; clear hn_; have hn_ := Aside0.mk (Kd.R_kept F154.out hk2_ (fun k_ h1_ h2_ => by skip; have := GQ166.out; have h3_ := h1_.1; omega)); clear F154; have F154 := hn_; clear hn_; have hn_ := Aside0.mk (Kd.R_kept F157.out hk2_ (fun k_ h1_ h2_ => by skip; have := GQ166.out; have h3_ := h1_.1; omega)); clear F157; have F157 := hn_; clear hn_; have hn_ := Aside0.mk (Kd.R_kept F160.out hk2_ (fun k_ h1_ h2_ => by skip; have := GQ166.out; have h3_ := h1_.1; omega)); clear F160; have F160 := hn_; clear hn_; clear hczb1_0 hfzb1_0; clear hczb1_1 hfzb1_1; clear hczb1_2 hfzb1_2; have hn_ := Aside0.mk (blk_kept BK3.out hk2_ (fun h_ => by skip; have := HZ11.out; have := HZ24.out; have := HZ40.out; have := HZ50.out; have := HZ67.out; have := HZ83.out; have := HZ86.out; have := HZ99.out; have := HZ115.out; have := HZ118.out; have := HZ125.out; have := HZ135.out; have := HZ152.out; have := GQ166.out; have := GQ4.out; omega)); clear BK3; have BK3 := hn_; clear hn_; clear hczb78_0 hfzb78_0; clear hczb78_1 hfzb78_1; clear hczb78_2 hfzb78_2; have hn_ := Aside0.mk (blk_kept BK80.out hk2_ (fun h_ => by skip; have := HZ86.out; have := HZ99.out; have := HZ115.out; have := HZ118.out; have := HZ125.out; have := HZ135.out; have := HZ152.out; have := GQ166.out; have := GQ81.out; omega)); clear BK80; have BK80 := hn_; clear hn_; clear hczb110_0 hfzb110_0; clear hczb110_1 hfzb110_1; clear hczb110_2 hfzb110_2; have hn_ := Aside0.mk (blk_kept BK112.out hk2_ (fun h_ => by skip; have := HZ118.out; have := HZ125.out; have := HZ135.out; have := HZ152.out; have := GQ166.out; have := GQ113.out; omega)); clear BK112; have BK112 := hn_; clear hn_; clear hczb163_0 hfzb163_0; clear hczb163_1 hfzb163_1; clear hczb163_2 hfzb163_2; clear BK165; have BK165 := Aside0.mk hx_; clear hk2_ hx_ hw_; have hczb1_0 : w170.cell? ⟨gb2, 0, none⟩ = some (.slice A0_0 l0_0.length c0_0) := (blk_cell BK3.out 0).trans rfl; have hfzb1_0 := blk_frozen BK3.out 0; have hczb1_1 : w170.cell? ⟨gb2, 1, none⟩ = some (.slice A0_1 l0_1.length c0_1) := (blk_cell BK3.out 1).trans rfl; have hfzb1_1 := blk_frozen BK3.out 1; have hczb1_2 : w170.cell? ⟨gb2, 2, none⟩ = some (.slice A0_2 l0_2.length c0_2) := (blk_cell BK3.out 2).trans rfl; have hfzb1_2 := blk_frozen BK3.out 2; have hczb78_0 : w170.cell? ⟨gb79, 0, none⟩ = some (.slice A70 t55.length c71) := (blk_cell BK80.out 0).trans rfl; have hfzb78_0 := blk_frozen BK80.out 0; have hczb78_1 : w170.cell? ⟨gb79, 1, none⟩ = some (.slice A73 t56.length c74) := (blk_cell BK80.out 1).trans rfl; have hfzb78_1 := blk_frozen BK80.out 1; have hczb78_2 : w170.cell? ⟨gb79, 2, none⟩ = some (.slice A76 t57.length c77) := (blk_cell BK80.out 2).trans rfl; have hfzb78_2 := blk_frozen BK80.out 2; have hczb110_0 : w170.cell? ⟨gb111, 0, none⟩ = some (.slice A102 t88.length c103) := (blk_cell BK112.out 0).trans rfl; have hfzb110_0 := blk_frozen BK112.out 0; have hczb110_1 : w170.cell? ⟨gb111, 1, none⟩ = some (.slice A105 t89.length c106) := (blk_cell BK112.out 1).trans rfl; have hfzb110_1 := blk_frozen BK112.out 1; have hczb110_2 : w170.cell? ⟨gb111, 2, none⟩ = some (.slice A108 t90.length c109) := (blk_cell BK112.out 2).trans rfl; have hfzb110_2 := blk_frozen BK112.out 2; have hczb163_0 : w170.cell? ⟨gb164, 0, none⟩ = some (.slice A155 t140.length c156) := (blk_cell BK165.out 0).trans rfl; have hfzb163_0 := blk_frozen BK165.out 0; have hczb163_1 : w170.cell? ⟨gb164, 1, none⟩ = some (.slice A158 t141.length c159) := (blk_cell BK165.out 1).trans rfl; have hfzb163_1 := blk_frozen BK165.out 1; have hczb163_2 : w170.cell? ⟨gb164, 2, none⟩ = some (.slice A161 t142.length c162) := (blk_cell BK165.out 2).trans rfl; have hfzb163_2 := blk_frozen BK165.out 2))
  refine (laws_eqFrame.calls k _ _ t140 _ _ t141 _ _ t142 _ _ t55 _ _ t56 _ _ t57 true _ (Lk.Rr F154.out).2 (Lk.Rr F154.out).1 (Lk.Rr F157.out).2 (Lk.Rr F157.out).1 (Lk.Rr F160.out).2 (Lk.Rr F160.out).1 (Lk.Rr F69.out).2 (Lk.Rr F69.out).1 (Lk.Rr F72.out).2 (Lk.Rr F72.out).1 (Lk.Rr F75.out).2 (Lk.Rr F75.out).1 H174.out).mono ?_
  rintro e_ w175 ⟨rfl, hb⟩
  have hq_ : Below w170.heap.size w170 w175 := ⟨hb.os, hb.tape, hb.output, hb.size, hb.block⟩
  have HZ176 := Aside0.mk (show w170.heap.size ≤ w175.heap.size from hq_.size)
  have hn_ := Aside0.mk (below_then HB.out HB.out.size hq_)
  clear HB
  have HB := hn_
  clear hn_
  have HA177 := Aside0.mk (show w.heap.size ≤ w175.heap.size from HB.out.size)
  have hn_ := Aside0.mk (Kd.R_below F26.out hq_)
  clear F26
  have F26 := hn_
  clear hn_
  have hn_ := Aside0.mk (Kd.R_below F29.out hq_)
  clear F29
  have F29 := hn_
  clear hn_
  have hn_ := Aside0.mk (Kd.S_below F32.out hq_)
  clear F32
  have F32 := hn_
  clear hn_
  have hn_ := Aside0.mk (Kd.R_below F42.out hq_)
  clear F42
  have F42 := hn_
  clear hn_
  have hn_ := Aside0.mk (Kd.R_below F52.out hq_)
  clear F52
  have F52 := hn_
  clear hn_
  have hn_ := Aside0.mk (Kd.R_below F69.out hq_)
  clear F69
  have F69 := hn_
  clear hn_
  have hn_ := Aside0.mk (Kd.R_below F72.out hq_)
  clear F72
  have F72 := hn_
  clear hn_
  have hn_ := Aside0.mk (Kd.R_below F75.out hq_)
  clear F75
  have F75 := hn_
  clear hn_
  have hn_ := Aside0.mk (Kd.R_below F101.out hq_)
  clear F101
  have F101 := hn_
  clear hn_
  have hn_ := Aside0.mk (Kd.R_below F104.out hq_)
  clear F104
  have F104 := hn_
  clear hn_
  have hn_ := Aside0.mk (Kd.S_below F107.out hq_)
  clear F107
  have F107 := hn_
  clear hn_
  have hn_ := Aside0.mk (Kd.R_below F127.out hq_)
  clear F127
  have F127 := hn_
  clear hn_
  have hn_ := Aside0.mk (Kd.R_below F137.out hq_)
  clear F137
  have F137 := hn_
  clear hn_
  have hn_ := Aside0.mk (Kd.R_below F154.out hq_)
  clear F154
  have F154 := hn_
  clear hn_
  have hn_ := Aside0.mk (Kd.R_below F157.out hq_)
  clear F157
  have F157 := hn_
  clear hn_
  have hn_ := Aside0.mk (Kd.R_below F160.out hq_)
  clear F160
  have F160 := hn_
  clear hn_
  have hn_ := Aside0.mk (blk_below BK3.out hq_)
  clear hczb1_0 hfzb1_0; clear hczb1_1 hfzb1_1; clear hczb1_2 hfzb1_2
  clear BK3
  have BK3 := hn_
  clear hn_
  have hn_ := Aside0.mk (blk_below BK80.out hq_)
  clear hczb78_0 hfzb78_0; clear hczb78_1 hfzb78_1; clear hczb78_2 hfzb78_2
  clear BK80
  have BK80 := hn_
  clear hn_
  have hn_ := Aside0.mk (blk_below BK112.out hq_)
  clear hczb110_0 hfzb110_0; clear hczb110_1 hfzb110_1; clear hczb110_2 hfzb110_2
  clear BK112
  have BK112 := hn_
  clear hn_
  have hn_ := Aside0.mk (blk_below BK165.out hq_)
  clear hczb163_0 hfzb163_0; clear hczb163_1 hfzb163_1; clear hczb163_2 hfzb163_2
  clear BK165
  have BK165 := hn_
  clear hn_
  clear hq_
  have hczb1_0 : w175.cell? ⟨gb2, 0, none⟩ = some (.slice A0_0 l0_0.length c0_0) := (blk_cell BK3.out 0).trans rfl; have hfzb1_0 := blk_frozen BK3.out 0; have hczb1_1 : w175.cell? ⟨gb2, 1, none⟩ = some (.slice A0_1 l0_1.length c0_1) := (blk_cell BK3.out 1).trans rfl; have hfzb1_1 := blk_frozen BK3.out 1; have hczb1_2 : w175.cell? ⟨gb2, 2, none⟩ = some (.slice A0_2 l0_2.length c0_2) := (blk_cell BK3.out 2).trans rfl; have hfzb1_2 := blk_frozen BK3.out 2
  have hczb78_0 : w175.cell? ⟨gb79, 0, none⟩ = some (.slice A70 t55.length c71) := (blk_cell BK80.out 0).trans rfl; have hfzb78_0 := blk_frozen BK80.out 0; have hczb78_1 : w175.cell? ⟨gb79, 1, none⟩ = some (.slice A73 t56.length c74) := (blk_cell BK80.out 1).trans rfl; have hfzb78_1 := blk_frozen BK80.out 1; have hczb78_2 : w175.cell? ⟨gb79, 2, none⟩ = some (.slice A76 t57.length c77) := (blk_cell BK80.out 2).trans rfl; have hfzb78_2 := blk_frozen BK80.out 2
  have hczb110_0 : w175.cell? ⟨gb111, 0, none⟩ = some (.slice A102 t88.length c103) := (blk_cell BK112.out 0).trans rfl; have hfzb110_0 := blk_frozen BK112.out 0; have hczb110_1 : w175.cell? ⟨gb111, 1, none⟩ = some (.slice A105 t89.length c106) := (blk_cell BK112.out 1).trans rfl; have hfzb110_1 := blk_frozen BK112.out 1; have hczb110_2 : w175.cell? ⟨gb111, 2, none⟩ = some (.slice A108 t90.length c109) := (blk_cell BK112.out 2).trans rfl; have hfzb110_2 := blk_frozen BK112.out 2
  have hczb163_0 : w175.cell? ⟨gb164, 0, none⟩ = some (.slice A155 t140.length c156) := (blk_cell BK165.out 0).trans rfl; have hfzb163_0 := blk_frozen BK165.out 0; have hczb163_1 : w175.cell? ⟨gb164, 1, none⟩ = some (.slice A158 t141.length c159) := (blk_cell BK165.out 1).trans rfl; have hfzb163_1 := blk_frozen BK165.out 1; have hczb163_2 : w175.cell? ⟨gb164, 2, none⟩ = some (.slice A161 t142.length c162) := (blk_cell BK165.out 2).trans rfl; have hfzb163_2 := blk_frozen BK165.out 2
  clear hb
  go_wp2_with fail
  have hb : Below w175.heap.size w175 w175.drew := below_drew (Below.refl _ _)
  obtain ⟨w178, hw_⟩ : ∃ w178, w175.drew = w178 := ⟨_, rfl⟩
  rw [hw_] at hb
  have hq_ : Below w175.heap.size w175 w178 := ⟨hb.os, hb.tape, hb.output, hb.size, hb.block⟩
  have HZ179 := Aside0.mk (show w175.heap.size ≤ w178.heap.size from hq_.size)
  have hn_ := Aside0.mk (below_then HB.out HB.out.size hq_)
  clear HB
  have HB := hn_
  clear hn_
  have HA180 := Aside0.mk (show w.heap.size ≤ w178.heap.size from HB.out.size)
  have hn_ := Aside0.mk (Kd.R_below F26.out hq_)
  clear F26
  have F26 := hn_
  clear hn_
  have hn_ := Aside0.mk (Kd.R_below F29.out hq_)
  clear F29
  have F29 := hn_
  clear hn_
  have hn_ := Aside0.mk (Kd.S_below F32.out hq_)
  clear F32
  have F32 := hn_
  clear hn_
  have hn_ := Aside0.mk (Kd.R_below F42.out hq_)
  clear F42
  have F42 := hn_
  clear hn_
  have hn_ := Aside0.mk (Kd.R_below F52.out hq_)
  clear F52
  have F52 := hn_
  clear hn_
  have hn_ := Aside0.mk (Kd.R_below F69.out hq_)
  clear F69
  have F69 := hn_
  clear hn_
  have hn_ := Aside0.mk (Kd.R_below F72.out hq_)
  clear F72
  have F72 := hn_
  clear hn_
  have hn_ := Aside0.mk (Kd.R_below F75.out hq_)
  clear F75
  have F75 := hn_
  clear hn_
  have hn_ := Aside0.mk (Kd.R_below F101.out hq_)
  clear F101
  have F101 := hn_
  clear hn_
  have hn_ := Aside0.mk (Kd.R_below F104.out hq_)
  clear F104
  have F104 := hn_
  clear hn_
  have hn_ := Aside0.mk (Kd.S_below F107.out hq_)
  clear F107
  have F107 := hn_
  clear hn_
  have hn_ := Aside0.mk (Kd.R_below F127.out hq_)
  clear F127
  have F127 := hn_
  clear hn_
  have hn_ := Aside0.mk (Kd.R_below F137.out hq_)
  clear F137
  have F137 := hn_
  clear hn_
  have hn_ := Aside0.mk (Kd.R_below F154.out hq_)
  clear F154
  have F154 := hn_
  clear hn_
  have hn_ := Aside0.mk (Kd.R_below F157.out hq_)
  clear F157
  have F157 := hn_
  clear hn_
  have hn_ := Aside0.mk (Kd.R_below F160.out hq_)
  clear F160
  have F160 := hn_
  clear hn_
  have hn_ := Aside0.mk (blk_below BK3.out hq_)
  clear hczb1_0 hfzb1_0; clear hczb1_1 hfzb1_1; clear hczb1_2 hfzb1_2
  clear BK3
  have BK3 := hn_
  clear hn_
  have hn_ := Aside0.mk (blk_below BK80.out hq_)
  clear hczb78_0 hfzb78_0; clear hczb78_1 hfzb78_1; clear hczb78_2 hfzb78_2
  clear BK80
  have BK80 := hn_
  clear hn_
  have hn_ := Aside0.mk (blk_below BK112.out hq_)
  clear hczb110_0 hfzb110_0; clear hczb110_1 hfzb110_1; clear hczb110_2 hfzb110_2
  clear BK112
  have BK112 := hn_
  clear hn_
  have hn_ := Aside0.mk (blk_below BK165.out hq_)
  clear hczb163_0 hfzb163_0; clear hczb163_1 hfzb163_1; clear hczb163_2 hfzb163_2
  clear BK165
  have BK165 := hn_
  clear hn_
  clear hq_
  have hczb1_0 : w178.cell? ⟨gb2, 0, none⟩ = some (.slice A0_0 l0_0.length c0_0) := (blk_cell BK3.out 0).trans rfl; have hfzb1_0 := blk_frozen BK3.out 0; have hczb1_1 : w178.cell? ⟨gb2, 1, none⟩ = some (.slice A0_1 l0_1.length c0_1) := (blk_cell BK3.out 1).trans rfl; have hfzb1_1 := blk_frozen BK3.out 1; have hczb1_2 : w178.cell? ⟨gb2, 2, none⟩ = some (.slice A0_2 l0_2.length c0_2) := (blk_cell BK3.out 2).trans rfl; have hfzb1_2 := blk_frozen BK3.out 2
  have hczb78_0 : w178.cell? ⟨gb79, 0, none⟩ = some (.slice A70 t55.length c71) := (blk_cell BK80.out 0).trans rfl; have hfzb78_0 := blk_frozen BK80.out 0; have hczb78_1 : w178.cell? ⟨gb79, 1, none⟩ = some (.slice A73 t56.length c74) := (blk_cell BK80.out 1).trans rfl; have hfzb78_1 := blk_frozen BK80.out 1; have hczb78_2 : w178.cell? ⟨gb79, 2, none⟩ = some (.slice A76 t57.length c77) := (blk_cell BK80.out 2).trans rfl; have hfzb78_2 := blk_frozen BK80.out 2
  have hczb110_0 : w178.cell? ⟨gb111, 0, none⟩ = some (.slice A102 t88.length c103) := (blk_cell BK112.out 0).trans rfl; have hfzb110_0 := blk_frozen BK112.out 0; have hczb110_1 : w178.cell? ⟨gb111, 1, none⟩ = some (.slice A105 t89.length c106) := (blk_cell BK112.out 1).trans rfl; have hfzb110_1 := blk_frozen BK112.out 1; have hczb110_2 : w178.cell? ⟨gb111, 2, none⟩ = some (.slice A108 t90.length c109) := (blk_cell BK112.out 2).trans rfl; have hfzb110_2 := blk_frozen BK112.out 2
  have hczb163_0 : w178.cell? ⟨gb164, 0, none⟩ = some (.slice A155 t140.length c156) := (blk_cell BK165.out 0).trans rfl; have hfzb163_0 := blk_frozen BK165.out 0; have hczb163_1 : w178.cell? ⟨gb164, 1, none⟩ = some (.slice A158 t141.length c159) := (blk_cell BK165.out 1).trans rfl; have hfzb163_1 := blk_frozen BK165.out 1; have hczb163_2 : w178.cell? ⟨gb164, 2, none⟩ = some (.slice A161 t142.length c162) := (blk_cell BK165.out 2).trans rfl; have hfzb163_2 := blk_frozen BK165.out 2
  refine start_ (n := 5) (S := fun w' => w'.cell? ⟨gb111, 0, none⟩ = some (.slice A102 t88.length c103) ∧ w'.cell? ⟨gb111, 1, none⟩ = some (.slice A105 t89.length c106) ∧ w'.cell? ⟨gb111, 2, none⟩ = some (.slice A108 t90.length c109) ∧ w'.cell? ⟨gb2, 0, none⟩ = some (.slice A0_0 l0_0.length c0_0) ∧ w'.cell? ⟨gb2, 1, none⟩ = some (.slice A0_1 l0_1.length c0_1) ∧ w'.cell? ⟨gb2, 2, none⟩ = some (.slice A0_2 l0_2.length c0_2)) (ds := []) #[false, false, false, false, false] (by kernel_rfl) rfl rfl (by rw [hw_]; exact ⟨(blk_cell BK112.out 0).trans rfl, (blk_cell BK112.out 1).trans rfl, (blk_cell BK112.out 2).trans rfl, (blk_cell BK3.out 0).trans rfl, (blk_cell BK3.out 1).trans rfl, (blk_cell BK3.out 2).trans rfl⟩) (fun hHeld => ?_)
  rw [hw_] at hHeld ⊢
  clear hw_ hb
  refine take_ (i := 0) (N := some 67) (v := ?_) (a' := ?_) #[true, false, false, false, false] rfl rfl (by kernel_rfl) (fun _ _ _ h => h) (Or.inl ⟨by rfl, ?_⟩) hHeld ?_ ?_
  rotate_left
  · rintro w' ⟨s0, s1, s2, s3, s4, s5⟩
    go_simp
    with_reducible rfl
  rotate_left
  · simp only [Act.put, List.setIfInBounds_toArray, List.set_cons_zero, List.set_cons_succ, i64_w, i32_w]
    rfl
  refine take_ (i := 1) (N := some 68) (v := ?_) (a' := ?_) #[true, true, false, false, false] rfl rfl (by kernel_rfl) (fun _ _ _ h => h) (Or.inl ⟨by rfl, ?_⟩) hHeld ?_ ?_
  rotate_left
  · rintro w' ⟨s0, s1, s2, s3, s4, s5⟩
    go_simp
    with_reducible rfl
  rotate_left
  · simp only [Act.put, List.setIfInBounds_toArray, List.set_cons_zero, List.set_cons_succ, i64_w, i32_w]
    rfl
  refine one_ (i := 2) (N := some 69) #[true, true, true, false, false] rfl rfl (by kernel_rfl) (by decide) (fun K hK => ?_)
  refine goes_ Try.func29 (by kernel_rfl) rfl #[.agg #[.slice A0_0 l0_0.length c0_0, .slice A0_1 l0_1.length c0_1, .slice A0_2 l0_2.length c0_2]] (by rfl) rfl rfl (by (try simp only [List.map_toArray, List.map_cons, List.map_nil]); first | done | rfl | (simp only [List.length_drop, List.length_take]; rfl)) ?_
  refine (laws_toTranslated.calls k _ _ l0_0 _ _ l0_1 _ _ l0_2 t181 t182 t183 _ (Kd.C_below HR0_0.out HB.out) HC0_0.out (Kd.C_below HR0_1.out HB.out) HC0_1.out (Kd.C_below HR0_2.out HB.out) HC0_2.out H184.out).mono ?_
  rintro e_ w185 ⟨v186, v187, v188, rfl, f189, f190, f191, hb⟩
  have hq_ : Below w178.heap.size w178 w185 := ⟨hb.os, hb.tape, hb.output, hb.size, hb.block⟩
  have HZ192 := Aside0.mk (show w178.heap.size ≤ w185.heap.size from hq_.size)
  have hn_ := Aside0.mk (below_then HB.out HB.out.size hq_)
  clear HB
  have HB := hn_
  clear hn_
  have HA193 := Aside0.mk (show w.heap.size ≤ w185.heap.size from HB.out.size)
  have hn_ := Aside0.mk (Kd.R_below F26.out hq_)
  clear F26
  have F26 := hn_
  clear hn_
  have hn_ := Aside0.mk (Kd.R_below F29.out hq_)
  clear F29
  have F29 := hn_
  clear hn_
  have hn_ := Aside0.mk (Kd.S_below F32.out hq_)
  clear F32
  have F32 := hn_
  clear hn_
  have hn_ := Aside0.mk (Kd.R_below F42.out hq_)
  clear F42
  have F42 := hn_
  clear hn_
  have hn_ := Aside0.mk (Kd.R_below F52.out hq_)
  clear F52
  have F52 := hn_
  clear hn_
  have hn_ := Aside0.mk (Kd.R_below F69.out hq_)
  clear F69
  have F69 := hn_
  clear hn_
  have hn_ := Aside0.mk (Kd.R_below F72.out hq_)
  clear F72
  have F72 := hn_
  clear hn_
  have hn_ := Aside0.mk (Kd.R_below F75.out hq_)
  clear F75
  have F75 := hn_
  clear hn_
  have hn_ := Aside0.mk (Kd.R_below F101.out hq_)
  clear F101
  have F101 := hn_
  clear hn_
  have hn_ := Aside0.mk (Kd.R_below F104.out hq_)
  clear F104
  have F104 := hn_
  clear hn_
  have hn_ := Aside0.mk (Kd.S_below F107.out hq_)
  clear F107
  have F107 := hn_
  clear hn_
  have hn_ := Aside0.mk (Kd.R_below F127.out hq_)
  clear F127
  have F127 := hn_
  clear hn_
  have hn_ := Aside0.mk (Kd.R_below F137.out hq_)
  clear F137
  have F137 := hn_
  clear hn_
  have hn_ := Aside0.mk (Kd.R_below F154.out hq_)
  clear F154
  have F154 := hn_
  clear hn_
  have hn_ := Aside0.mk (Kd.R_below F157.out hq_)
  clear F157
  have F157 := hn_
  clear hn_
  have hn_ := Aside0.mk (Kd.R_below F160.out hq_)
  clear F160
  have F160 := hn_
  clear hn_
  have hn_ := Aside0.mk (blk_below BK3.out hq_)
  clear hczb1_0 hfzb1_0; clear hczb1_1 hfzb1_1; clear hczb1_2 hfzb1_2
  clear BK3
  have BK3 := hn_
  clear hn_
  have hn_ := Aside0.mk (blk_below BK80.out hq_)
  clear hczb78_0 hfzb78_0; clear hczb78_1 hfzb78_1; clear hczb78_2 hfzb78_2
  clear BK80
  have BK80 := hn_
  clear hn_
  have hn_ := Aside0.mk (blk_below BK112.out hq_)
  clear hczb110_0 hfzb110_0; clear hczb110_1 hfzb110_1; clear hczb110_2 hfzb110_2
  clear BK112
  have BK112 := hn_
  clear hn_
  have hn_ := Aside0.mk (blk_below BK165.out hq_)
  clear hczb163_0 hfzb163_0; clear hczb163_1 hfzb163_1; clear hczb163_2 hfzb163_2
  clear BK165
  have BK165 := hn_
  clear hn_
  clear hq_
  have hczb1_0 : w185.cell? ⟨gb2, 0, none⟩ = some (.slice A0_0 l0_0.length c0_0) := (blk_cell BK3.out 0).trans rfl; have hfzb1_0 := blk_frozen BK3.out 0; have hczb1_1 : w185.cell? ⟨gb2, 1, none⟩ = some (.slice A0_1 l0_1.length c0_1) := (blk_cell BK3.out 1).trans rfl; have hfzb1_1 := blk_frozen BK3.out 1; have hczb1_2 : w185.cell? ⟨gb2, 2, none⟩ = some (.slice A0_2 l0_2.length c0_2) := (blk_cell BK3.out 2).trans rfl; have hfzb1_2 := blk_frozen BK3.out 2
  have hczb78_0 : w185.cell? ⟨gb79, 0, none⟩ = some (.slice A70 t55.length c71) := (blk_cell BK80.out 0).trans rfl; have hfzb78_0 := blk_frozen BK80.out 0; have hczb78_1 : w185.cell? ⟨gb79, 1, none⟩ = some (.slice A73 t56.length c74) := (blk_cell BK80.out 1).trans rfl; have hfzb78_1 := blk_frozen BK80.out 1; have hczb78_2 : w185.cell? ⟨gb79, 2, none⟩ = some (.slice A76 t57.length c77) := (blk_cell BK80.out 2).trans rfl; have hfzb78_2 := blk_frozen BK80.out 2
  have hczb110_0 : w185.cell? ⟨gb111, 0, none⟩ = some (.slice A102 t88.length c103) := (blk_cell BK112.out 0).trans rfl; have hfzb110_0 := blk_frozen BK112.out 0; have hczb110_1 : w185.cell? ⟨gb111, 1, none⟩ = some (.slice A105 t89.length c106) := (blk_cell BK112.out 1).trans rfl; have hfzb110_1 := blk_frozen BK112.out 1; have hczb110_2 : w185.cell? ⟨gb111, 2, none⟩ = some (.slice A108 t90.length c109) := (blk_cell BK112.out 2).trans rfl; have hfzb110_2 := blk_frozen BK112.out 2
  have hczb163_0 : w185.cell? ⟨gb164, 0, none⟩ = some (.slice A155 t140.length c156) := (blk_cell BK165.out 0).trans rfl; have hfzb163_0 := blk_frozen BK165.out 0; have hczb163_1 : w185.cell? ⟨gb164, 1, none⟩ = some (.slice A158 t141.length c159) := (blk_cell BK165.out 1).trans rfl; have hfzb163_1 := blk_frozen BK165.out 1; have hczb163_2 : w185.cell? ⟨gb164, 2, none⟩ = some (.slice A161 t142.length c162) := (blk_cell BK165.out 2).trans rfl; have hfzb163_2 := blk_frozen BK165.out 2
  clear hb
  refine ⟨_, rfl, ?_⟩
  have F194 := Aside0.mk (Lk.newR (b := w178.heap.size) (base := w.heap.size) (Sep := fun k_ => True) rfl f189 (HA180.out) (fun k_ hk_ => hk_))
  clear f189
  have F197 := Aside0.mk (Lk.newR (b := w178.heap.size) (base := w.heap.size) (Sep := fun k_ => True) rfl f190 (HA180.out) (fun k_ hk_ => hk_))
  clear f190
  have F200 := Aside0.mk (Lk.newS (b := w178.heap.size) (base := w.heap.size) (Sep := fun k_ => True) f191 (HA180.out) (fun k_ hk_ => hk_))
  clear f191
  obtain ⟨A195, c196, e_⟩ := Kd.R_slice F194.out
  subst e_
  obtain ⟨A198, c199, e_⟩ := Kd.R_slice F197.out
  subst e_
  obtain ⟨A201, c202, e_⟩ := Kd.S_slice F200.out
  subst e_
  refine hK.out _ _ ⟨(blk_cell BK112.out 0).trans rfl, (blk_cell BK112.out 1).trans rfl, (blk_cell BK112.out 2).trans rfl, (blk_cell BK3.out 0).trans rfl, (blk_cell BK3.out 1).trans rfl, (blk_cell BK3.out 2).trans rfl⟩ (fun hHeld => ?_)
  clear hK K
  refine norm_ (a' := ?_) ?_ ?_
  rotate_left
  · show Act.put _ (some 69) _ = _
    simp only [Act.put, List.setIfInBounds_toArray, List.set_cons_zero, List.set_cons_succ, i64_w, i32_w]
    rfl
  refine one_ (i := 3) (N := some 70) #[true, true, true, true, false] rfl rfl (by kernel_rfl) (by decide) (fun K hK => ?_)
  refine goes_ Try.func32 (by kernel_rfl) rfl #[.agg #[.slice A102 t88.length c103, .slice A105 t89.length c106, .slice A108 t90.length c109], .agg #[.slice A195 t181.length c196, .slice A198 t182.length c199, .slice A201 t183.length c202]] (by rfl) rfl rfl (by (try simp only [List.map_toArray, List.map_cons, List.map_nil]); first | done | rfl | (simp only [List.length_drop, List.length_take]; rfl)) ?_
  refine (laws_eqTranslated.calls k _ _ t88 _ _ t89 _ _ t90 _ _ t181 _ _ t182 _ _ t183 true _ (Lk.Rr F101.out).2 (Lk.Rr F101.out).1 (Lk.Rr F104.out).2 (Lk.Rr F104.out).1 (Lk.Sr F107.out).2 (Lk.Sr F107.out).1 (Lk.Rr F194.out).2 (Lk.Rr F194.out).1 (Lk.Rr F197.out).2 (Lk.Rr F197.out).1 (Lk.Sr F200.out).2 (Lk.Sr F200.out).1 H204.out).mono ?_
  rintro e_ w205 ⟨rfl, hb⟩
  have hq_ : Below w185.heap.size w185 w205 := ⟨hb.os, hb.tape, hb.output, hb.size, hb.block⟩
  have HZ206 := Aside0.mk (show w185.heap.size ≤ w205.heap.size from hq_.size)
  have hn_ := Aside0.mk (below_then HB.out HB.out.size hq_)
  clear HB
  have HB := hn_
  clear hn_
  have HA207 := Aside0.mk (show w.heap.size ≤ w205.heap.size from HB.out.size)
  have hn_ := Aside0.mk (Kd.R_below F26.out hq_)
  clear F26
  have F26 := hn_
  clear hn_
  have hn_ := Aside0.mk (Kd.R_below F29.out hq_)
  clear F29
  have F29 := hn_
  clear hn_
  have hn_ := Aside0.mk (Kd.S_below F32.out hq_)
  clear F32
  have F32 := hn_
  clear hn_
  have hn_ := Aside0.mk (Kd.R_below F42.out hq_)
  clear F42
  have F42 := hn_
  clear hn_
  have hn_ := Aside0.mk (Kd.R_below F52.out hq_)
  clear F52
  have F52 := hn_
  clear hn_
  have hn_ := Aside0.mk (Kd.R_below F69.out hq_)
  clear F69
  have F69 := hn_
  clear hn_
  have hn_ := Aside0.mk (Kd.R_below F72.out hq_)
  clear F72
  have F72 := hn_
  clear hn_
  have hn_ := Aside0.mk (Kd.R_below F75.out hq_)
  clear F75
  have F75 := hn_
  clear hn_
  have hn_ := Aside0.mk (Kd.R_below F101.out hq_)
  clear F101
  have F101 := hn_
  clear hn_
  have hn_ := Aside0.mk (Kd.R_below F104.out hq_)
  clear F104
  have F104 := hn_
  clear hn_
  have hn_ := Aside0.mk (Kd.S_below F107.out hq_)
  clear F107
  have F107 := hn_
  clear hn_
  have hn_ := Aside0.mk (Kd.R_below F127.out hq_)
  clear F127
  have F127 := hn_
  clear hn_
  have hn_ := Aside0.mk (Kd.R_below F137.out hq_)
  clear F137
  have F137 := hn_
  clear hn_
  have hn_ := Aside0.mk (Kd.R_below F154.out hq_)
  clear F154
  have F154 := hn_
  clear hn_
  have hn_ := Aside0.mk (Kd.R_below F157.out hq_)
  clear F157
  have F157 := hn_
  clear hn_
  have hn_ := Aside0.mk (Kd.R_below F160.out hq_)
  clear F160
  have F160 := hn_
  clear hn_
  have hn_ := Aside0.mk (Kd.R_below F194.out hq_)
  clear F194
  have F194 := hn_
  clear hn_
  have hn_ := Aside0.mk (Kd.R_below F197.out hq_)
  clear F197
  have F197 := hn_
  clear hn_
  have hn_ := Aside0.mk (Kd.S_below F200.out hq_)
  clear F200
  have F200 := hn_
  clear hn_
  have hn_ := Aside0.mk (blk_below BK3.out hq_)
  clear hczb1_0 hfzb1_0; clear hczb1_1 hfzb1_1; clear hczb1_2 hfzb1_2
  clear BK3
  have BK3 := hn_
  clear hn_
  have hn_ := Aside0.mk (blk_below BK80.out hq_)
  clear hczb78_0 hfzb78_0; clear hczb78_1 hfzb78_1; clear hczb78_2 hfzb78_2
  clear BK80
  have BK80 := hn_
  clear hn_
  have hn_ := Aside0.mk (blk_below BK112.out hq_)
  clear hczb110_0 hfzb110_0; clear hczb110_1 hfzb110_1; clear hczb110_2 hfzb110_2
  clear BK112
  have BK112 := hn_
  clear hn_
  have hn_ := Aside0.mk (blk_below BK165.out hq_)
  clear hczb163_0 hfzb163_0; clear hczb163_1 hfzb163_1; clear hczb163_2 hfzb163_2
  clear BK165
  have BK165 := hn_
  clear hn_
  clear hq_
  have hczb1_0 : w205.cell? ⟨gb2, 0, none⟩ = some (.slice A0_0 l0_0.length c0_0) := (blk_cell BK3.out 0).trans rfl; have hfzb1_0 := blk_frozen BK3.out 0; have hczb1_1 : w205.cell? ⟨gb2, 1, none⟩ = some (.slice A0_1 l0_1.length c0_1) := (blk_cell BK3.out 1).trans rfl; have hfzb1_1 := blk_frozen BK3.out 1; have hczb1_2 : w205.cell? ⟨gb2, 2, none⟩ = some (.slice A0_2 l0_2.length c0_2) := (blk_cell BK3.out 2).trans rfl; have hfzb1_2 := blk_frozen BK3.out 2
  have hczb78_0 : w205.cell? ⟨gb79, 0, none⟩ = some (.slice A70 t55.length c71) := (blk_cell BK80.out 0).trans rfl; have hfzb78_0 := blk_frozen BK80.out 0; have hczb78_1 : w205.cell? ⟨gb79, 1, none⟩ = some (.slice A73 t56.length c74) := (blk_cell BK80.out 1).trans rfl; have hfzb78_1 := blk_frozen BK80.out 1; have hczb78_2 : w205.cell? ⟨gb79, 2, none⟩ = some (.slice A76 t57.length c77) := (blk_cell BK80.out 2).trans rfl; have hfzb78_2 := blk_frozen BK80.out 2
  have hczb110_0 : w205.cell? ⟨gb111, 0, none⟩ = some (.slice A102 t88.length c103) := (blk_cell BK112.out 0).trans rfl; have hfzb110_0 := blk_frozen BK112.out 0; have hczb110_1 : w205.cell? ⟨gb111, 1, none⟩ = some (.slice A105 t89.length c106) := (blk_cell BK112.out 1).trans rfl; have hfzb110_1 := blk_frozen BK112.out 1; have hczb110_2 : w205.cell? ⟨gb111, 2, none⟩ = some (.slice A108 t90.length c109) := (blk_cell BK112.out 2).trans rfl; have hfzb110_2 := blk_frozen BK112.out 2
  have hczb163_0 : w205.cell? ⟨gb164, 0, none⟩ = some (.slice A155 t140.length c156) := (blk_cell BK165.out 0).trans rfl; have hfzb163_0 := blk_frozen BK165.out 0; have hczb163_1 : w205.cell? ⟨gb164, 1, none⟩ = some (.slice A158 t141.length c159) := (blk_cell BK165.out 1).trans rfl; have hfzb163_1 := blk_frozen BK165.out 1; have hczb163_2 : w205.cell? ⟨gb164, 2, none⟩ = some (.slice A161 t142.length c162) := (blk_cell BK165.out 2).trans rfl; have hfzb163_2 := blk_frozen BK165.out 2
  clear hb
  refine ⟨_, rfl, ?_⟩
  refine hK.out _ _ ⟨(blk_cell BK112.out 0).trans rfl, (blk_cell BK112.out 1).trans rfl, (blk_cell BK112.out 2).trans rfl, (blk_cell BK3.out 0).trans rfl, (blk_cell BK3.out 1).trans rfl, (blk_cell BK3.out 2).trans rfl⟩ (fun hHeld => ?_)
  clear hK K
  refine norm_ (a' := ?_) ?_ ?_
  rotate_left
  · show Act.put _ (some 70) _ = _
    simp only [Act.put, List.setIfInBounds_toArray, List.set_cons_zero, List.set_cons_succ, i64_w, i32_w]
    rfl
  refine pure_ (i := 4) (N := some 71) (v := ?_) (a' := ?_) #[true, true, true, true, true] rfl rfl (by kernel_rfl) (fun _ _ _ h => h) (Or.inl ⟨by rfl, ?_⟩) ?_ ?_
  rotate_left
  · intro w'
    go_simp
    with_reducible rfl
  rotate_left
  · simp only [Act.put, List.setIfInBounds_toArray, List.set_cons_zero, List.set_cons_succ, i64_w, i32_w]
    rfl
  refine done_ (by kernel_rfl) ?_
  go_wp2_with fail
  refine (laws_toIntS.calls k _ _ l2 t208 _ (Kd.C_below HR2.out HB.out) HC2.out H209.out).mono ?_
  rintro e_ w210 ⟨v211, rfl, f212, hb⟩
  have hq_ : Below w205.heap.size w205 w210 := ⟨hb.os, hb.tape, hb.output, hb.size, hb.block⟩
  have HZ213 := Aside0.mk (show w205.heap.size ≤ w210.heap.size from hq_.size)
  have hn_ := Aside0.mk (below_then HB.out HB.out.size hq_)
  clear HB
  have HB := hn_
  clear hn_
  have HA214 := Aside0.mk (show w.heap.size ≤ w210.heap.size from HB.out.size)
  have hn_ := Aside0.mk (Kd.R_below F26.out hq_)
  clear F26
  have F26 := hn_
  clear hn_
  have hn_ := Aside0.mk (Kd.R_below F29.out hq_)
  clear F29
  have F29 := hn_
  clear hn_
  have hn_ := Aside0.mk (Kd.S_below F32.out hq_)
  clear F32
  have F32 := hn_
  clear hn_
  have hn_ := Aside0.mk (Kd.R_below F42.out hq_)
  clear F42
  have F42 := hn_
  clear hn_
  have hn_ := Aside0.mk (Kd.R_below F52.out hq_)
  clear F52
  have F52 := hn_
  clear hn_
  have hn_ := Aside0.mk (Kd.R_below F69.out hq_)
  clear F69
  have F69 := hn_
  clear hn_
  have hn_ := Aside0.mk (Kd.R_below F72.out hq_)
  clear F72
  have F72 := hn_
  clear hn_
  have hn_ := Aside0.mk (Kd.R_below F75.out hq_)
  clear F75
  have F75 := hn_
  clear hn_
  have hn_ := Aside0.mk (Kd.R_below F101.out hq_)
  clear F101
  have F101 := hn_
  clear hn_
  have hn_ := Aside0.mk (Kd.R_below F104.out hq_)
  clear F104
  have F104 := hn_
  clear hn_
  have hn_ := Aside0.mk (Kd.S_below F107.out hq_)
  clear F107
  have F107 := hn_
  clear hn_
  have hn_ := Aside0.mk (Kd.R_below F127.out hq_)
  clear F127
  have F127 := hn_
  clear hn_
  have hn_ := Aside0.mk (Kd.R_below F137.out hq_)
  clear F137
  have F137 := hn_
  clear hn_
  have hn_ := Aside0.mk (Kd.R_below F154.out hq_)
  clear F154
  have F154 := hn_
  clear hn_
  have hn_ := Aside0.mk (Kd.R_below F157.out hq_)
  clear F157
  have F157 := hn_
  clear hn_
  have hn_ := Aside0.mk (Kd.R_below F160.out hq_)
  clear F160
  have F160 := hn_
  clear hn_
  have hn_ := Aside0.mk (Kd.R_below F194.out hq_)
  clear F194
  have F194 := hn_
  clear hn_
  have hn_ := Aside0.mk (Kd.R_below F197.out hq_)
  clear F197
  have F197 := hn_
  clear hn_
  have hn_ := Aside0.mk (Kd.S_below F200.out hq_)
  clear F200
  have F200 := hn_
  clear hn_
  have hn_ := Aside0.mk (blk_below BK3.out hq_)
  clear hczb1_0 hfzb1_0; clear hczb1_1 hfzb1_1; clear hczb1_2 hfzb1_2
  clear BK3
  have BK3 := hn_
  clear hn_
  have hn_ := Aside0.mk (blk_below BK80.out hq_)
  clear hczb78_0 hfzb78_0; clear hczb78_1 hfzb78_1; clear hczb78_2 hfzb78_2
  clear BK80
  have BK80 := hn_
  clear hn_
  have hn_ := Aside0.mk (blk_below BK112.out hq_)
  clear hczb110_0 hfzb110_0; clear hczb110_1 hfzb110_1; clear hczb110_2 hfzb110_2
  clear BK112
  have BK112 := hn_
  clear hn_
  have hn_ := Aside0.mk (blk_below BK165.out hq_)
  clear hczb163_0 hfzb163_0; clear hczb163_1 hfzb163_1; clear hczb163_2 hfzb163_2
  clear BK165
  have BK165 := hn_
  clear hn_
  clear hq_
  have hczb1_0 : w210.cell? ⟨gb2, 0, none⟩ = some (.slice A0_0 l0_0.length c0_0) := (blk_cell BK3.out 0).trans rfl; have hfzb1_0 := blk_frozen BK3.out 0; have hczb1_1 : w210.cell? ⟨gb2, 1, none⟩ = some (.slice A0_1 l0_1.length c0_1) := (blk_cell BK3.out 1).trans rfl; have hfzb1_1 := blk_frozen BK3.out 1; have hczb1_2 : w210.cell? ⟨gb2, 2, none⟩ = some (.slice A0_2 l0_2.length c0_2) := (blk_cell BK3.out 2).trans rfl; have hfzb1_2 := blk_frozen BK3.out 2
  have hczb78_0 : w210.cell? ⟨gb79, 0, none⟩ = some (.slice A70 t55.length c71) := (blk_cell BK80.out 0).trans rfl; have hfzb78_0 := blk_frozen BK80.out 0; have hczb78_1 : w210.cell? ⟨gb79, 1, none⟩ = some (.slice A73 t56.length c74) := (blk_cell BK80.out 1).trans rfl; have hfzb78_1 := blk_frozen BK80.out 1; have hczb78_2 : w210.cell? ⟨gb79, 2, none⟩ = some (.slice A76 t57.length c77) := (blk_cell BK80.out 2).trans rfl; have hfzb78_2 := blk_frozen BK80.out 2
  have hczb110_0 : w210.cell? ⟨gb111, 0, none⟩ = some (.slice A102 t88.length c103) := (blk_cell BK112.out 0).trans rfl; have hfzb110_0 := blk_frozen BK112.out 0; have hczb110_1 : w210.cell? ⟨gb111, 1, none⟩ = some (.slice A105 t89.length c106) := (blk_cell BK112.out 1).trans rfl; have hfzb110_1 := blk_frozen BK112.out 1; have hczb110_2 : w210.cell? ⟨gb111, 2, none⟩ = some (.slice A108 t90.length c109) := (blk_cell BK112.out 2).trans rfl; have hfzb110_2 := blk_frozen BK112.out 2
  have hczb163_0 : w210.cell? ⟨gb164, 0, none⟩ = some (.slice A155 t140.length c156) := (blk_cell BK165.out 0).trans rfl; have hfzb163_0 := blk_frozen BK165.out 0; have hczb163_1 : w210.cell? ⟨gb164, 1, none⟩ = some (.slice A158 t141.length c159) := (blk_cell BK165.out 1).trans rfl; have hfzb163_1 := blk_frozen BK165.out 1; have hczb163_2 : w210.cell? ⟨gb164, 2, none⟩ = some (.slice A161 t142.length c162) := (blk_cell BK165.out 2).trans rfl; have hfzb163_2 := blk_frozen BK165.out 2
  clear hb
  have F215 := Aside0.mk (Lk.newR (b := w205.heap.size) (base := w.heap.size) (Sep := fun k_ => True) rfl f212 (HA207.out) (fun k_ hk_ => hk_))
  clear f212
  obtain ⟨A216, c217, e_⟩ := Kd.R_slice F215.out
  subst e_
  go_wp2_with fail
  refine (laws_eqIntS.calls k _ _ t120 _ _ t208 true _ (Lk.Rr F127.out).2 (Lk.Rr F127.out).1 (Lk.Rr F215.out).2 (Lk.Rr F215.out).1 H219.out).mono ?_
  rintro e_ w220 ⟨rfl, ⟨nd_, hd_⟩⟩
  have hb : Below w210.heap.size w210 w220 := by rw [hd_]; exact pw_below_drewN (Below.refl _ _) nd_
  clear hd_
  have hq_ : Below w210.heap.size w210 w220 := ⟨hb.os, hb.tape, hb.output, hb.size, hb.block⟩
  have HZ221 := Aside0.mk (show w210.heap.size ≤ w220.heap.size from hq_.size)
  have hn_ := Aside0.mk (below_then HB.out HB.out.size hq_)
  clear HB
  have HB := hn_
  clear hn_
  have HA222 := Aside0.mk (show w.heap.size ≤ w220.heap.size from HB.out.size)
  have hn_ := Aside0.mk (Kd.R_below F26.out hq_)
  clear F26
  have F26 := hn_
  clear hn_
  have hn_ := Aside0.mk (Kd.R_below F29.out hq_)
  clear F29
  have F29 := hn_
  clear hn_
  have hn_ := Aside0.mk (Kd.S_below F32.out hq_)
  clear F32
  have F32 := hn_
  clear hn_
  have hn_ := Aside0.mk (Kd.R_below F42.out hq_)
  clear F42
  have F42 := hn_
  clear hn_
  have hn_ := Aside0.mk (Kd.R_below F52.out hq_)
  clear F52
  have F52 := hn_
  clear hn_
  have hn_ := Aside0.mk (Kd.R_below F69.out hq_)
  clear F69
  have F69 := hn_
  clear hn_
  have hn_ := Aside0.mk (Kd.R_below F72.out hq_)
  clear F72
  have F72 := hn_
  clear hn_
  have hn_ := Aside0.mk (Kd.R_below F75.out hq_)
  clear F75
  have F75 := hn_
  clear hn_
  have hn_ := Aside0.mk (Kd.R_below F101.out hq_)
  clear F101
  have F101 := hn_
  clear hn_
  have hn_ := Aside0.mk (Kd.R_below F104.out hq_)
  clear F104
  have F104 := hn_
  clear hn_
  have hn_ := Aside0.mk (Kd.S_below F107.out hq_)
  clear F107
  have F107 := hn_
  clear hn_
  have hn_ := Aside0.mk (Kd.R_below F127.out hq_)
  clear F127
  have F127 := hn_
  clear hn_
  have hn_ := Aside0.mk (Kd.R_below F137.out hq_)
  clear F137
  have F137 := hn_
  clear hn_
  have hn_ := Aside0.mk (Kd.R_below F154.out hq_)
  clear F154
  have F154 := hn_
  clear hn_
  have hn_ := Aside0.mk (Kd.R_below F157.out hq_)
  clear F157
  have F157 := hn_
  clear hn_
  have hn_ := Aside0.mk (Kd.R_below F160.out hq_)
  clear F160
  have F160 := hn_
  clear hn_
  have hn_ := Aside0.mk (Kd.R_below F194.out hq_)
  clear F194
  have F194 := hn_
  clear hn_
  have hn_ := Aside0.mk (Kd.R_below F197.out hq_)
  clear F197
  have F197 := hn_
  clear hn_
  have hn_ := Aside0.mk (Kd.S_below F200.out hq_)
  clear F200
  have F200 := hn_
  clear hn_
  have hn_ := Aside0.mk (Kd.R_below F215.out hq_)
  clear F215
  have F215 := hn_
  clear hn_
  have hn_ := Aside0.mk (blk_below BK3.out hq_)
  clear hczb1_0 hfzb1_0; clear hczb1_1 hfzb1_1; clear hczb1_2 hfzb1_2
  clear BK3
  have BK3 := hn_
  clear hn_
  have hn_ := Aside0.mk (blk_below BK80.out hq_)
  clear hczb78_0 hfzb78_0; clear hczb78_1 hfzb78_1; clear hczb78_2 hfzb78_2
  clear BK80
  have BK80 := hn_
  clear hn_
  have hn_ := Aside0.mk (blk_below BK112.out hq_)
  clear hczb110_0 hfzb110_0; clear hczb110_1 hfzb110_1; clear hczb110_2 hfzb110_2
  clear BK112
  have BK112 := hn_
  clear hn_
  have hn_ := Aside0.mk (blk_below BK165.out hq_)
  clear hczb163_0 hfzb163_0; clear hczb163_1 hfzb163_1; clear hczb163_2 hfzb163_2
  clear BK165
  have BK165 := hn_
  clear hn_
  clear hq_
  have hczb1_0 : w220.cell? ⟨gb2, 0, none⟩ = some (.slice A0_0 l0_0.length c0_0) := (blk_cell BK3.out 0).trans rfl; have hfzb1_0 := blk_frozen BK3.out 0; have hczb1_1 : w220.cell? ⟨gb2, 1, none⟩ = some (.slice A0_1 l0_1.length c0_1) := (blk_cell BK3.out 1).trans rfl; have hfzb1_1 := blk_frozen BK3.out 1; have hczb1_2 : w220.cell? ⟨gb2, 2, none⟩ = some (.slice A0_2 l0_2.length c0_2) := (blk_cell BK3.out 2).trans rfl; have hfzb1_2 := blk_frozen BK3.out 2
  have hczb78_0 : w220.cell? ⟨gb79, 0, none⟩ = some (.slice A70 t55.length c71) := (blk_cell BK80.out 0).trans rfl; have hfzb78_0 := blk_frozen BK80.out 0; have hczb78_1 : w220.cell? ⟨gb79, 1, none⟩ = some (.slice A73 t56.length c74) := (blk_cell BK80.out 1).trans rfl; have hfzb78_1 := blk_frozen BK80.out 1; have hczb78_2 : w220.cell? ⟨gb79, 2, none⟩ = some (.slice A76 t57.length c77) := (blk_cell BK80.out 2).trans rfl; have hfzb78_2 := blk_frozen BK80.out 2
  have hczb110_0 : w220.cell? ⟨gb111, 0, none⟩ = some (.slice A102 t88.length c103) := (blk_cell BK112.out 0).trans rfl; have hfzb110_0 := blk_frozen BK112.out 0; have hczb110_1 : w220.cell? ⟨gb111, 1, none⟩ = some (.slice A105 t89.length c106) := (blk_cell BK112.out 1).trans rfl; have hfzb110_1 := blk_frozen BK112.out 1; have hczb110_2 : w220.cell? ⟨gb111, 2, none⟩ = some (.slice A108 t90.length c109) := (blk_cell BK112.out 2).trans rfl; have hfzb110_2 := blk_frozen BK112.out 2
  have hczb163_0 : w220.cell? ⟨gb164, 0, none⟩ = some (.slice A155 t140.length c156) := (blk_cell BK165.out 0).trans rfl; have hfzb163_0 := blk_frozen BK165.out 0; have hczb163_1 : w220.cell? ⟨gb164, 1, none⟩ = some (.slice A158 t141.length c159) := (blk_cell BK165.out 1).trans rfl; have hfzb163_1 := blk_frozen BK165.out 1; have hczb163_2 : w220.cell? ⟨gb164, 2, none⟩ = some (.slice A161 t142.length c162) := (blk_cell BK165.out 2).trans rfl; have hfzb163_2 := blk_frozen BK165.out 2
  clear hb
  go_wp2_with fail
  refine (laws_toIntS.calls k _ _ l3 t223 _ (Kd.C_below HR3.out HB.out) HC3.out H224.out).mono ?_
  rintro e_ w225 ⟨v226, rfl, f227, hb⟩
  have hq_ : Below w220.heap.size w220 w225 := ⟨hb.os, hb.tape, hb.output, hb.size, hb.block⟩
  have HZ228 := Aside0.mk (show w220.heap.size ≤ w225.heap.size from hq_.size)
  have hn_ := Aside0.mk (below_then HB.out HB.out.size hq_)
  clear HB
  have HB := hn_
  clear hn_
  have HA229 := Aside0.mk (show w.heap.size ≤ w225.heap.size from HB.out.size)
  have hn_ := Aside0.mk (Kd.R_below F26.out hq_)
  clear F26
  have F26 := hn_
  clear hn_
  have hn_ := Aside0.mk (Kd.R_below F29.out hq_)
  clear F29
  have F29 := hn_
  clear hn_
  have hn_ := Aside0.mk (Kd.S_below F32.out hq_)
  clear F32
  have F32 := hn_
  clear hn_
  have hn_ := Aside0.mk (Kd.R_below F42.out hq_)
  clear F42
  have F42 := hn_
  clear hn_
  have hn_ := Aside0.mk (Kd.R_below F52.out hq_)
  clear F52
  have F52 := hn_
  clear hn_
  have hn_ := Aside0.mk (Kd.R_below F69.out hq_)
  clear F69
  have F69 := hn_
  clear hn_
  have hn_ := Aside0.mk (Kd.R_below F72.out hq_)
  clear F72
  have F72 := hn_
  clear hn_
  have hn_ := Aside0.mk (Kd.R_below F75.out hq_)
  clear F75
  have F75 := hn_
  clear hn_
  have hn_ := Aside0.mk (Kd.R_below F101.out hq_)
  clear F101
  have F101 := hn_
  clear hn_
  have hn_ := Aside0.mk (Kd.R_below F104.out hq_)
  clear F104
  have F104 := hn_
  clear hn_
  have hn_ := Aside0.mk (Kd.S_below F107.out hq_)
  clear F107
  have F107 := hn_
  clear hn_
  have hn_ := Aside0.mk (Kd.R_below F127.out hq_)
  clear F127
  have F127 := hn_
  clear hn_
  have hn_ := Aside0.mk (Kd.R_below F137.out hq_)
  clear F137
  have F137 := hn_
  clear hn_
  have hn_ := Aside0.mk (Kd.R_below F154.out hq_)
  clear F154
  have F154 := hn_
  clear hn_
  have hn_ := Aside0.mk (Kd.R_below F157.out hq_)
  clear F157
  have F157 := hn_
  clear hn_
  have hn_ := Aside0.mk (Kd.R_below F160.out hq_)
  clear F160
  have F160 := hn_
  clear hn_
  have hn_ := Aside0.mk (Kd.R_below F194.out hq_)
  clear F194
  have F194 := hn_
  clear hn_
  have hn_ := Aside0.mk (Kd.R_below F197.out hq_)
  clear F197
  have F197 := hn_
  clear hn_
  have hn_ := Aside0.mk (Kd.S_below F200.out hq_)
  clear F200
  have F200 := hn_
  clear hn_
  have hn_ := Aside0.mk (Kd.R_below F215.out hq_)
  clear F215
  have F215 := hn_
  clear hn_
  have hn_ := Aside0.mk (blk_below BK3.out hq_)
  clear hczb1_0 hfzb1_0; clear hczb1_1 hfzb1_1; clear hczb1_2 hfzb1_2
  clear BK3
  have BK3 := hn_
  clear hn_
  have hn_ := Aside0.mk (blk_below BK80.out hq_)
  clear hczb78_0 hfzb78_0; clear hczb78_1 hfzb78_1; clear hczb78_2 hfzb78_2
  clear BK80
  have BK80 := hn_
  clear hn_
  have hn_ := Aside0.mk (blk_below BK112.out hq_)
  clear hczb110_0 hfzb110_0; clear hczb110_1 hfzb110_1; clear hczb110_2 hfzb110_2
  clear BK112
  have BK112 := hn_
  clear hn_
  have hn_ := Aside0.mk (blk_below BK165.out hq_)
  clear hczb163_0 hfzb163_0; clear hczb163_1 hfzb163_1; clear hczb163_2 hfzb163_2
  clear BK165
  have BK165 := hn_
  clear hn_
  clear hq_
  have hczb1_0 : w225.cell? ⟨gb2, 0, none⟩ = some (.slice A0_0 l0_0.length c0_0) := (blk_cell BK3.out 0).trans rfl; have hfzb1_0 := blk_frozen BK3.out 0; have hczb1_1 : w225.cell? ⟨gb2, 1, none⟩ = some (.slice A0_1 l0_1.length c0_1) := (blk_cell BK3.out 1).trans rfl; have hfzb1_1 := blk_frozen BK3.out 1; have hczb1_2 : w225.cell? ⟨gb2, 2, none⟩ = some (.slice A0_2 l0_2.length c0_2) := (blk_cell BK3.out 2).trans rfl; have hfzb1_2 := blk_frozen BK3.out 2
  have hczb78_0 : w225.cell? ⟨gb79, 0, none⟩ = some (.slice A70 t55.length c71) := (blk_cell BK80.out 0).trans rfl; have hfzb78_0 := blk_frozen BK80.out 0; have hczb78_1 : w225.cell? ⟨gb79, 1, none⟩ = some (.slice A73 t56.length c74) := (blk_cell BK80.out 1).trans rfl; have hfzb78_1 := blk_frozen BK80.out 1; have hczb78_2 : w225.cell? ⟨gb79, 2, none⟩ = some (.slice A76 t57.length c77) := (blk_cell BK80.out 2).trans rfl; have hfzb78_2 := blk_frozen BK80.out 2
  have hczb110_0 : w225.cell? ⟨gb111, 0, none⟩ = some (.slice A102 t88.length c103) := (blk_cell BK112.out 0).trans rfl; have hfzb110_0 := blk_frozen BK112.out 0; have hczb110_1 : w225.cell? ⟨gb111, 1, none⟩ = some (.slice A105 t89.length c106) := (blk_cell BK112.out 1).trans rfl; have hfzb110_1 := blk_frozen BK112.out 1; have hczb110_2 : w225.cell? ⟨gb111, 2, none⟩ = some (.slice A108 t90.length c109) := (blk_cell BK112.out 2).trans rfl; have hfzb110_2 := blk_frozen BK112.out 2
  have hczb163_0 : w225.cell? ⟨gb164, 0, none⟩ = some (.slice A155 t140.length c156) := (blk_cell BK165.out 0).trans rfl; have hfzb163_0 := blk_frozen BK165.out 0; have hczb163_1 : w225.cell? ⟨gb164, 1, none⟩ = some (.slice A158 t141.length c159) := (blk_cell BK165.out 1).trans rfl; have hfzb163_1 := blk_frozen BK165.out 1; have hczb163_2 : w225.cell? ⟨gb164, 2, none⟩ = some (.slice A161 t142.length c162) := (blk_cell BK165.out 2).trans rfl; have hfzb163_2 := blk_frozen BK165.out 2
  clear hb
  have F230 := Aside0.mk (Lk.newR (b := w220.heap.size) (base := w.heap.size) (Sep := fun k_ => True) rfl f227 (HA222.out) (fun k_ hk_ => hk_))
  clear f227
  obtain ⟨A231, c232, e_⟩ := Kd.R_slice F230.out
  subst e_
  go_wp2_with fail
  refine (laws_eqIntS.calls k _ _ t130 _ _ t223 true _ (Lk.Rr F137.out).2 (Lk.Rr F137.out).1 (Lk.Rr F230.out).2 (Lk.Rr F230.out).1 H234.out).mono ?_
  rintro e_ w235 ⟨rfl, ⟨nd_, hd_⟩⟩
  have hb : Below w225.heap.size w225 w235 := by rw [hd_]; exact pw_below_drewN (Below.refl _ _) nd_
  clear hd_
  have hq_ : Below w225.heap.size w225 w235 := ⟨hb.os, hb.tape, hb.output, hb.size, hb.block⟩
  have HZ236 := Aside0.mk (show w225.heap.size ≤ w235.heap.size from hq_.size)
  have hn_ := Aside0.mk (below_then HB.out HB.out.size hq_)
  clear HB
  have HB := hn_
  clear hn_
  have HA237 := Aside0.mk (show w.heap.size ≤ w235.heap.size from HB.out.size)
  have hn_ := Aside0.mk (Kd.R_below F26.out hq_)
  clear F26
  have F26 := hn_
  clear hn_
  have hn_ := Aside0.mk (Kd.R_below F29.out hq_)
  clear F29
  have F29 := hn_
  clear hn_
  have hn_ := Aside0.mk (Kd.S_below F32.out hq_)
  clear F32
  have F32 := hn_
  clear hn_
  have hn_ := Aside0.mk (Kd.R_below F42.out hq_)
  clear F42
  have F42 := hn_
  clear hn_
  have hn_ := Aside0.mk (Kd.R_below F52.out hq_)
  clear F52
  have F52 := hn_
  clear hn_
  have hn_ := Aside0.mk (Kd.R_below F69.out hq_)
  clear F69
  have F69 := hn_
  clear hn_
  have hn_ := Aside0.mk (Kd.R_below F72.out hq_)
  clear F72
  have F72 := hn_
  clear hn_
  have hn_ := Aside0.mk (Kd.R_below F75.out hq_)
  clear F75
  have F75 := hn_
  clear hn_
  have hn_ := Aside0.mk (Kd.R_below F101.out hq_)
  clear F101
  have F101 := hn_
  clear hn_
  have hn_ := Aside0.mk (Kd.R_below F104.out hq_)
  clear F104
  have F104 := hn_
  clear hn_
  have hn_ := Aside0.mk (Kd.S_below F107.out hq_)
  clear F107
  have F107 := hn_
  clear hn_
  have hn_ := Aside0.mk (Kd.R_below F127.out hq_)
  clear F127
  have F127 := hn_
  clear hn_
  have hn_ := Aside0.mk (Kd.R_below F137.out hq_)
  clear F137
  have F137 := hn_
  clear hn_
  have hn_ := Aside0.mk (Kd.R_below F154.out hq_)
  clear F154
  have F154 := hn_
  clear hn_
  have hn_ := Aside0.mk (Kd.R_below F157.out hq_)
  clear F157
  have F157 := hn_
  clear hn_
  have hn_ := Aside0.mk (Kd.R_below F160.out hq_)
  clear F160
  have F160 := hn_
  clear hn_
  have hn_ := Aside0.mk (Kd.R_below F194.out hq_)
  clear F194
  have F194 := hn_
  clear hn_
  have hn_ := Aside0.mk (Kd.R_below F197.out hq_)
  clear F197
  have F197 := hn_
  clear hn_
  have hn_ := Aside0.mk (Kd.S_below F200.out hq_)
  clear F200
  have F200 := hn_
  clear hn_
  have hn_ := Aside0.mk (Kd.R_below F215.out hq_)
  clear F215
  have F215 := hn_
  clear hn_
  have hn_ := Aside0.mk (Kd.R_below F230.out hq_)
  clear F230
  have F230 := hn_
  clear hn_
  have hn_ := Aside0.mk (blk_below BK3.out hq_)
  clear hczb1_0 hfzb1_0; clear hczb1_1 hfzb1_1; clear hczb1_2 hfzb1_2
  clear BK3
  have BK3 := hn_
  clear hn_
  have hn_ := Aside0.mk (blk_below BK80.out hq_)
  clear hczb78_0 hfzb78_0; clear hczb78_1 hfzb78_1; clear hczb78_2 hfzb78_2
  clear BK80
  have BK80 := hn_
  clear hn_
  have hn_ := Aside0.mk (blk_below BK112.out hq_)
  clear hczb110_0 hfzb110_0; clear hczb110_1 hfzb110_1; clear hczb110_2 hfzb110_2
  clear BK112
  have BK112 := hn_
  clear hn_
  have hn_ := Aside0.mk (blk_below BK165.out hq_)
  clear hczb163_0 hfzb163_0; clear hczb163_1 hfzb163_1; clear hczb163_2 hfzb163_2
  clear BK165
  have BK165 := hn_
  clear hn_
  clear hq_
  have hczb1_0 : w235.cell? ⟨gb2, 0, none⟩ = some (.slice A0_0 l0_0.length c0_0) := (blk_cell BK3.out 0).trans rfl; have hfzb1_0 := blk_frozen BK3.out 0; have hczb1_1 : w235.cell? ⟨gb2, 1, none⟩ = some (.slice A0_1 l0_1.length c0_1) := (blk_cell BK3.out 1).trans rfl; have hfzb1_1 := blk_frozen BK3.out 1; have hczb1_2 : w235.cell? ⟨gb2, 2, none⟩ = some (.slice A0_2 l0_2.length c0_2) := (blk_cell BK3.out 2).trans rfl; have hfzb1_2 := blk_frozen BK3.out 2
  have hczb78_0 : w235.cell? ⟨gb79, 0, none⟩ = some (.slice A70 t55.length c71) := (blk_cell BK80.out 0).trans rfl; have hfzb78_0 := blk_frozen BK80.out 0; have hczb78_1 : w235.cell? ⟨gb79, 1, none⟩ = some (.slice A73 t56.length c74) := (blk_cell BK80.out 1).trans rfl; have hfzb78_1 := blk_frozen BK80.out 1; have hczb78_2 : w235.cell? ⟨gb79, 2, none⟩ = some (.slice A76 t57.length c77) := (blk_cell BK80.out 2).trans rfl; have hfzb78_2 := blk_frozen BK80.out 2
  have hczb110_0 : w235.cell? ⟨gb111, 0, none⟩ = some (.slice A102 t88.length c103) := (blk_cell BK112.out 0).trans rfl; have hfzb110_0 := blk_frozen BK112.out 0; have hczb110_1 : w235.cell? ⟨gb111, 1, none⟩ = some (.slice A105 t89.length c106) := (blk_cell BK112.out 1).trans rfl; have hfzb110_1 := blk_frozen BK112.out 1; have hczb110_2 : w235.cell? ⟨gb111, 2, none⟩ = some (.slice A108 t90.length c109) := (blk_cell BK112.out 2).trans rfl; have hfzb110_2 := blk_frozen BK112.out 2
  have hczb163_0 : w235.cell? ⟨gb164, 0, none⟩ = some (.slice A155 t140.length c156) := (blk_cell BK165.out 0).trans rfl; have hfzb163_0 := blk_frozen BK165.out 0; have hczb163_1 : w235.cell? ⟨gb164, 1, none⟩ = some (.slice A158 t141.length c159) := (blk_cell BK165.out 1).trans rfl; have hfzb163_1 := blk_frozen BK165.out 1; have hczb163_2 : w235.cell? ⟨gb164, 2, none⟩ = some (.slice A161 t142.length c162) := (blk_cell BK165.out 2).trans rfl; have hfzb163_2 := blk_frozen BK165.out 2
  clear hb
  go_wp2_with fail
  have hn_ := H239.out
  have hn2_ := Aside0.mk (show Kd.R k91 91 w235 w.heap.size (fun k_ => (w85.heap.size ≤ k_ ∧ k_ < w92.heap.size) ∧ some k_ = (.slice A102 t88.length c103 : Value).ownBlock ∧ (some k_ ≠ (.slice A105 t89.length c106 : Value).ownBlock)) (.slice A102 t88.length c103) t88 from Kd.R_mono (Kd.R_apart' F101.out (Kd.R_typed F104.out) (by decide)) (fun k_ hk_ => ⟨hk_.1.1, hk_.1.2.1, hk_.2⟩))
  have F101q := hn2_
  clear hn2_
  have hn2_ := Aside0.mk (show Kd.R (Kd.int .i64) 3 w235 w.heap.size (fun k_ => (w85.heap.size ≤ k_ ∧ k_ < w92.heap.size) ∧ some k_ = (.slice A105 t89.length c106 : Value).ownBlock ∧ (some k_ ≠ (.slice A102 t88.length c103 : Value).ownBlock)) (.slice A105 t89.length c106) t89 from Kd.R_mono (Kd.R_apart' F104.out (Kd.R_typed F101.out) (by decide)) (fun k_ hk_ => ⟨hk_.1.1, hk_.1.2.1, hk_.2⟩))
  have F104q := hn2_
  clear hn2_
  have hn2_ := Aside0.mk (show Kd.S (Kd.slice 79 k79) 71 w235 w.heap.size (fun k_ => (w85.heap.size ≤ k_ ∧ k_ < w92.heap.size) ∧ (some k_ ≠ (.slice A102 t88.length c103 : Value).ownBlock ∧ some k_ ≠ (.slice A105 t89.length c106 : Value).ownBlock)) (.slice A108 t90.length c109) t90 from Kd.S_mono (Kd.S_apart' (Kd.S_apart' F107.out (Kd.R_typed F101.out) (by decide)) (Kd.R_typed F104.out) (by decide)) (fun k_ hk_ => ⟨hk_.1.1.1, ⟨hk_.1.2, hk_.2⟩⟩))
  have F107q := hn2_
  clear hn2_
  clear F101
  have F101 := F101q
  clear F101q
  clear F104
  have F104 := F104q
  clear F104q
  clear F107
  have F107 := F107q
  clear F107q
  refine (laws_markTranslated.calls (fun k_ => w85.heap.size ≤ k_ ∧ k_ < w92.heap.size) _ t88 _ t89 _ t90 1 w _ HB.out F101.out F104.out F107.out (by omega) hn_).mono ?_
  rintro e_ w238 ⟨rfl, f0_, f1_, f2_, hb0_, hk_⟩
  have hk2_ : Kept w235 w238 (fun k_ => w85.heap.size ≤ k_ ∧ k_ < w92.heap.size) := Kept.mono hk_ (fun k_ h_ => by first | exact h_ | exact h_.1)
  have HZ240 := Aside0.mk (show w235.heap.size ≤ w238.heap.size from hk2_.1)
  clear HB
  have HB := Aside0.mk hb0_
  have hn_ := Aside0.mk (Kd.R_kept F26.out hk2_ (fun k_ h1_ h2_ => by skip; have := HZ40.out; have := HZ50.out; have := HZ67.out; have := HZ83.out; have := HZ86.out; have h3_ := h1_.1; omega))
  clear F26
  have F26 := hn_
  clear hn_
  have hn_ := Aside0.mk (Kd.R_kept F29.out hk2_ (fun k_ h1_ h2_ => by skip; have := HZ40.out; have := HZ50.out; have := HZ67.out; have := HZ83.out; have := HZ86.out; have h3_ := h1_.1; omega))
  clear F29
  have F29 := hn_
  clear hn_
  have hn_ := Aside0.mk (Kd.S_kept F32.out hk2_ (fun k_ h1_ h2_ => by skip; have := HZ40.out; have := HZ50.out; have := HZ67.out; have := HZ83.out; have := HZ86.out; have h3_ := h1_.1; omega))
  clear F32
  have F32 := hn_
  clear hn_
  have hn_ := Aside0.mk (Kd.R_kept F42.out hk2_ (fun k_ h1_ h2_ => by skip; have := HZ50.out; have := HZ67.out; have := HZ83.out; have := HZ86.out; have h3_ := h1_.1; omega))
  clear F42
  have F42 := hn_
  clear hn_
  have hn_ := Aside0.mk (Kd.R_kept F52.out hk2_ (fun k_ h1_ h2_ => by skip; have := HZ67.out; have := HZ83.out; have := HZ86.out; have h3_ := h1_.1; omega))
  clear F52
  have F52 := hn_
  clear hn_
  have hn_ := Aside0.mk (Kd.R_kept F69.out hk2_ (fun k_ h1_ h2_ => by skip; have := HZ83.out; have := HZ86.out; have h3_ := h1_.1; omega))
  clear F69
  have F69 := hn_
  clear hn_
  have hn_ := Aside0.mk (Kd.R_kept F72.out hk2_ (fun k_ h1_ h2_ => by skip; have := HZ83.out; have := HZ86.out; have h3_ := h1_.1; omega))
  clear F72
  have F72 := hn_
  clear hn_
  have hn_ := Aside0.mk (Kd.R_kept F75.out hk2_ (fun k_ h1_ h2_ => by skip; have := HZ83.out; have := HZ86.out; have h3_ := h1_.1; omega))
  clear F75
  have F75 := hn_
  clear hn_
  have hn_ := Aside0.mk (Kd.R_kept F127.out hk2_ (fun k_ h1_ h2_ => by skip; have := HZ115.out; have := HZ118.out; have h3_ := h1_.1; omega))
  clear F127
  have F127 := hn_
  clear hn_
  have hn_ := Aside0.mk (Kd.R_kept F137.out hk2_ (fun k_ h1_ h2_ => by skip; have := HZ115.out; have := HZ118.out; have := HZ125.out; have h3_ := h1_.1; omega))
  clear F137
  have F137 := hn_
  clear hn_
  have hn_ := Aside0.mk (Kd.R_kept F154.out hk2_ (fun k_ h1_ h2_ => by skip; have := HZ115.out; have := HZ118.out; have := HZ125.out; have := HZ135.out; have h3_ := h1_.1; omega))
  clear F154
  have F154 := hn_
  clear hn_
  have hn_ := Aside0.mk (Kd.R_kept F157.out hk2_ (fun k_ h1_ h2_ => by skip; have := HZ115.out; have := HZ118.out; have := HZ125.out; have := HZ135.out; have h3_ := h1_.1; omega))
  clear F157
  have F157 := hn_
  clear hn_
  have hn_ := Aside0.mk (Kd.R_kept F160.out hk2_ (fun k_ h1_ h2_ => by skip; have := HZ115.out; have := HZ118.out; have := HZ125.out; have := HZ135.out; have h3_ := h1_.1; omega))
  clear F160
  have F160 := hn_
  clear hn_
  have hn_ := Aside0.mk (Kd.R_kept F194.out hk2_ (fun k_ h1_ h2_ => by skip; have := HZ115.out; have := HZ118.out; have := HZ125.out; have := HZ135.out; have := HZ152.out; have := HZ168.out; have := HZ171.out; have := HZ176.out; have := HZ179.out; have h3_ := h1_.1; omega))
  clear F194
  have F194 := hn_
  clear hn_
  have hn_ := Aside0.mk (Kd.R_kept F197.out hk2_ (fun k_ h1_ h2_ => by skip; have := HZ115.out; have := HZ118.out; have := HZ125.out; have := HZ135.out; have := HZ152.out; have := HZ168.out; have := HZ171.out; have := HZ176.out; have := HZ179.out; have h3_ := h1_.1; omega))
  clear F197
  have F197 := hn_
  clear hn_
  have hn_ := Aside0.mk (Kd.S_kept F200.out hk2_ (fun k_ h1_ h2_ => by skip; have := HZ115.out; have := HZ118.out; have := HZ125.out; have := HZ135.out; have := HZ152.out; have := HZ168.out; have := HZ171.out; have := HZ176.out; have := HZ179.out; have h3_ := h1_.1; omega))
  clear F200
  have F200 := hn_
  clear hn_
  have hn_ := Aside0.mk (Kd.R_kept F215.out hk2_ (fun k_ h1_ h2_ => by skip; have := HZ115.out; have := HZ118.out; have := HZ125.out; have := HZ135.out; have := HZ152.out; have := HZ168.out; have := HZ171.out; have := HZ176.out; have := HZ179.out; have := HZ192.out; have := HZ206.out; have h3_ := h1_.1; omega))
  clear F215
  have F215 := hn_
  clear hn_
  have hn_ := Aside0.mk (Kd.R_kept F230.out hk2_ (fun k_ h1_ h2_ => by skip; have := HZ115.out; have := HZ118.out; have := HZ125.out; have := HZ135.out; have := HZ152.out; have := HZ168.out; have := HZ171.out; have := HZ176.out; have := HZ179.out; have := HZ192.out; have := HZ206.out; have := HZ213.out; have := HZ221.out; have h3_ := h1_.1; omega))
  clear F230
  have F230 := hn_
  clear hn_
  have hn_ := Aside0.mk (f0_)
  have F101n := hn_
  clear hn_
  have hn_ := Aside0.mk (f1_)
  have F104n := hn_
  clear hn_
  have hn_ := Aside0.mk (f2_)
  have F107n := hn_
  clear hn_
  clear F101
  have F101 := F101n
  clear F101n
  clear F104
  have F104 := F104n
  clear F104n
  clear F107
  have F107 := F107n
  clear F107n
  have hn_ := Aside0.mk (blk_kept BK3.out hk2_ (fun h_ => by skip; have := HZ11.out; have := HZ24.out; have := HZ40.out; have := HZ50.out; have := HZ67.out; have := HZ83.out; have := HZ86.out; have := GQ4.out; omega))
  clear hczb1_0 hfzb1_0; clear hczb1_1 hfzb1_1; clear hczb1_2 hfzb1_2
  clear BK3
  have BK3 := hn_
  clear hn_
  have hn_ := Aside0.mk (blk_kept BK80.out hk2_ (fun h_ => by skip; have := HZ86.out; have := GQ81.out; omega))
  clear hczb78_0 hfzb78_0; clear hczb78_1 hfzb78_1; clear hczb78_2 hfzb78_2
  clear BK80
  have BK80 := hn_
  clear hn_
  have hn_ := Aside0.mk (blk_kept BK112.out hk2_ (fun h_ => by skip; have := GQ113.out; omega))
  clear hczb110_0 hfzb110_0; clear hczb110_1 hfzb110_1; clear hczb110_2 hfzb110_2
  clear BK112
  have BK112 := hn_
  clear hn_
  have hn_ := Aside0.mk (blk_kept BK165.out hk2_ (fun h_ => by skip; have := HZ115.out; have := HZ118.out; have := HZ125.out; have := HZ135.out; have := HZ152.out; have := GQ166.out; omega))
  clear hczb163_0 hfzb163_0; clear hczb163_1 hfzb163_1; clear hczb163_2 hfzb163_2
  clear BK165
  have BK165 := hn_
  clear hn_
  clear hk2_ hk_ hb0_ f0_ f1_ f2_
  have hczb1_0 : w238.cell? ⟨gb2, 0, none⟩ = some (.slice A0_0 l0_0.length c0_0) := (blk_cell BK3.out 0).trans rfl; have hfzb1_0 := blk_frozen BK3.out 0; have hczb1_1 : w238.cell? ⟨gb2, 1, none⟩ = some (.slice A0_1 l0_1.length c0_1) := (blk_cell BK3.out 1).trans rfl; have hfzb1_1 := blk_frozen BK3.out 1; have hczb1_2 : w238.cell? ⟨gb2, 2, none⟩ = some (.slice A0_2 l0_2.length c0_2) := (blk_cell BK3.out 2).trans rfl; have hfzb1_2 := blk_frozen BK3.out 2
  have hczb78_0 : w238.cell? ⟨gb79, 0, none⟩ = some (.slice A70 t55.length c71) := (blk_cell BK80.out 0).trans rfl; have hfzb78_0 := blk_frozen BK80.out 0; have hczb78_1 : w238.cell? ⟨gb79, 1, none⟩ = some (.slice A73 t56.length c74) := (blk_cell BK80.out 1).trans rfl; have hfzb78_1 := blk_frozen BK80.out 1; have hczb78_2 : w238.cell? ⟨gb79, 2, none⟩ = some (.slice A76 t57.length c77) := (blk_cell BK80.out 2).trans rfl; have hfzb78_2 := blk_frozen BK80.out 2
  have hczb110_0 : w238.cell? ⟨gb111, 0, none⟩ = some (.slice A102 t88.length c103) := (blk_cell BK112.out 0).trans rfl; have hfzb110_0 := blk_frozen BK112.out 0; have hczb110_1 : w238.cell? ⟨gb111, 1, none⟩ = some (.slice A105 t89.length c106) := (blk_cell BK112.out 1).trans rfl; have hfzb110_1 := blk_frozen BK112.out 1; have hczb110_2 : w238.cell? ⟨gb111, 2, none⟩ = some (.slice A108 t90.length c109) := (blk_cell BK112.out 2).trans rfl; have hfzb110_2 := blk_frozen BK112.out 2
  have hczb163_0 : w238.cell? ⟨gb164, 0, none⟩ = some (.slice A155 t140.length c156) := (blk_cell BK165.out 0).trans rfl; have hfzb163_0 := blk_frozen BK165.out 0; have hczb163_1 : w238.cell? ⟨gb164, 1, none⟩ = some (.slice A158 t141.length c159) := (blk_cell BK165.out 1).trans rfl; have hfzb163_1 := blk_frozen BK165.out 1; have hczb163_2 : w238.cell? ⟨gb164, 2, none⟩ = some (.slice A161 t142.length c162) := (blk_cell BK165.out 2).trans rfl; have hfzb163_2 := blk_frozen BK165.out 2
  have hl241 := (Kd.R_reads' F101.out).1
  have HL241 := Aside0.mk hl241
  clear hl241
  have hl242 := (Kd.R_reads' F104.out).1
  have HL242 := Aside0.mk hl242
  clear hl242
  have hl243 := (Kd.S_reads' F107.out).1
  have HL243 := Aside0.mk hl243
  clear hl243
  have hn1_ : decide ((1 + (markInstrS_cnt t88 : Nat) + (t89.length : Nat) + (markLocSS_cnt t90 : Nat) : Int) < 0) = false := decide_eq_false (by omega)
  have hd244 := hn1_
  clear hn1_
  go_wp2_with fail
  refine (laws_markIntS.calls k (fun k_ => (w117.heap.size ≤ k_ ∧ k_ < w122.heap.size) ∧ some k_ = (.slice A128 t120.length c129 : Value).ownBlock ∧ (True)) _ t120 (1 + (markInstrS_cnt t88 : Nat) + (t89.length : Nat) + (markLocSS_cnt t90 : Nat) : Int) t246 t247 w _ HB.out F127.out H248.out).mono ?_
  rintro e_ w245 ⟨rfl, f0_, hb0_, hk_⟩
  have hk2_ : Kept w238 w245 (fun k_ => w117.heap.size ≤ k_ ∧ k_ < w122.heap.size) := Kept.mono hk_ (fun k_ h_ => by first | exact h_ | exact h_.1)
  have HZ250 := Aside0.mk (show w238.heap.size ≤ w245.heap.size from hk2_.1)
  clear HB
  have HB := Aside0.mk hb0_
  have hn_ := Aside0.mk (Kd.R_kept F26.out hk2_ (fun k_ h1_ h2_ => by skip; have := HZ40.out; have := HZ50.out; have := HZ67.out; have := HZ83.out; have := HZ86.out; have := HZ99.out; have := HZ115.out; have := HZ118.out; have h3_ := h1_.1; omega))
  clear F26
  have F26 := hn_
  clear hn_
  have hn_ := Aside0.mk (Kd.R_kept F29.out hk2_ (fun k_ h1_ h2_ => by skip; have := HZ40.out; have := HZ50.out; have := HZ67.out; have := HZ83.out; have := HZ86.out; have := HZ99.out; have := HZ115.out; have := HZ118.out; have h3_ := h1_.1; omega))
  clear F29
  have F29 := hn_
  clear hn_
  have hn_ := Aside0.mk (Kd.S_kept F32.out hk2_ (fun k_ h1_ h2_ => by skip; have := HZ40.out; have := HZ50.out; have := HZ67.out; have := HZ83.out; have := HZ86.out; have := HZ99.out; have := HZ115.out; have := HZ118.out; have h3_ := h1_.1; omega))
  clear F32
  have F32 := hn_
  clear hn_
  have hn_ := Aside0.mk (Kd.R_kept F42.out hk2_ (fun k_ h1_ h2_ => by skip; have := HZ50.out; have := HZ67.out; have := HZ83.out; have := HZ86.out; have := HZ99.out; have := HZ115.out; have := HZ118.out; have h3_ := h1_.1; omega))
  clear F42
  have F42 := hn_
  clear hn_
  have hn_ := Aside0.mk (Kd.R_kept F52.out hk2_ (fun k_ h1_ h2_ => by skip; have := HZ67.out; have := HZ83.out; have := HZ86.out; have := HZ99.out; have := HZ115.out; have := HZ118.out; have h3_ := h1_.1; omega))
  clear F52
  have F52 := hn_
  clear hn_
  have hn_ := Aside0.mk (Kd.R_kept F69.out hk2_ (fun k_ h1_ h2_ => by skip; have := HZ83.out; have := HZ86.out; have := HZ99.out; have := HZ115.out; have := HZ118.out; have h3_ := h1_.1; omega))
  clear F69
  have F69 := hn_
  clear hn_
  have hn_ := Aside0.mk (Kd.R_kept F72.out hk2_ (fun k_ h1_ h2_ => by skip; have := HZ83.out; have := HZ86.out; have := HZ99.out; have := HZ115.out; have := HZ118.out; have h3_ := h1_.1; omega))
  clear F72
  have F72 := hn_
  clear hn_
  have hn_ := Aside0.mk (Kd.R_kept F75.out hk2_ (fun k_ h1_ h2_ => by skip; have := HZ83.out; have := HZ86.out; have := HZ99.out; have := HZ115.out; have := HZ118.out; have h3_ := h1_.1; omega))
  clear F75
  have F75 := hn_
  clear hn_
  have hn_ := Aside0.mk (Kd.R_kept F101.out hk2_ (fun k_ h1_ h2_ => by skip; have := HZ115.out; have := HZ118.out; have h3_ := h1_.1; omega))
  clear F101
  have F101 := hn_
  clear hn_
  have hn_ := Aside0.mk (Kd.R_kept F104.out hk2_ (fun k_ h1_ h2_ => by skip; have := HZ115.out; have := HZ118.out; have h3_ := h1_.1; omega))
  clear F104
  have F104 := hn_
  clear hn_
  have hn_ := Aside0.mk (Kd.S_kept F107.out hk2_ (fun k_ h1_ h2_ => by skip; have := HZ115.out; have := HZ118.out; have h3_ := h1_.1; omega))
  clear F107
  have F107 := hn_
  clear hn_
  have hn_ := Aside0.mk (Kd.R_kept F137.out hk2_ (fun k_ h1_ h2_ => by skip; have h3_ := h1_.1; omega))
  clear F137
  have F137 := hn_
  clear hn_
  have hn_ := Aside0.mk (Kd.R_kept F154.out hk2_ (fun k_ h1_ h2_ => by skip; have := HZ135.out; have h3_ := h1_.1; omega))
  clear F154
  have F154 := hn_
  clear hn_
  have hn_ := Aside0.mk (Kd.R_kept F157.out hk2_ (fun k_ h1_ h2_ => by skip; have := HZ135.out; have h3_ := h1_.1; omega))
  clear F157
  have F157 := hn_
  clear hn_
  have hn_ := Aside0.mk (Kd.R_kept F160.out hk2_ (fun k_ h1_ h2_ => by skip; have := HZ135.out; have h3_ := h1_.1; omega))
  clear F160
  have F160 := hn_
  clear hn_
  have hn_ := Aside0.mk (Kd.R_kept F194.out hk2_ (fun k_ h1_ h2_ => by skip; have := HZ135.out; have := HZ152.out; have := HZ168.out; have := HZ171.out; have := HZ176.out; have := HZ179.out; have h3_ := h1_.1; omega))
  clear F194
  have F194 := hn_
  clear hn_
  have hn_ := Aside0.mk (Kd.R_kept F197.out hk2_ (fun k_ h1_ h2_ => by skip; have := HZ135.out; have := HZ152.out; have := HZ168.out; have := HZ171.out; have := HZ176.out; have := HZ179.out; have h3_ := h1_.1; omega))
  clear F197
  have F197 := hn_
  clear hn_
  have hn_ := Aside0.mk (Kd.S_kept F200.out hk2_ (fun k_ h1_ h2_ => by skip; have := HZ135.out; have := HZ152.out; have := HZ168.out; have := HZ171.out; have := HZ176.out; have := HZ179.out; have h3_ := h1_.1; omega))
  clear F200
  have F200 := hn_
  clear hn_
  have hn_ := Aside0.mk (Kd.R_kept F215.out hk2_ (fun k_ h1_ h2_ => by skip; have := HZ135.out; have := HZ152.out; have := HZ168.out; have := HZ171.out; have := HZ176.out; have := HZ179.out; have := HZ192.out; have := HZ206.out; have h3_ := h1_.1; omega))
  clear F215
  have F215 := hn_
  clear hn_
  have hn_ := Aside0.mk (Kd.R_kept F230.out hk2_ (fun k_ h1_ h2_ => by skip; have := HZ135.out; have := HZ152.out; have := HZ168.out; have := HZ171.out; have := HZ176.out; have := HZ179.out; have := HZ192.out; have := HZ206.out; have := HZ213.out; have := HZ221.out; have h3_ := h1_.1; omega))
  clear F230
  have F230 := hn_
  clear hn_
  have hn_ := Aside0.mk (Lk.markedR rfl f0_ (fun k_ e_ => (show (w117.heap.size ≤ k_ ∧ k_ < w122.heap.size) ∧ some k_ = (.slice A128 t120.length c129 : Value).ownBlock ∧ (True) from (F127.out.1 k_ e_.symm))))
  have F127n := hn_
  clear hn_
  clear F127
  have F127 := F127n
  clear F127n
  have hn_ := Aside0.mk (blk_kept BK3.out hk2_ (fun h_ => by skip; have := HZ11.out; have := HZ24.out; have := HZ40.out; have := HZ50.out; have := HZ67.out; have := HZ83.out; have := HZ86.out; have := HZ99.out; have := HZ115.out; have := HZ118.out; have := GQ4.out; omega))
  clear hczb1_0 hfzb1_0; clear hczb1_1 hfzb1_1; clear hczb1_2 hfzb1_2
  clear BK3
  have BK3 := hn_
  clear hn_
  have hn_ := Aside0.mk (blk_kept BK80.out hk2_ (fun h_ => by skip; have := HZ86.out; have := HZ99.out; have := HZ115.out; have := HZ118.out; have := GQ81.out; omega))
  clear hczb78_0 hfzb78_0; clear hczb78_1 hfzb78_1; clear hczb78_2 hfzb78_2
  clear BK80
  have BK80 := hn_
  clear hn_
  have hn_ := Aside0.mk (blk_kept BK112.out hk2_ (fun h_ => by skip; have := HZ118.out; have := GQ113.out; omega))
  clear hczb110_0 hfzb110_0; clear hczb110_1 hfzb110_1; clear hczb110_2 hfzb110_2
  clear BK112
  have BK112 := hn_
  clear hn_
  have hn_ := Aside0.mk (blk_kept BK165.out hk2_ (fun h_ => by skip; have := HZ135.out; have := HZ152.out; have := GQ166.out; omega))
  clear hczb163_0 hfzb163_0; clear hczb163_1 hfzb163_1; clear hczb163_2 hfzb163_2
  clear BK165
  have BK165 := hn_
  clear hn_
  clear hk2_ hk_ hb0_ f0_
  have hczb1_0 : w245.cell? ⟨gb2, 0, none⟩ = some (.slice A0_0 l0_0.length c0_0) := (blk_cell BK3.out 0).trans rfl; have hfzb1_0 := blk_frozen BK3.out 0; have hczb1_1 : w245.cell? ⟨gb2, 1, none⟩ = some (.slice A0_1 l0_1.length c0_1) := (blk_cell BK3.out 1).trans rfl; have hfzb1_1 := blk_frozen BK3.out 1; have hczb1_2 : w245.cell? ⟨gb2, 2, none⟩ = some (.slice A0_2 l0_2.length c0_2) := (blk_cell BK3.out 2).trans rfl; have hfzb1_2 := blk_frozen BK3.out 2
  have hczb78_0 : w245.cell? ⟨gb79, 0, none⟩ = some (.slice A70 t55.length c71) := (blk_cell BK80.out 0).trans rfl; have hfzb78_0 := blk_frozen BK80.out 0; have hczb78_1 : w245.cell? ⟨gb79, 1, none⟩ = some (.slice A73 t56.length c74) := (blk_cell BK80.out 1).trans rfl; have hfzb78_1 := blk_frozen BK80.out 1; have hczb78_2 : w245.cell? ⟨gb79, 2, none⟩ = some (.slice A76 t57.length c77) := (blk_cell BK80.out 2).trans rfl; have hfzb78_2 := blk_frozen BK80.out 2
  have hczb110_0 : w245.cell? ⟨gb111, 0, none⟩ = some (.slice A102 t88.length c103) := (blk_cell BK112.out 0).trans rfl; have hfzb110_0 := blk_frozen BK112.out 0; have hczb110_1 : w245.cell? ⟨gb111, 1, none⟩ = some (.slice A105 t89.length c106) := (blk_cell BK112.out 1).trans rfl; have hfzb110_1 := blk_frozen BK112.out 1; have hczb110_2 : w245.cell? ⟨gb111, 2, none⟩ = some (.slice A108 t90.length c109) := (blk_cell BK112.out 2).trans rfl; have hfzb110_2 := blk_frozen BK112.out 2
  have hczb163_0 : w245.cell? ⟨gb164, 0, none⟩ = some (.slice A155 t140.length c156) := (blk_cell BK165.out 0).trans rfl; have hfzb163_0 := blk_frozen BK165.out 0; have hczb163_1 : w245.cell? ⟨gb164, 1, none⟩ = some (.slice A158 t141.length c159) := (blk_cell BK165.out 1).trans rfl; have hfzb163_1 := blk_frozen BK165.out 1; have hczb163_2 : w245.cell? ⟨gb164, 2, none⟩ = some (.slice A161 t142.length c162) := (blk_cell BK165.out 2).trans rfl; have hfzb163_2 := blk_frozen BK165.out 2
  have hl251 := (Kd.R_reads' F127.out).1
  have HL251 := Aside0.mk hl251
  clear hl251
  have hn1_ : decide (t246 < 0) = false := decide_eq_false (by have := H249.out; omega)
  have hd252 := hn1_
  clear hn1_
  go_wp2_with fail
  refine (laws_markIntS.calls k (fun k_ => (w122.heap.size ≤ k_ ∧ k_ < w132.heap.size) ∧ some k_ = (.slice A138 t130.length c139 : Value).ownBlock ∧ (True)) _ t130 t246 t254 t255 w _ HB.out F137.out H256.out).mono ?_
  rintro e_ w253 ⟨rfl, f0_, hb0_, hk_⟩
  have hk2_ : Kept w245 w253 (fun k_ => w122.heap.size ≤ k_ ∧ k_ < w132.heap.size) := Kept.mono hk_ (fun k_ h_ => by first | exact h_ | exact h_.1)
  have HZ258 := Aside0.mk (show w245.heap.size ≤ w253.heap.size from hk2_.1)
  clear HB
  have HB := Aside0.mk hb0_
  have hn_ := Aside0.mk (Kd.R_kept F26.out hk2_ (fun k_ h1_ h2_ => by skip; have := HZ40.out; have := HZ50.out; have := HZ67.out; have := HZ83.out; have := HZ86.out; have := HZ99.out; have := HZ115.out; have := HZ118.out; have := HZ125.out; have h3_ := h1_.1; omega))
  clear F26
  have F26 := hn_
  clear hn_
  have hn_ := Aside0.mk (Kd.R_kept F29.out hk2_ (fun k_ h1_ h2_ => by skip; have := HZ40.out; have := HZ50.out; have := HZ67.out; have := HZ83.out; have := HZ86.out; have := HZ99.out; have := HZ115.out; have := HZ118.out; have := HZ125.out; have h3_ := h1_.1; omega))
  clear F29
  have F29 := hn_
  clear hn_
  have hn_ := Aside0.mk (Kd.S_kept F32.out hk2_ (fun k_ h1_ h2_ => by skip; have := HZ40.out; have := HZ50.out; have := HZ67.out; have := HZ83.out; have := HZ86.out; have := HZ99.out; have := HZ115.out; have := HZ118.out; have := HZ125.out; have h3_ := h1_.1; omega))
  clear F32
  have F32 := hn_
  clear hn_
  have hn_ := Aside0.mk (Kd.R_kept F42.out hk2_ (fun k_ h1_ h2_ => by skip; have := HZ50.out; have := HZ67.out; have := HZ83.out; have := HZ86.out; have := HZ99.out; have := HZ115.out; have := HZ118.out; have := HZ125.out; have h3_ := h1_.1; omega))
  clear F42
  have F42 := hn_
  clear hn_
  have hn_ := Aside0.mk (Kd.R_kept F52.out hk2_ (fun k_ h1_ h2_ => by skip; have := HZ67.out; have := HZ83.out; have := HZ86.out; have := HZ99.out; have := HZ115.out; have := HZ118.out; have := HZ125.out; have h3_ := h1_.1; omega))
  clear F52
  have F52 := hn_
  clear hn_
  have hn_ := Aside0.mk (Kd.R_kept F69.out hk2_ (fun k_ h1_ h2_ => by skip; have := HZ83.out; have := HZ86.out; have := HZ99.out; have := HZ115.out; have := HZ118.out; have := HZ125.out; have h3_ := h1_.1; omega))
  clear F69
  have F69 := hn_
  clear hn_
  have hn_ := Aside0.mk (Kd.R_kept F72.out hk2_ (fun k_ h1_ h2_ => by skip; have := HZ83.out; have := HZ86.out; have := HZ99.out; have := HZ115.out; have := HZ118.out; have := HZ125.out; have h3_ := h1_.1; omega))
  clear F72
  have F72 := hn_
  clear hn_
  have hn_ := Aside0.mk (Kd.R_kept F75.out hk2_ (fun k_ h1_ h2_ => by skip; have := HZ83.out; have := HZ86.out; have := HZ99.out; have := HZ115.out; have := HZ118.out; have := HZ125.out; have h3_ := h1_.1; omega))
  clear F75
  have F75 := hn_
  clear hn_
  have hn_ := Aside0.mk (Kd.R_kept F101.out hk2_ (fun k_ h1_ h2_ => by skip; have := HZ115.out; have := HZ118.out; have := HZ125.out; have h3_ := h1_.1; omega))
  clear F101
  have F101 := hn_
  clear hn_
  have hn_ := Aside0.mk (Kd.R_kept F104.out hk2_ (fun k_ h1_ h2_ => by skip; have := HZ115.out; have := HZ118.out; have := HZ125.out; have h3_ := h1_.1; omega))
  clear F104
  have F104 := hn_
  clear hn_
  have hn_ := Aside0.mk (Kd.S_kept F107.out hk2_ (fun k_ h1_ h2_ => by skip; have := HZ115.out; have := HZ118.out; have := HZ125.out; have h3_ := h1_.1; omega))
  clear F107
  have F107 := hn_
  clear hn_
  have hn_ := Aside0.mk (Kd.R_kept F127.out hk2_ (fun k_ h1_ h2_ => by skip; have h3_ := h1_.1; omega))
  clear F127
  have F127 := hn_
  clear hn_
  have hn_ := Aside0.mk (Kd.R_kept F154.out hk2_ (fun k_ h1_ h2_ => by skip; have h3_ := h1_.1; omega))
  clear F154
  have F154 := hn_
  clear hn_
  have hn_ := Aside0.mk (Kd.R_kept F157.out hk2_ (fun k_ h1_ h2_ => by skip; have h3_ := h1_.1; omega))
  clear F157
  have F157 := hn_
  clear hn_
  have hn_ := Aside0.mk (Kd.R_kept F160.out hk2_ (fun k_ h1_ h2_ => by skip; have h3_ := h1_.1; omega))
  clear F160
  have F160 := hn_
  clear hn_
  have hn_ := Aside0.mk (Kd.R_kept F194.out hk2_ (fun k_ h1_ h2_ => by skip; have := HZ152.out; have := HZ168.out; have := HZ171.out; have := HZ176.out; have := HZ179.out; have h3_ := h1_.1; omega))
  clear F194
  have F194 := hn_
  clear hn_
  have hn_ := Aside0.mk (Kd.R_kept F197.out hk2_ (fun k_ h1_ h2_ => by skip; have := HZ152.out; have := HZ168.out; have := HZ171.out; have := HZ176.out; have := HZ179.out; have h3_ := h1_.1; omega))
  clear F197
  have F197 := hn_
  clear hn_
  have hn_ := Aside0.mk (Kd.S_kept F200.out hk2_ (fun k_ h1_ h2_ => by skip; have := HZ152.out; have := HZ168.out; have := HZ171.out; have := HZ176.out; have := HZ179.out; have h3_ := h1_.1; omega))
  clear F200
  have F200 := hn_
  clear hn_
  have hn_ := Aside0.mk (Kd.R_kept F215.out hk2_ (fun k_ h1_ h2_ => by skip; have := HZ152.out; have := HZ168.out; have := HZ171.out; have := HZ176.out; have := HZ179.out; have := HZ192.out; have := HZ206.out; have h3_ := h1_.1; omega))
  clear F215
  have F215 := hn_
  clear hn_
  have hn_ := Aside0.mk (Kd.R_kept F230.out hk2_ (fun k_ h1_ h2_ => by skip; have := HZ152.out; have := HZ168.out; have := HZ171.out; have := HZ176.out; have := HZ179.out; have := HZ192.out; have := HZ206.out; have := HZ213.out; have := HZ221.out; have h3_ := h1_.1; omega))
  clear F230
  have F230 := hn_
  clear hn_
  have hn_ := Aside0.mk (Lk.markedR rfl f0_ (fun k_ e_ => (show (w122.heap.size ≤ k_ ∧ k_ < w132.heap.size) ∧ some k_ = (.slice A138 t130.length c139 : Value).ownBlock ∧ (True) from (F137.out.1 k_ e_.symm))))
  have F137n := hn_
  clear hn_
  clear F137
  have F137 := F137n
  clear F137n
  have hn_ := Aside0.mk (blk_kept BK3.out hk2_ (fun h_ => by skip; have := HZ11.out; have := HZ24.out; have := HZ40.out; have := HZ50.out; have := HZ67.out; have := HZ83.out; have := HZ86.out; have := HZ99.out; have := HZ115.out; have := HZ118.out; have := HZ125.out; have := GQ4.out; omega))
  clear hczb1_0 hfzb1_0; clear hczb1_1 hfzb1_1; clear hczb1_2 hfzb1_2
  clear BK3
  have BK3 := hn_
  clear hn_
  have hn_ := Aside0.mk (blk_kept BK80.out hk2_ (fun h_ => by skip; have := HZ86.out; have := HZ99.out; have := HZ115.out; have := HZ118.out; have := HZ125.out; have := GQ81.out; omega))
  clear hczb78_0 hfzb78_0; clear hczb78_1 hfzb78_1; clear hczb78_2 hfzb78_2
  clear BK80
  have BK80 := hn_
  clear hn_
  have hn_ := Aside0.mk (blk_kept BK112.out hk2_ (fun h_ => by skip; have := HZ118.out; have := HZ125.out; have := GQ113.out; omega))
  clear hczb110_0 hfzb110_0; clear hczb110_1 hfzb110_1; clear hczb110_2 hfzb110_2
  clear BK112
  have BK112 := hn_
  clear hn_
  have hn_ := Aside0.mk (blk_kept BK165.out hk2_ (fun h_ => by skip; have := HZ152.out; have := GQ166.out; omega))
  clear hczb163_0 hfzb163_0; clear hczb163_1 hfzb163_1; clear hczb163_2 hfzb163_2
  clear BK165
  have BK165 := hn_
  clear hn_
  clear hk2_ hk_ hb0_ f0_
  have hczb1_0 : w253.cell? ⟨gb2, 0, none⟩ = some (.slice A0_0 l0_0.length c0_0) := (blk_cell BK3.out 0).trans rfl; have hfzb1_0 := blk_frozen BK3.out 0; have hczb1_1 : w253.cell? ⟨gb2, 1, none⟩ = some (.slice A0_1 l0_1.length c0_1) := (blk_cell BK3.out 1).trans rfl; have hfzb1_1 := blk_frozen BK3.out 1; have hczb1_2 : w253.cell? ⟨gb2, 2, none⟩ = some (.slice A0_2 l0_2.length c0_2) := (blk_cell BK3.out 2).trans rfl; have hfzb1_2 := blk_frozen BK3.out 2
  have hczb78_0 : w253.cell? ⟨gb79, 0, none⟩ = some (.slice A70 t55.length c71) := (blk_cell BK80.out 0).trans rfl; have hfzb78_0 := blk_frozen BK80.out 0; have hczb78_1 : w253.cell? ⟨gb79, 1, none⟩ = some (.slice A73 t56.length c74) := (blk_cell BK80.out 1).trans rfl; have hfzb78_1 := blk_frozen BK80.out 1; have hczb78_2 : w253.cell? ⟨gb79, 2, none⟩ = some (.slice A76 t57.length c77) := (blk_cell BK80.out 2).trans rfl; have hfzb78_2 := blk_frozen BK80.out 2
  have hczb110_0 : w253.cell? ⟨gb111, 0, none⟩ = some (.slice A102 t88.length c103) := (blk_cell BK112.out 0).trans rfl; have hfzb110_0 := blk_frozen BK112.out 0; have hczb110_1 : w253.cell? ⟨gb111, 1, none⟩ = some (.slice A105 t89.length c106) := (blk_cell BK112.out 1).trans rfl; have hfzb110_1 := blk_frozen BK112.out 1; have hczb110_2 : w253.cell? ⟨gb111, 2, none⟩ = some (.slice A108 t90.length c109) := (blk_cell BK112.out 2).trans rfl; have hfzb110_2 := blk_frozen BK112.out 2
  have hczb163_0 : w253.cell? ⟨gb164, 0, none⟩ = some (.slice A155 t140.length c156) := (blk_cell BK165.out 0).trans rfl; have hfzb163_0 := blk_frozen BK165.out 0; have hczb163_1 : w253.cell? ⟨gb164, 1, none⟩ = some (.slice A158 t141.length c159) := (blk_cell BK165.out 1).trans rfl; have hfzb163_1 := blk_frozen BK165.out 1; have hczb163_2 : w253.cell? ⟨gb164, 2, none⟩ = some (.slice A161 t142.length c162) := (blk_cell BK165.out 2).trans rfl; have hfzb163_2 := blk_frozen BK165.out 2
  have hl259 := (Kd.R_reads' F137.out).1
  have HL259 := Aside0.mk hl259
  clear hl259
  have hn1_ : decide (t254 < 0) = false := decide_eq_false (by have := H257.out; omega)
  have hd260 := hn1_
  clear hn1_
  go_wp2_with fail
  refine (laws_eqFrame.calls k _ _ t140 _ _ t141 _ _ t142 _ _ t55 _ _ t56 _ _ t57 true _ (Lk.Rr F154.out).2 (Lk.Rr F154.out).1 (Lk.Rr F157.out).2 (Lk.Rr F157.out).1 (Lk.Rr F160.out).2 (Lk.Rr F160.out).1 (Lk.Rr F69.out).2 (Lk.Rr F69.out).1 (Lk.Rr F72.out).2 (Lk.Rr F72.out).1 (Lk.Rr F75.out).2 (Lk.Rr F75.out).1 H262.out).mono ?_
  rintro e_ w263 ⟨rfl, hb⟩
  have hq_ : Below w253.heap.size w253 w263 := ⟨hb.os, hb.tape, hb.output, hb.size, hb.block⟩
  have HZ264 := Aside0.mk (show w253.heap.size ≤ w263.heap.size from hq_.size)
  have hn_ := Aside0.mk (below_then HB.out HB.out.size hq_)
  clear HB
  have HB := hn_
  clear hn_
  have HA265 := Aside0.mk (show w.heap.size ≤ w263.heap.size from HB.out.size)
  have hn_ := Aside0.mk (Kd.R_below F26.out hq_)
  clear F26
  have F26 := hn_
  clear hn_
  have hn_ := Aside0.mk (Kd.R_below F29.out hq_)
  clear F29
  have F29 := hn_
  clear hn_
  have hn_ := Aside0.mk (Kd.S_below F32.out hq_)
  clear F32
  have F32 := hn_
  clear hn_
  have hn_ := Aside0.mk (Kd.R_below F42.out hq_)
  clear F42
  have F42 := hn_
  clear hn_
  have hn_ := Aside0.mk (Kd.R_below F52.out hq_)
  clear F52
  have F52 := hn_
  clear hn_
  have hn_ := Aside0.mk (Kd.R_below F69.out hq_)
  clear F69
  have F69 := hn_
  clear hn_
  have hn_ := Aside0.mk (Kd.R_below F72.out hq_)
  clear F72
  have F72 := hn_
  clear hn_
  have hn_ := Aside0.mk (Kd.R_below F75.out hq_)
  clear F75
  have F75 := hn_
  clear hn_
  have hn_ := Aside0.mk (Kd.R_below F101.out hq_)
  clear F101
  have F101 := hn_
  clear hn_
  have hn_ := Aside0.mk (Kd.R_below F104.out hq_)
  clear F104
  have F104 := hn_
  clear hn_
  have hn_ := Aside0.mk (Kd.S_below F107.out hq_)
  clear F107
  have F107 := hn_
  clear hn_
  have hn_ := Aside0.mk (Kd.R_below F127.out hq_)
  clear F127
  have F127 := hn_
  clear hn_
  have hn_ := Aside0.mk (Kd.R_below F137.out hq_)
  clear F137
  have F137 := hn_
  clear hn_
  have hn_ := Aside0.mk (Kd.R_below F154.out hq_)
  clear F154
  have F154 := hn_
  clear hn_
  have hn_ := Aside0.mk (Kd.R_below F157.out hq_)
  clear F157
  have F157 := hn_
  clear hn_
  have hn_ := Aside0.mk (Kd.R_below F160.out hq_)
  clear F160
  have F160 := hn_
  clear hn_
  have hn_ := Aside0.mk (Kd.R_below F194.out hq_)
  clear F194
  have F194 := hn_
  clear hn_
  have hn_ := Aside0.mk (Kd.R_below F197.out hq_)
  clear F197
  have F197 := hn_
  clear hn_
  have hn_ := Aside0.mk (Kd.S_below F200.out hq_)
  clear F200
  have F200 := hn_
  clear hn_
  have hn_ := Aside0.mk (Kd.R_below F215.out hq_)
  clear F215
  have F215 := hn_
  clear hn_
  have hn_ := Aside0.mk (Kd.R_below F230.out hq_)
  clear F230
  have F230 := hn_
  clear hn_
  have hn_ := Aside0.mk (blk_below BK3.out hq_)
  clear hczb1_0 hfzb1_0; clear hczb1_1 hfzb1_1; clear hczb1_2 hfzb1_2
  clear BK3
  have BK3 := hn_
  clear hn_
  have hn_ := Aside0.mk (blk_below BK80.out hq_)
  clear hczb78_0 hfzb78_0; clear hczb78_1 hfzb78_1; clear hczb78_2 hfzb78_2
  clear BK80
  have BK80 := hn_
  clear hn_
  have hn_ := Aside0.mk (blk_below BK112.out hq_)
  clear hczb110_0 hfzb110_0; clear hczb110_1 hfzb110_1; clear hczb110_2 hfzb110_2
  clear BK112
  have BK112 := hn_
  clear hn_
  have hn_ := Aside0.mk (blk_below BK165.out hq_)
  clear hczb163_0 hfzb163_0; clear hczb163_1 hfzb163_1; clear hczb163_2 hfzb163_2
  clear BK165
  have BK165 := hn_
  clear hn_
  clear hq_
  have hczb1_0 : w263.cell? ⟨gb2, 0, none⟩ = some (.slice A0_0 l0_0.length c0_0) := (blk_cell BK3.out 0).trans rfl; have hfzb1_0 := blk_frozen BK3.out 0; have hczb1_1 : w263.cell? ⟨gb2, 1, none⟩ = some (.slice A0_1 l0_1.length c0_1) := (blk_cell BK3.out 1).trans rfl; have hfzb1_1 := blk_frozen BK3.out 1; have hczb1_2 : w263.cell? ⟨gb2, 2, none⟩ = some (.slice A0_2 l0_2.length c0_2) := (blk_cell BK3.out 2).trans rfl; have hfzb1_2 := blk_frozen BK3.out 2
  have hczb78_0 : w263.cell? ⟨gb79, 0, none⟩ = some (.slice A70 t55.length c71) := (blk_cell BK80.out 0).trans rfl; have hfzb78_0 := blk_frozen BK80.out 0; have hczb78_1 : w263.cell? ⟨gb79, 1, none⟩ = some (.slice A73 t56.length c74) := (blk_cell BK80.out 1).trans rfl; have hfzb78_1 := blk_frozen BK80.out 1; have hczb78_2 : w263.cell? ⟨gb79, 2, none⟩ = some (.slice A76 t57.length c77) := (blk_cell BK80.out 2).trans rfl; have hfzb78_2 := blk_frozen BK80.out 2
  have hczb110_0 : w263.cell? ⟨gb111, 0, none⟩ = some (.slice A102 t88.length c103) := (blk_cell BK112.out 0).trans rfl; have hfzb110_0 := blk_frozen BK112.out 0; have hczb110_1 : w263.cell? ⟨gb111, 1, none⟩ = some (.slice A105 t89.length c106) := (blk_cell BK112.out 1).trans rfl; have hfzb110_1 := blk_frozen BK112.out 1; have hczb110_2 : w263.cell? ⟨gb111, 2, none⟩ = some (.slice A108 t90.length c109) := (blk_cell BK112.out 2).trans rfl; have hfzb110_2 := blk_frozen BK112.out 2
  have hczb163_0 : w263.cell? ⟨gb164, 0, none⟩ = some (.slice A155 t140.length c156) := (blk_cell BK165.out 0).trans rfl; have hfzb163_0 := blk_frozen BK165.out 0; have hczb163_1 : w263.cell? ⟨gb164, 1, none⟩ = some (.slice A158 t141.length c159) := (blk_cell BK165.out 1).trans rfl; have hfzb163_1 := blk_frozen BK165.out 1; have hczb163_2 : w263.cell? ⟨gb164, 2, none⟩ = some (.slice A161 t142.length c162) := (blk_cell BK165.out 2).trans rfl; have hfzb163_2 := blk_frozen BK165.out 2
  clear hb
  go_wp2_with fail
  have hn_ := H267.out
  refine (laws_markFrame.calls (fun k_ => w132.heap.size ≤ k_ ∧ k_ < w145.heap.size) _ t140 _ t141 _ t142 1 w _ HB.out F154.out F157.out F160.out (by omega) hn_).mono ?_
  rintro e_ w266 ⟨rfl, f0_, f1_, f2_, hb0_, hk_⟩
  have hk2_ : Kept w263 w266 (fun k_ => w132.heap.size ≤ k_ ∧ k_ < w145.heap.size) := Kept.mono hk_ (fun k_ h_ => by first | exact h_ | exact h_.1)
  have HZ268 := Aside0.mk (show w263.heap.size ≤ w266.heap.size from hk2_.1)
  clear HB
  have HB := Aside0.mk hb0_
  have hn_ := Aside0.mk (Kd.R_kept F26.out hk2_ (fun k_ h1_ h2_ => by skip; have := HZ40.out; have := HZ50.out; have := HZ67.out; have := HZ83.out; have := HZ86.out; have := HZ99.out; have := HZ115.out; have := HZ118.out; have := HZ125.out; have := HZ135.out; have h3_ := h1_.1; omega))
  clear F26
  have F26 := hn_
  clear hn_
  have hn_ := Aside0.mk (Kd.R_kept F29.out hk2_ (fun k_ h1_ h2_ => by skip; have := HZ40.out; have := HZ50.out; have := HZ67.out; have := HZ83.out; have := HZ86.out; have := HZ99.out; have := HZ115.out; have := HZ118.out; have := HZ125.out; have := HZ135.out; have h3_ := h1_.1; omega))
  clear F29
  have F29 := hn_
  clear hn_
  have hn_ := Aside0.mk (Kd.S_kept F32.out hk2_ (fun k_ h1_ h2_ => by skip; have := HZ40.out; have := HZ50.out; have := HZ67.out; have := HZ83.out; have := HZ86.out; have := HZ99.out; have := HZ115.out; have := HZ118.out; have := HZ125.out; have := HZ135.out; have h3_ := h1_.1; omega))
  clear F32
  have F32 := hn_
  clear hn_
  have hn_ := Aside0.mk (Kd.R_kept F42.out hk2_ (fun k_ h1_ h2_ => by skip; have := HZ50.out; have := HZ67.out; have := HZ83.out; have := HZ86.out; have := HZ99.out; have := HZ115.out; have := HZ118.out; have := HZ125.out; have := HZ135.out; have h3_ := h1_.1; omega))
  clear F42
  have F42 := hn_
  clear hn_
  have hn_ := Aside0.mk (Kd.R_kept F52.out hk2_ (fun k_ h1_ h2_ => by skip; have := HZ67.out; have := HZ83.out; have := HZ86.out; have := HZ99.out; have := HZ115.out; have := HZ118.out; have := HZ125.out; have := HZ135.out; have h3_ := h1_.1; omega))
  clear F52
  have F52 := hn_
  clear hn_
  have hn_ := Aside0.mk (Kd.R_kept F69.out hk2_ (fun k_ h1_ h2_ => by skip; have := HZ83.out; have := HZ86.out; have := HZ99.out; have := HZ115.out; have := HZ118.out; have := HZ125.out; have := HZ135.out; have h3_ := h1_.1; omega))
  clear F69
  have F69 := hn_
  clear hn_
  have hn_ := Aside0.mk (Kd.R_kept F72.out hk2_ (fun k_ h1_ h2_ => by skip; have := HZ83.out; have := HZ86.out; have := HZ99.out; have := HZ115.out; have := HZ118.out; have := HZ125.out; have := HZ135.out; have h3_ := h1_.1; omega))
  clear F72
  have F72 := hn_
  clear hn_
  have hn_ := Aside0.mk (Kd.R_kept F75.out hk2_ (fun k_ h1_ h2_ => by skip; have := HZ83.out; have := HZ86.out; have := HZ99.out; have := HZ115.out; have := HZ118.out; have := HZ125.out; have := HZ135.out; have h3_ := h1_.1; omega))
  clear F75
  have F75 := hn_
  clear hn_
  have hn_ := Aside0.mk (Kd.R_kept F101.out hk2_ (fun k_ h1_ h2_ => by skip; have := HZ115.out; have := HZ118.out; have := HZ125.out; have := HZ135.out; have h3_ := h1_.1; omega))
  clear F101
  have F101 := hn_
  clear hn_
  have hn_ := Aside0.mk (Kd.R_kept F104.out hk2_ (fun k_ h1_ h2_ => by skip; have := HZ115.out; have := HZ118.out; have := HZ125.out; have := HZ135.out; have h3_ := h1_.1; omega))
  clear F104
  have F104 := hn_
  clear hn_
  have hn_ := Aside0.mk (Kd.S_kept F107.out hk2_ (fun k_ h1_ h2_ => by skip; have := HZ115.out; have := HZ118.out; have := HZ125.out; have := HZ135.out; have h3_ := h1_.1; omega))
  clear F107
  have F107 := hn_
  clear hn_
  have hn_ := Aside0.mk (Kd.R_kept F127.out hk2_ (fun k_ h1_ h2_ => by skip; have := HZ135.out; have h3_ := h1_.1; omega))
  clear F127
  have F127 := hn_
  clear hn_
  have hn_ := Aside0.mk (Kd.R_kept F137.out hk2_ (fun k_ h1_ h2_ => by skip; have h3_ := h1_.1; omega))
  clear F137
  have F137 := hn_
  clear hn_
  have hn_ := Aside0.mk (Kd.R_kept F194.out hk2_ (fun k_ h1_ h2_ => by skip; have := HZ168.out; have := HZ171.out; have := HZ176.out; have := HZ179.out; have h3_ := h1_.1; omega))
  clear F194
  have F194 := hn_
  clear hn_
  have hn_ := Aside0.mk (Kd.R_kept F197.out hk2_ (fun k_ h1_ h2_ => by skip; have := HZ168.out; have := HZ171.out; have := HZ176.out; have := HZ179.out; have h3_ := h1_.1; omega))
  clear F197
  have F197 := hn_
  clear hn_
  have hn_ := Aside0.mk (Kd.S_kept F200.out hk2_ (fun k_ h1_ h2_ => by skip; have := HZ168.out; have := HZ171.out; have := HZ176.out; have := HZ179.out; have h3_ := h1_.1; omega))
  clear F200
  have F200 := hn_
  clear hn_
  have hn_ := Aside0.mk (Kd.R_kept F215.out hk2_ (fun k_ h1_ h2_ => by skip; have := HZ168.out; have := HZ171.out; have := HZ176.out; have := HZ179.out; have := HZ192.out; have := HZ206.out; have h3_ := h1_.1; omega))
  clear F215
  have F215 := hn_
  clear hn_
  have hn_ := Aside0.mk (Kd.R_kept F230.out hk2_ (fun k_ h1_ h2_ => by skip; have := HZ168.out; have := HZ171.out; have := HZ176.out; have := HZ179.out; have := HZ192.out; have := HZ206.out; have := HZ213.out; have := HZ221.out; have h3_ := h1_.1; omega))
  clear F230
  have F230 := hn_
  clear hn_
  have hn_ := Aside0.mk (f0_)
  have F154n := hn_
  clear hn_
  have hn_ := Aside0.mk (f1_)
  have F157n := hn_
  clear hn_
  have hn_ := Aside0.mk (f2_)
  have F160n := hn_
  clear hn_
  clear F154
  have F154 := F154n
  clear F154n
  clear F157
  have F157 := F157n
  clear F157n
  clear F160
  have F160 := F160n
  clear F160n
  have hn_ := Aside0.mk (blk_kept BK3.out hk2_ (fun h_ => by skip; have := HZ11.out; have := HZ24.out; have := HZ40.out; have := HZ50.out; have := HZ67.out; have := HZ83.out; have := HZ86.out; have := HZ99.out; have := HZ115.out; have := HZ118.out; have := HZ125.out; have := HZ135.out; have := GQ4.out; omega))
  clear hczb1_0 hfzb1_0; clear hczb1_1 hfzb1_1; clear hczb1_2 hfzb1_2
  clear BK3
  have BK3 := hn_
  clear hn_
  have hn_ := Aside0.mk (blk_kept BK80.out hk2_ (fun h_ => by skip; have := HZ86.out; have := HZ99.out; have := HZ115.out; have := HZ118.out; have := HZ125.out; have := HZ135.out; have := GQ81.out; omega))
  clear hczb78_0 hfzb78_0; clear hczb78_1 hfzb78_1; clear hczb78_2 hfzb78_2
  clear BK80
  have BK80 := hn_
  clear hn_
  have hn_ := Aside0.mk (blk_kept BK112.out hk2_ (fun h_ => by skip; have := HZ118.out; have := HZ125.out; have := HZ135.out; have := GQ113.out; omega))
  clear hczb110_0 hfzb110_0; clear hczb110_1 hfzb110_1; clear hczb110_2 hfzb110_2
  clear BK112
  have BK112 := hn_
  clear hn_
  have hn_ := Aside0.mk (blk_kept BK165.out hk2_ (fun h_ => by skip; have := GQ166.out; omega))
  clear hczb163_0 hfzb163_0; clear hczb163_1 hfzb163_1; clear hczb163_2 hfzb163_2
  clear BK165
  have BK165 := hn_
  clear hn_
  clear hk2_ hk_ hb0_ f0_ f1_ f2_
  have hczb1_0 : w266.cell? ⟨gb2, 0, none⟩ = some (.slice A0_0 l0_0.length c0_0) := (blk_cell BK3.out 0).trans rfl; have hfzb1_0 := blk_frozen BK3.out 0; have hczb1_1 : w266.cell? ⟨gb2, 1, none⟩ = some (.slice A0_1 l0_1.length c0_1) := (blk_cell BK3.out 1).trans rfl; have hfzb1_1 := blk_frozen BK3.out 1; have hczb1_2 : w266.cell? ⟨gb2, 2, none⟩ = some (.slice A0_2 l0_2.length c0_2) := (blk_cell BK3.out 2).trans rfl; have hfzb1_2 := blk_frozen BK3.out 2
  have hczb78_0 : w266.cell? ⟨gb79, 0, none⟩ = some (.slice A70 t55.length c71) := (blk_cell BK80.out 0).trans rfl; have hfzb78_0 := blk_frozen BK80.out 0; have hczb78_1 : w266.cell? ⟨gb79, 1, none⟩ = some (.slice A73 t56.length c74) := (blk_cell BK80.out 1).trans rfl; have hfzb78_1 := blk_frozen BK80.out 1; have hczb78_2 : w266.cell? ⟨gb79, 2, none⟩ = some (.slice A76 t57.length c77) := (blk_cell BK80.out 2).trans rfl; have hfzb78_2 := blk_frozen BK80.out 2
  have hczb110_0 : w266.cell? ⟨gb111, 0, none⟩ = some (.slice A102 t88.length c103) := (blk_cell BK112.out 0).trans rfl; have hfzb110_0 := blk_frozen BK112.out 0; have hczb110_1 : w266.cell? ⟨gb111, 1, none⟩ = some (.slice A105 t89.length c106) := (blk_cell BK112.out 1).trans rfl; have hfzb110_1 := blk_frozen BK112.out 1; have hczb110_2 : w266.cell? ⟨gb111, 2, none⟩ = some (.slice A108 t90.length c109) := (blk_cell BK112.out 2).trans rfl; have hfzb110_2 := blk_frozen BK112.out 2
  have hczb163_0 : w266.cell? ⟨gb164, 0, none⟩ = some (.slice A155 t140.length c156) := (blk_cell BK165.out 0).trans rfl; have hfzb163_0 := blk_frozen BK165.out 0; have hczb163_1 : w266.cell? ⟨gb164, 1, none⟩ = some (.slice A158 t141.length c159) := (blk_cell BK165.out 1).trans rfl; have hfzb163_1 := blk_frozen BK165.out 1; have hczb163_2 : w266.cell? ⟨gb164, 2, none⟩ = some (.slice A161 t142.length c162) := (blk_cell BK165.out 2).trans rfl; have hfzb163_2 := blk_frozen BK165.out 2
  have hl269 := (Kd.R_reads' F154.out).1
  have HL269 := Aside0.mk hl269
  clear hl269
  have hl270 := (Kd.R_reads' F157.out).1
  have HL270 := Aside0.mk hl270
  clear hl270
  have hl271 := (Kd.R_reads' F160.out).1
  have HL271 := Aside0.mk hl271
  clear hl271
  have hn1_ : decide ((1 + (t140.length : Nat) + (t141.length : Nat) + (t142.length : Nat) : Int) < 0) = false := decide_eq_false (by omega)
  have hd272 := hn1_
  clear hn1_
  go_wp2_with fail
  have hc_ := laws_heldFrame.calls k _ _ (Kit.from_ (1) t140.length) _ _ (Kit.from_ (1 + (t140.length : Nat)) t141.length) _ _ (Kit.from_ (1 + (t140.length : Nat) + (t141.length : Nat)) t142.length) 1 (1 + (t140.length : Nat) + (t141.length : Nat) + (t142.length : Nat) : Int) _ (Lk.Rr F154.out).2 (Lk.Rr F154.out).1 (Lk.Rr F157.out).2 (Lk.Rr F157.out).1 (Lk.Rr F160.out).2 (Lk.Rr F160.out).1 H274.out
  simp only [← HL269.out, ← HL270.out, ← HL271.out] at hc_
  refine hc_.mono ?_
  clear hc_
  rintro e_ w275 ⟨rfl, hb⟩
  have hq_ : Below w266.heap.size w266 w275 := ⟨hb.os, hb.tape, hb.output, hb.size, hb.block⟩
  have HZ276 := Aside0.mk (show w266.heap.size ≤ w275.heap.size from hq_.size)
  have hn_ := Aside0.mk (below_then HB.out HB.out.size hq_)
  clear HB
  have HB := hn_
  clear hn_
  have HA277 := Aside0.mk (show w.heap.size ≤ w275.heap.size from HB.out.size)
  have hn_ := Aside0.mk (Kd.R_below F26.out hq_)
  clear F26
  have F26 := hn_
  clear hn_
  have hn_ := Aside0.mk (Kd.R_below F29.out hq_)
  clear F29
  have F29 := hn_
  clear hn_
  have hn_ := Aside0.mk (Kd.S_below F32.out hq_)
  clear F32
  have F32 := hn_
  clear hn_
  have hn_ := Aside0.mk (Kd.R_below F42.out hq_)
  clear F42
  have F42 := hn_
  clear hn_
  have hn_ := Aside0.mk (Kd.R_below F52.out hq_)
  clear F52
  have F52 := hn_
  clear hn_
  have hn_ := Aside0.mk (Kd.R_below F69.out hq_)
  clear F69
  have F69 := hn_
  clear hn_
  have hn_ := Aside0.mk (Kd.R_below F72.out hq_)
  clear F72
  have F72 := hn_
  clear hn_
  have hn_ := Aside0.mk (Kd.R_below F75.out hq_)
  clear F75
  have F75 := hn_
  clear hn_
  have hn_ := Aside0.mk (Kd.R_below F101.out hq_)
  clear F101
  have F101 := hn_
  clear hn_
  have hn_ := Aside0.mk (Kd.R_below F104.out hq_)
  clear F104
  have F104 := hn_
  clear hn_
  have hn_ := Aside0.mk (Kd.S_below F107.out hq_)
  clear F107
  have F107 := hn_
  clear hn_
  have hn_ := Aside0.mk (Kd.R_below F127.out hq_)
  clear F127
  have F127 := hn_
  clear hn_
  have hn_ := Aside0.mk (Kd.R_below F137.out hq_)
  clear F137
  have F137 := hn_
  clear hn_
  have hn_ := Aside0.mk (Kd.R_below F154.out hq_)
  clear F154
  have F154 := hn_
  clear hn_
  have hn_ := Aside0.mk (Kd.R_below F157.out hq_)
  clear F157
  have F157 := hn_
  clear hn_
  have hn_ := Aside0.mk (Kd.R_below F160.out hq_)
  clear F160
  have F160 := hn_
  clear hn_
  have hn_ := Aside0.mk (Kd.R_below F194.out hq_)
  clear F194
  have F194 := hn_
  clear hn_
  have hn_ := Aside0.mk (Kd.R_below F197.out hq_)
  clear F197
  have F197 := hn_
  clear hn_
  have hn_ := Aside0.mk (Kd.S_below F200.out hq_)
  clear F200
  have F200 := hn_
  clear hn_
  have hn_ := Aside0.mk (Kd.R_below F215.out hq_)
  clear F215
  have F215 := hn_
  clear hn_
  have hn_ := Aside0.mk (Kd.R_below F230.out hq_)
  clear F230
  have F230 := hn_
  clear hn_
  have hn_ := Aside0.mk (blk_below BK3.out hq_)
  clear hczb1_0 hfzb1_0; clear hczb1_1 hfzb1_1; clear hczb1_2 hfzb1_2
  clear BK3
  have BK3 := hn_
  clear hn_
  have hn_ := Aside0.mk (blk_below BK80.out hq_)
  clear hczb78_0 hfzb78_0; clear hczb78_1 hfzb78_1; clear hczb78_2 hfzb78_2
  clear BK80
  have BK80 := hn_
  clear hn_
  have hn_ := Aside0.mk (blk_below BK112.out hq_)
  clear hczb110_0 hfzb110_0; clear hczb110_1 hfzb110_1; clear hczb110_2 hfzb110_2
  clear BK112
  have BK112 := hn_
  clear hn_
  have hn_ := Aside0.mk (blk_below BK165.out hq_)
  clear hczb163_0 hfzb163_0; clear hczb163_1 hfzb163_1; clear hczb163_2 hfzb163_2
  clear BK165
  have BK165 := hn_
  clear hn_
  clear hq_
  have hczb1_0 : w275.cell? ⟨gb2, 0, none⟩ = some (.slice A0_0 l0_0.length c0_0) := (blk_cell BK3.out 0).trans rfl; have hfzb1_0 := blk_frozen BK3.out 0; have hczb1_1 : w275.cell? ⟨gb2, 1, none⟩ = some (.slice A0_1 l0_1.length c0_1) := (blk_cell BK3.out 1).trans rfl; have hfzb1_1 := blk_frozen BK3.out 1; have hczb1_2 : w275.cell? ⟨gb2, 2, none⟩ = some (.slice A0_2 l0_2.length c0_2) := (blk_cell BK3.out 2).trans rfl; have hfzb1_2 := blk_frozen BK3.out 2
  have hczb78_0 : w275.cell? ⟨gb79, 0, none⟩ = some (.slice A70 t55.length c71) := (blk_cell BK80.out 0).trans rfl; have hfzb78_0 := blk_frozen BK80.out 0; have hczb78_1 : w275.cell? ⟨gb79, 1, none⟩ = some (.slice A73 t56.length c74) := (blk_cell BK80.out 1).trans rfl; have hfzb78_1 := blk_frozen BK80.out 1; have hczb78_2 : w275.cell? ⟨gb79, 2, none⟩ = some (.slice A76 t57.length c77) := (blk_cell BK80.out 2).trans rfl; have hfzb78_2 := blk_frozen BK80.out 2
  have hczb110_0 : w275.cell? ⟨gb111, 0, none⟩ = some (.slice A102 t88.length c103) := (blk_cell BK112.out 0).trans rfl; have hfzb110_0 := blk_frozen BK112.out 0; have hczb110_1 : w275.cell? ⟨gb111, 1, none⟩ = some (.slice A105 t89.length c106) := (blk_cell BK112.out 1).trans rfl; have hfzb110_1 := blk_frozen BK112.out 1; have hczb110_2 : w275.cell? ⟨gb111, 2, none⟩ = some (.slice A108 t90.length c109) := (blk_cell BK112.out 2).trans rfl; have hfzb110_2 := blk_frozen BK112.out 2
  have hczb163_0 : w275.cell? ⟨gb164, 0, none⟩ = some (.slice A155 t140.length c156) := (blk_cell BK165.out 0).trans rfl; have hfzb163_0 := blk_frozen BK165.out 0; have hczb163_1 : w275.cell? ⟨gb164, 1, none⟩ = some (.slice A158 t141.length c159) := (blk_cell BK165.out 1).trans rfl; have hfzb163_1 := blk_frozen BK165.out 1; have hczb163_2 : w275.cell? ⟨gb164, 2, none⟩ = some (.slice A161 t142.length c162) := (blk_cell BK165.out 2).trans rfl; have hfzb163_2 := blk_frozen BK165.out 2
  clear hb
  go_wp2_with fail
  refine (laws_toTranslated.calls k _ _ l0_0 _ _ l0_1 _ _ l0_2 t278 t279 t280 _ (Kd.C_below HR0_0.out HB.out) HC0_0.out (Kd.C_below HR0_1.out HB.out) HC0_1.out (Kd.C_below HR0_2.out HB.out) HC0_2.out H281.out).mono ?_
  rintro e_ w282 ⟨v283, v284, v285, rfl, f286, f287, f288, hb⟩
  have hq_ : Below w275.heap.size w275 w282 := ⟨hb.os, hb.tape, hb.output, hb.size, hb.block⟩
  have HZ289 := Aside0.mk (show w275.heap.size ≤ w282.heap.size from hq_.size)
  have hn_ := Aside0.mk (below_then HB.out HB.out.size hq_)
  clear HB
  have HB := hn_
  clear hn_
  have HA290 := Aside0.mk (show w.heap.size ≤ w282.heap.size from HB.out.size)
  have hn_ := Aside0.mk (Kd.R_below F26.out hq_)
  clear F26
  have F26 := hn_
  clear hn_
  have hn_ := Aside0.mk (Kd.R_below F29.out hq_)
  clear F29
  have F29 := hn_
  clear hn_
  have hn_ := Aside0.mk (Kd.S_below F32.out hq_)
  clear F32
  have F32 := hn_
  clear hn_
  have hn_ := Aside0.mk (Kd.R_below F42.out hq_)
  clear F42
  have F42 := hn_
  clear hn_
  have hn_ := Aside0.mk (Kd.R_below F52.out hq_)
  clear F52
  have F52 := hn_
  clear hn_
  have hn_ := Aside0.mk (Kd.R_below F69.out hq_)
  clear F69
  have F69 := hn_
  clear hn_
  have hn_ := Aside0.mk (Kd.R_below F72.out hq_)
  clear F72
  have F72 := hn_
  clear hn_
  have hn_ := Aside0.mk (Kd.R_below F75.out hq_)
  clear F75
  have F75 := hn_
  clear hn_
  have hn_ := Aside0.mk (Kd.R_below F101.out hq_)
  clear F101
  have F101 := hn_
  clear hn_
  have hn_ := Aside0.mk (Kd.R_below F104.out hq_)
  clear F104
  have F104 := hn_
  clear hn_
  have hn_ := Aside0.mk (Kd.S_below F107.out hq_)
  clear F107
  have F107 := hn_
  clear hn_
  have hn_ := Aside0.mk (Kd.R_below F127.out hq_)
  clear F127
  have F127 := hn_
  clear hn_
  have hn_ := Aside0.mk (Kd.R_below F137.out hq_)
  clear F137
  have F137 := hn_
  clear hn_
  have hn_ := Aside0.mk (Kd.R_below F154.out hq_)
  clear F154
  have F154 := hn_
  clear hn_
  have hn_ := Aside0.mk (Kd.R_below F157.out hq_)
  clear F157
  have F157 := hn_
  clear hn_
  have hn_ := Aside0.mk (Kd.R_below F160.out hq_)
  clear F160
  have F160 := hn_
  clear hn_
  have hn_ := Aside0.mk (Kd.R_below F194.out hq_)
  clear F194
  have F194 := hn_
  clear hn_
  have hn_ := Aside0.mk (Kd.R_below F197.out hq_)
  clear F197
  have F197 := hn_
  clear hn_
  have hn_ := Aside0.mk (Kd.S_below F200.out hq_)
  clear F200
  have F200 := hn_
  clear hn_
  have hn_ := Aside0.mk (Kd.R_below F215.out hq_)
  clear F215
  have F215 := hn_
  clear hn_
  have hn_ := Aside0.mk (Kd.R_below F230.out hq_)
  clear F230
  have F230 := hn_
  clear hn_
  have hn_ := Aside0.mk (blk_below BK3.out hq_)
  clear hczb1_0 hfzb1_0; clear hczb1_1 hfzb1_1; clear hczb1_2 hfzb1_2
  clear BK3
  have BK3 := hn_
  clear hn_
  have hn_ := Aside0.mk (blk_below BK80.out hq_)
  clear hczb78_0 hfzb78_0; clear hczb78_1 hfzb78_1; clear hczb78_2 hfzb78_2
  clear BK80
  have BK80 := hn_
  clear hn_
  have hn_ := Aside0.mk (blk_below BK112.out hq_)
  clear hczb110_0 hfzb110_0; clear hczb110_1 hfzb110_1; clear hczb110_2 hfzb110_2
  clear BK112
  have BK112 := hn_
  clear hn_
  have hn_ := Aside0.mk (blk_below BK165.out hq_)
  clear hczb163_0 hfzb163_0; clear hczb163_1 hfzb163_1; clear hczb163_2 hfzb163_2
  clear BK165
  have BK165 := hn_
  clear hn_
  clear hq_
  have hczb1_0 : w282.cell? ⟨gb2, 0, none⟩ = some (.slice A0_0 l0_0.length c0_0) := (blk_cell BK3.out 0).trans rfl; have hfzb1_0 := blk_frozen BK3.out 0; have hczb1_1 : w282.cell? ⟨gb2, 1, none⟩ = some (.slice A0_1 l0_1.length c0_1) := (blk_cell BK3.out 1).trans rfl; have hfzb1_1 := blk_frozen BK3.out 1; have hczb1_2 : w282.cell? ⟨gb2, 2, none⟩ = some (.slice A0_2 l0_2.length c0_2) := (blk_cell BK3.out 2).trans rfl; have hfzb1_2 := blk_frozen BK3.out 2
  have hczb78_0 : w282.cell? ⟨gb79, 0, none⟩ = some (.slice A70 t55.length c71) := (blk_cell BK80.out 0).trans rfl; have hfzb78_0 := blk_frozen BK80.out 0; have hczb78_1 : w282.cell? ⟨gb79, 1, none⟩ = some (.slice A73 t56.length c74) := (blk_cell BK80.out 1).trans rfl; have hfzb78_1 := blk_frozen BK80.out 1; have hczb78_2 : w282.cell? ⟨gb79, 2, none⟩ = some (.slice A76 t57.length c77) := (blk_cell BK80.out 2).trans rfl; have hfzb78_2 := blk_frozen BK80.out 2
  have hczb110_0 : w282.cell? ⟨gb111, 0, none⟩ = some (.slice A102 t88.length c103) := (blk_cell BK112.out 0).trans rfl; have hfzb110_0 := blk_frozen BK112.out 0; have hczb110_1 : w282.cell? ⟨gb111, 1, none⟩ = some (.slice A105 t89.length c106) := (blk_cell BK112.out 1).trans rfl; have hfzb110_1 := blk_frozen BK112.out 1; have hczb110_2 : w282.cell? ⟨gb111, 2, none⟩ = some (.slice A108 t90.length c109) := (blk_cell BK112.out 2).trans rfl; have hfzb110_2 := blk_frozen BK112.out 2
  have hczb163_0 : w282.cell? ⟨gb164, 0, none⟩ = some (.slice A155 t140.length c156) := (blk_cell BK165.out 0).trans rfl; have hfzb163_0 := blk_frozen BK165.out 0; have hczb163_1 : w282.cell? ⟨gb164, 1, none⟩ = some (.slice A158 t141.length c159) := (blk_cell BK165.out 1).trans rfl; have hfzb163_1 := blk_frozen BK165.out 1; have hczb163_2 : w282.cell? ⟨gb164, 2, none⟩ = some (.slice A161 t142.length c162) := (blk_cell BK165.out 2).trans rfl; have hfzb163_2 := blk_frozen BK165.out 2
  clear hb
  have F291 := Aside0.mk (Lk.newR (b := w275.heap.size) (base := w.heap.size) (Sep := fun k_ => True) rfl f286 (HA277.out) (fun k_ hk_ => hk_))
  clear f286
  have F294 := Aside0.mk (Lk.newR (b := w275.heap.size) (base := w.heap.size) (Sep := fun k_ => True) rfl f287 (HA277.out) (fun k_ hk_ => hk_))
  clear f287
  have F297 := Aside0.mk (Lk.newS (b := w275.heap.size) (base := w.heap.size) (Sep := fun k_ => True) f288 (HA277.out) (fun k_ hk_ => hk_))
  clear f288
  obtain ⟨A292, c293, e_⟩ := Kd.R_slice F291.out
  subst e_
  obtain ⟨A295, c296, e_⟩ := Kd.R_slice F294.out
  subst e_
  obtain ⟨A298, c299, e_⟩ := Kd.S_slice F297.out
  subst e_
  go_wp2_with fail
  refine (laws_toIntS.calls k _ _ l2 t300 _ (Kd.C_below HR2.out HB.out) HC2.out H301.out).mono ?_
  rintro e_ w302 ⟨v303, rfl, f304, hb⟩
  have hq_ : Below w282.heap.size w282 w302 := ⟨hb.os, hb.tape, hb.output, hb.size, hb.block⟩
  have HZ305 := Aside0.mk (show w282.heap.size ≤ w302.heap.size from hq_.size)
  have hn_ := Aside0.mk (below_then HB.out HB.out.size hq_)
  clear HB
  have HB := hn_
  clear hn_
  have HA306 := Aside0.mk (show w.heap.size ≤ w302.heap.size from HB.out.size)
  have hn_ := Aside0.mk (Kd.R_below F26.out hq_)
  clear F26
  have F26 := hn_
  clear hn_
  have hn_ := Aside0.mk (Kd.R_below F29.out hq_)
  clear F29
  have F29 := hn_
  clear hn_
  have hn_ := Aside0.mk (Kd.S_below F32.out hq_)
  clear F32
  have F32 := hn_
  clear hn_
  have hn_ := Aside0.mk (Kd.R_below F42.out hq_)
  clear F42
  have F42 := hn_
  clear hn_
  have hn_ := Aside0.mk (Kd.R_below F52.out hq_)
  clear F52
  have F52 := hn_
  clear hn_
  have hn_ := Aside0.mk (Kd.R_below F69.out hq_)
  clear F69
  have F69 := hn_
  clear hn_
  have hn_ := Aside0.mk (Kd.R_below F72.out hq_)
  clear F72
  have F72 := hn_
  clear hn_
  have hn_ := Aside0.mk (Kd.R_below F75.out hq_)
  clear F75
  have F75 := hn_
  clear hn_
  have hn_ := Aside0.mk (Kd.R_below F101.out hq_)
  clear F101
  have F101 := hn_
  clear hn_
  have hn_ := Aside0.mk (Kd.R_below F104.out hq_)
  clear F104
  have F104 := hn_
  clear hn_
  have hn_ := Aside0.mk (Kd.S_below F107.out hq_)
  clear F107
  have F107 := hn_
  clear hn_
  have hn_ := Aside0.mk (Kd.R_below F127.out hq_)
  clear F127
  have F127 := hn_
  clear hn_
  have hn_ := Aside0.mk (Kd.R_below F137.out hq_)
  clear F137
  have F137 := hn_
  clear hn_
  have hn_ := Aside0.mk (Kd.R_below F154.out hq_)
  clear F154
  have F154 := hn_
  clear hn_
  have hn_ := Aside0.mk (Kd.R_below F157.out hq_)
  clear F157
  have F157 := hn_
  clear hn_
  have hn_ := Aside0.mk (Kd.R_below F160.out hq_)
  clear F160
  have F160 := hn_
  clear hn_
  have hn_ := Aside0.mk (Kd.R_below F194.out hq_)
  clear F194
  have F194 := hn_
  clear hn_
  have hn_ := Aside0.mk (Kd.R_below F197.out hq_)
  clear F197
  have F197 := hn_
  clear hn_
  have hn_ := Aside0.mk (Kd.S_below F200.out hq_)
  clear F200
  have F200 := hn_
  clear hn_
  have hn_ := Aside0.mk (Kd.R_below F215.out hq_)
  clear F215
  have F215 := hn_
  clear hn_
  have hn_ := Aside0.mk (Kd.R_below F230.out hq_)
  clear F230
  have F230 := hn_
  clear hn_
  have hn_ := Aside0.mk (Kd.R_below F291.out hq_)
  clear F291
  have F291 := hn_
  clear hn_
  have hn_ := Aside0.mk (Kd.R_below F294.out hq_)
  clear F294
  have F294 := hn_
  clear hn_
  have hn_ := Aside0.mk (Kd.S_below F297.out hq_)
  clear F297
  have F297 := hn_
  clear hn_
  have hn_ := Aside0.mk (blk_below BK3.out hq_)
  clear hczb1_0 hfzb1_0; clear hczb1_1 hfzb1_1; clear hczb1_2 hfzb1_2
  clear BK3
  have BK3 := hn_
  clear hn_
  have hn_ := Aside0.mk (blk_below BK80.out hq_)
  clear hczb78_0 hfzb78_0; clear hczb78_1 hfzb78_1; clear hczb78_2 hfzb78_2
  clear BK80
  have BK80 := hn_
  clear hn_
  have hn_ := Aside0.mk (blk_below BK112.out hq_)
  clear hczb110_0 hfzb110_0; clear hczb110_1 hfzb110_1; clear hczb110_2 hfzb110_2
  clear BK112
  have BK112 := hn_
  clear hn_
  have hn_ := Aside0.mk (blk_below BK165.out hq_)
  clear hczb163_0 hfzb163_0; clear hczb163_1 hfzb163_1; clear hczb163_2 hfzb163_2
  clear BK165
  have BK165 := hn_
  clear hn_
  clear hq_
  have hczb1_0 : w302.cell? ⟨gb2, 0, none⟩ = some (.slice A0_0 l0_0.length c0_0) := (blk_cell BK3.out 0).trans rfl; have hfzb1_0 := blk_frozen BK3.out 0; have hczb1_1 : w302.cell? ⟨gb2, 1, none⟩ = some (.slice A0_1 l0_1.length c0_1) := (blk_cell BK3.out 1).trans rfl; have hfzb1_1 := blk_frozen BK3.out 1; have hczb1_2 : w302.cell? ⟨gb2, 2, none⟩ = some (.slice A0_2 l0_2.length c0_2) := (blk_cell BK3.out 2).trans rfl; have hfzb1_2 := blk_frozen BK3.out 2
  have hczb78_0 : w302.cell? ⟨gb79, 0, none⟩ = some (.slice A70 t55.length c71) := (blk_cell BK80.out 0).trans rfl; have hfzb78_0 := blk_frozen BK80.out 0; have hczb78_1 : w302.cell? ⟨gb79, 1, none⟩ = some (.slice A73 t56.length c74) := (blk_cell BK80.out 1).trans rfl; have hfzb78_1 := blk_frozen BK80.out 1; have hczb78_2 : w302.cell? ⟨gb79, 2, none⟩ = some (.slice A76 t57.length c77) := (blk_cell BK80.out 2).trans rfl; have hfzb78_2 := blk_frozen BK80.out 2
  have hczb110_0 : w302.cell? ⟨gb111, 0, none⟩ = some (.slice A102 t88.length c103) := (blk_cell BK112.out 0).trans rfl; have hfzb110_0 := blk_frozen BK112.out 0; have hczb110_1 : w302.cell? ⟨gb111, 1, none⟩ = some (.slice A105 t89.length c106) := (blk_cell BK112.out 1).trans rfl; have hfzb110_1 := blk_frozen BK112.out 1; have hczb110_2 : w302.cell? ⟨gb111, 2, none⟩ = some (.slice A108 t90.length c109) := (blk_cell BK112.out 2).trans rfl; have hfzb110_2 := blk_frozen BK112.out 2
  have hczb163_0 : w302.cell? ⟨gb164, 0, none⟩ = some (.slice A155 t140.length c156) := (blk_cell BK165.out 0).trans rfl; have hfzb163_0 := blk_frozen BK165.out 0; have hczb163_1 : w302.cell? ⟨gb164, 1, none⟩ = some (.slice A158 t141.length c159) := (blk_cell BK165.out 1).trans rfl; have hfzb163_1 := blk_frozen BK165.out 1; have hczb163_2 : w302.cell? ⟨gb164, 2, none⟩ = some (.slice A161 t142.length c162) := (blk_cell BK165.out 2).trans rfl; have hfzb163_2 := blk_frozen BK165.out 2
  clear hb
  have F307 := Aside0.mk (Lk.newR (b := w282.heap.size) (base := w.heap.size) (Sep := fun k_ => True) rfl f304 (HA290.out) (fun k_ hk_ => hk_))
  clear f304
  obtain ⟨A308, c309, e_⟩ := Kd.R_slice F307.out
  subst e_
  go_wp2_with fail
  refine (laws_toIntS.calls k _ _ l3 t310 _ (Kd.C_below HR3.out HB.out) HC3.out H311.out).mono ?_
  rintro e_ w312 ⟨v313, rfl, f314, hb⟩
  have hq_ : Below w302.heap.size w302 w312 := ⟨hb.os, hb.tape, hb.output, hb.size, hb.block⟩
  have HZ315 := Aside0.mk (show w302.heap.size ≤ w312.heap.size from hq_.size)
  have hn_ := Aside0.mk (below_then HB.out HB.out.size hq_)
  clear HB
  have HB := hn_
  clear hn_
  have HA316 := Aside0.mk (show w.heap.size ≤ w312.heap.size from HB.out.size)
  have hn_ := Aside0.mk (Kd.R_below F26.out hq_)
  clear F26
  have F26 := hn_
  clear hn_
  have hn_ := Aside0.mk (Kd.R_below F29.out hq_)
  clear F29
  have F29 := hn_
  clear hn_
  have hn_ := Aside0.mk (Kd.S_below F32.out hq_)
  clear F32
  have F32 := hn_
  clear hn_
  have hn_ := Aside0.mk (Kd.R_below F42.out hq_)
  clear F42
  have F42 := hn_
  clear hn_
  have hn_ := Aside0.mk (Kd.R_below F52.out hq_)
  clear F52
  have F52 := hn_
  clear hn_
  have hn_ := Aside0.mk (Kd.R_below F69.out hq_)
  clear F69
  have F69 := hn_
  clear hn_
  have hn_ := Aside0.mk (Kd.R_below F72.out hq_)
  clear F72
  have F72 := hn_
  clear hn_
  have hn_ := Aside0.mk (Kd.R_below F75.out hq_)
  clear F75
  have F75 := hn_
  clear hn_
  have hn_ := Aside0.mk (Kd.R_below F101.out hq_)
  clear F101
  have F101 := hn_
  clear hn_
  have hn_ := Aside0.mk (Kd.R_below F104.out hq_)
  clear F104
  have F104 := hn_
  clear hn_
  have hn_ := Aside0.mk (Kd.S_below F107.out hq_)
  clear F107
  have F107 := hn_
  clear hn_
  have hn_ := Aside0.mk (Kd.R_below F127.out hq_)
  clear F127
  have F127 := hn_
  clear hn_
  have hn_ := Aside0.mk (Kd.R_below F137.out hq_)
  clear F137
  have F137 := hn_
  clear hn_
  have hn_ := Aside0.mk (Kd.R_below F154.out hq_)
  clear F154
  have F154 := hn_
  clear hn_
  have hn_ := Aside0.mk (Kd.R_below F157.out hq_)
  clear F157
  have F157 := hn_
  clear hn_
  have hn_ := Aside0.mk (Kd.R_below F160.out hq_)
  clear F160
  have F160 := hn_
  clear hn_
  have hn_ := Aside0.mk (Kd.R_below F194.out hq_)
  clear F194
  have F194 := hn_
  clear hn_
  have hn_ := Aside0.mk (Kd.R_below F197.out hq_)
  clear F197
  have F197 := hn_
  clear hn_
  have hn_ := Aside0.mk (Kd.S_below F200.out hq_)
  clear F200
  have F200 := hn_
  clear hn_
  have hn_ := Aside0.mk (Kd.R_below F215.out hq_)
  clear F215
  have F215 := hn_
  clear hn_
  have hn_ := Aside0.mk (Kd.R_below F230.out hq_)
  clear F230
  have F230 := hn_
  clear hn_
  have hn_ := Aside0.mk (Kd.R_below F291.out hq_)
  clear F291
  have F291 := hn_
  clear hn_
  have hn_ := Aside0.mk (Kd.R_below F294.out hq_)
  clear F294
  have F294 := hn_
  clear hn_
  have hn_ := Aside0.mk (Kd.S_below F297.out hq_)
  clear F297
  have F297 := hn_
  clear hn_
  have hn_ := Aside0.mk (Kd.R_below F307.out hq_)
  clear F307
  have F307 := hn_
  clear hn_
  have hn_ := Aside0.mk (blk_below BK3.out hq_)
  clear hczb1_0 hfzb1_0; clear hczb1_1 hfzb1_1; clear hczb1_2 hfzb1_2
  clear BK3
  have BK3 := hn_
  clear hn_
  have hn_ := Aside0.mk (blk_below BK80.out hq_)
  clear hczb78_0 hfzb78_0; clear hczb78_1 hfzb78_1; clear hczb78_2 hfzb78_2
  clear BK80
  have BK80 := hn_
  clear hn_
  have hn_ := Aside0.mk (blk_below BK112.out hq_)
  clear hczb110_0 hfzb110_0; clear hczb110_1 hfzb110_1; clear hczb110_2 hfzb110_2
  clear BK112
  have BK112 := hn_
  clear hn_
  have hn_ := Aside0.mk (blk_below BK165.out hq_)
  clear hczb163_0 hfzb163_0; clear hczb163_1 hfzb163_1; clear hczb163_2 hfzb163_2
  clear BK165
  have BK165 := hn_
  clear hn_
  clear hq_
  have hczb1_0 : w312.cell? ⟨gb2, 0, none⟩ = some (.slice A0_0 l0_0.length c0_0) := (blk_cell BK3.out 0).trans rfl; have hfzb1_0 := blk_frozen BK3.out 0; have hczb1_1 : w312.cell? ⟨gb2, 1, none⟩ = some (.slice A0_1 l0_1.length c0_1) := (blk_cell BK3.out 1).trans rfl; have hfzb1_1 := blk_frozen BK3.out 1; have hczb1_2 : w312.cell? ⟨gb2, 2, none⟩ = some (.slice A0_2 l0_2.length c0_2) := (blk_cell BK3.out 2).trans rfl; have hfzb1_2 := blk_frozen BK3.out 2
  have hczb78_0 : w312.cell? ⟨gb79, 0, none⟩ = some (.slice A70 t55.length c71) := (blk_cell BK80.out 0).trans rfl; have hfzb78_0 := blk_frozen BK80.out 0; have hczb78_1 : w312.cell? ⟨gb79, 1, none⟩ = some (.slice A73 t56.length c74) := (blk_cell BK80.out 1).trans rfl; have hfzb78_1 := blk_frozen BK80.out 1; have hczb78_2 : w312.cell? ⟨gb79, 2, none⟩ = some (.slice A76 t57.length c77) := (blk_cell BK80.out 2).trans rfl; have hfzb78_2 := blk_frozen BK80.out 2
  have hczb110_0 : w312.cell? ⟨gb111, 0, none⟩ = some (.slice A102 t88.length c103) := (blk_cell BK112.out 0).trans rfl; have hfzb110_0 := blk_frozen BK112.out 0; have hczb110_1 : w312.cell? ⟨gb111, 1, none⟩ = some (.slice A105 t89.length c106) := (blk_cell BK112.out 1).trans rfl; have hfzb110_1 := blk_frozen BK112.out 1; have hczb110_2 : w312.cell? ⟨gb111, 2, none⟩ = some (.slice A108 t90.length c109) := (blk_cell BK112.out 2).trans rfl; have hfzb110_2 := blk_frozen BK112.out 2
  have hczb163_0 : w312.cell? ⟨gb164, 0, none⟩ = some (.slice A155 t140.length c156) := (blk_cell BK165.out 0).trans rfl; have hfzb163_0 := blk_frozen BK165.out 0; have hczb163_1 : w312.cell? ⟨gb164, 1, none⟩ = some (.slice A158 t141.length c159) := (blk_cell BK165.out 1).trans rfl; have hfzb163_1 := blk_frozen BK165.out 1; have hczb163_2 : w312.cell? ⟨gb164, 2, none⟩ = some (.slice A161 t142.length c162) := (blk_cell BK165.out 2).trans rfl; have hfzb163_2 := blk_frozen BK165.out 2
  clear hb
  have F317 := Aside0.mk (Lk.newR (b := w302.heap.size) (base := w.heap.size) (Sep := fun k_ => True) rfl f314 (HA306.out) (fun k_ hk_ => hk_))
  clear f314
  obtain ⟨A318, c319, e_⟩ := Kd.R_slice F317.out
  subst e_
  go_wp2_with fail
  refine (impl_LeaveAt.calls k _ _ t278 _ _ t279 _ _ t280 a1 _ _ t300 _ _ t310 t320 t321 t322 t58 _ (Lk.Rr F291.out).2 (Lk.Rr F291.out).1 (Lk.Rr F294.out).2 (Lk.Rr F294.out).1 (Lk.Sr F297.out).2 (Lk.Sr F297.out).1 (Lk.Rr F307.out).2 (Lk.Rr F307.out).1 (Lk.Rr F317.out).2 (Lk.Rr F317.out).1 H324.out).mono ?_
  rintro e_ w325 ⟨v326, v327, v328, rfl, f329, f330, f331, hb⟩
  have hq_ : Below w312.heap.size w312 w325 := ⟨hb.os, hb.tape, hb.output, hb.size, hb.block⟩
  have HZ332 := Aside0.mk (show w312.heap.size ≤ w325.heap.size from hq_.size)
  have hn_ := Aside0.mk (below_then HB.out HB.out.size hq_)
  clear HB
  have HB := hn_
  clear hn_
  have HA333 := Aside0.mk (show w.heap.size ≤ w325.heap.size from HB.out.size)
  have hn_ := Aside0.mk (Kd.R_below F26.out hq_)
  clear F26
  have F26 := hn_
  clear hn_
  have hn_ := Aside0.mk (Kd.R_below F29.out hq_)
  clear F29
  have F29 := hn_
  clear hn_
  have hn_ := Aside0.mk (Kd.S_below F32.out hq_)
  clear F32
  have F32 := hn_
  clear hn_
  have hn_ := Aside0.mk (Kd.R_below F42.out hq_)
  clear F42
  have F42 := hn_
  clear hn_
  have hn_ := Aside0.mk (Kd.R_below F52.out hq_)
  clear F52
  have F52 := hn_
  clear hn_
  have hn_ := Aside0.mk (Kd.R_below F69.out hq_)
  clear F69
  have F69 := hn_
  clear hn_
  have hn_ := Aside0.mk (Kd.R_below F72.out hq_)
  clear F72
  have F72 := hn_
  clear hn_
  have hn_ := Aside0.mk (Kd.R_below F75.out hq_)
  clear F75
  have F75 := hn_
  clear hn_
  have hn_ := Aside0.mk (Kd.R_below F101.out hq_)
  clear F101
  have F101 := hn_
  clear hn_
  have hn_ := Aside0.mk (Kd.R_below F104.out hq_)
  clear F104
  have F104 := hn_
  clear hn_
  have hn_ := Aside0.mk (Kd.S_below F107.out hq_)
  clear F107
  have F107 := hn_
  clear hn_
  have hn_ := Aside0.mk (Kd.R_below F127.out hq_)
  clear F127
  have F127 := hn_
  clear hn_
  have hn_ := Aside0.mk (Kd.R_below F137.out hq_)
  clear F137
  have F137 := hn_
  clear hn_
  have hn_ := Aside0.mk (Kd.R_below F154.out hq_)
  clear F154
  have F154 := hn_
  clear hn_
  have hn_ := Aside0.mk (Kd.R_below F157.out hq_)
  clear F157
  have F157 := hn_
  clear hn_
  have hn_ := Aside0.mk (Kd.R_below F160.out hq_)
  clear F160
  have F160 := hn_
  clear hn_
  have hn_ := Aside0.mk (Kd.R_below F194.out hq_)
  clear F194
  have F194 := hn_
  clear hn_
  have hn_ := Aside0.mk (Kd.R_below F197.out hq_)
  clear F197
  have F197 := hn_
  clear hn_
  have hn_ := Aside0.mk (Kd.S_below F200.out hq_)
  clear F200
  have F200 := hn_
  clear hn_
  have hn_ := Aside0.mk (Kd.R_below F215.out hq_)
  clear F215
  have F215 := hn_
  clear hn_
  have hn_ := Aside0.mk (Kd.R_below F230.out hq_)
  clear F230
  have F230 := hn_
  clear hn_
  have hn_ := Aside0.mk (Kd.R_below F291.out hq_)
  clear F291
  have F291 := hn_
  clear hn_
  have hn_ := Aside0.mk (Kd.R_below F294.out hq_)
  clear F294
  have F294 := hn_
  clear hn_
  have hn_ := Aside0.mk (Kd.S_below F297.out hq_)
  clear F297
  have F297 := hn_
  clear hn_
  have hn_ := Aside0.mk (Kd.R_below F307.out hq_)
  clear F307
  have F307 := hn_
  clear hn_
  have hn_ := Aside0.mk (Kd.R_below F317.out hq_)
  clear F317
  have F317 := hn_
  clear hn_
  have hn_ := Aside0.mk (blk_below BK3.out hq_)
  clear hczb1_0 hfzb1_0; clear hczb1_1 hfzb1_1; clear hczb1_2 hfzb1_2
  clear BK3
  have BK3 := hn_
  clear hn_
  have hn_ := Aside0.mk (blk_below BK80.out hq_)
  clear hczb78_0 hfzb78_0; clear hczb78_1 hfzb78_1; clear hczb78_2 hfzb78_2
  clear BK80
  have BK80 := hn_
  clear hn_
  have hn_ := Aside0.mk (blk_below BK112.out hq_)
  clear hczb110_0 hfzb110_0; clear hczb110_1 hfzb110_1; clear hczb110_2 hfzb110_2
  clear BK112
  have BK112 := hn_
  clear hn_
  have hn_ := Aside0.mk (blk_below BK165.out hq_)
  clear hczb163_0 hfzb163_0; clear hczb163_1 hfzb163_1; clear hczb163_2 hfzb163_2
  clear BK165
  have BK165 := hn_
  clear hn_
  clear hq_
  have hczb1_0 : w325.cell? ⟨gb2, 0, none⟩ = some (.slice A0_0 l0_0.length c0_0) := (blk_cell BK3.out 0).trans rfl; have hfzb1_0 := blk_frozen BK3.out 0; have hczb1_1 : w325.cell? ⟨gb2, 1, none⟩ = some (.slice A0_1 l0_1.length c0_1) := (blk_cell BK3.out 1).trans rfl; have hfzb1_1 := blk_frozen BK3.out 1; have hczb1_2 : w325.cell? ⟨gb2, 2, none⟩ = some (.slice A0_2 l0_2.length c0_2) := (blk_cell BK3.out 2).trans rfl; have hfzb1_2 := blk_frozen BK3.out 2
  have hczb78_0 : w325.cell? ⟨gb79, 0, none⟩ = some (.slice A70 t55.length c71) := (blk_cell BK80.out 0).trans rfl; have hfzb78_0 := blk_frozen BK80.out 0; have hczb78_1 : w325.cell? ⟨gb79, 1, none⟩ = some (.slice A73 t56.length c74) := (blk_cell BK80.out 1).trans rfl; have hfzb78_1 := blk_frozen BK80.out 1; have hczb78_2 : w325.cell? ⟨gb79, 2, none⟩ = some (.slice A76 t57.length c77) := (blk_cell BK80.out 2).trans rfl; have hfzb78_2 := blk_frozen BK80.out 2
  have hczb110_0 : w325.cell? ⟨gb111, 0, none⟩ = some (.slice A102 t88.length c103) := (blk_cell BK112.out 0).trans rfl; have hfzb110_0 := blk_frozen BK112.out 0; have hczb110_1 : w325.cell? ⟨gb111, 1, none⟩ = some (.slice A105 t89.length c106) := (blk_cell BK112.out 1).trans rfl; have hfzb110_1 := blk_frozen BK112.out 1; have hczb110_2 : w325.cell? ⟨gb111, 2, none⟩ = some (.slice A108 t90.length c109) := (blk_cell BK112.out 2).trans rfl; have hfzb110_2 := blk_frozen BK112.out 2
  have hczb163_0 : w325.cell? ⟨gb164, 0, none⟩ = some (.slice A155 t140.length c156) := (blk_cell BK165.out 0).trans rfl; have hfzb163_0 := blk_frozen BK165.out 0; have hczb163_1 : w325.cell? ⟨gb164, 1, none⟩ = some (.slice A158 t141.length c159) := (blk_cell BK165.out 1).trans rfl; have hfzb163_1 := blk_frozen BK165.out 1; have hczb163_2 : w325.cell? ⟨gb164, 2, none⟩ = some (.slice A161 t142.length c162) := (blk_cell BK165.out 2).trans rfl; have hfzb163_2 := blk_frozen BK165.out 2
  clear hb
  have F334 := Aside0.mk (Lk.newR (b := w312.heap.size) (base := w.heap.size) (Sep := fun k_ => some k_ ≠ (v327 : Value).ownBlock ∧ some k_ ≠ (v328 : Value).ownBlock) rfl f329 (HA316.out) (fun k_ hk_ => hk_))
  clear f329
  have F337 := Aside0.mk (Lk.newR (b := w312.heap.size) (base := w.heap.size) (Sep := fun k_ => some k_ ≠ (v326 : Value).ownBlock ∧ some k_ ≠ (v328 : Value).ownBlock) rfl f330 (HA316.out) (fun k_ hk_ => hk_))
  clear f330
  have F340 := Aside0.mk (Lk.newR (b := w312.heap.size) (base := w.heap.size) (Sep := fun k_ => some k_ ≠ (v326 : Value).ownBlock ∧ some k_ ≠ (v327 : Value).ownBlock) rfl f331 (HA316.out) (fun k_ hk_ => hk_))
  clear f331
  obtain ⟨A335, c336, e_⟩ := Kd.R_slice F334.out
  subst e_
  obtain ⟨A338, c339, e_⟩ := Kd.R_slice F337.out
  subst e_
  obtain ⟨A341, c342, e_⟩ := Kd.R_slice F340.out
  subst e_
  go_wp2_with (first | ((with_reducible refine gate_dst (N := 20) rfl ?_); refine box_event ?hg (N := 20) ?hd (cs := #[.slice none 0 0, .slice none 0 0, .slice none 0 0]) (t := 27) ?hr ?_; (case hd => rfl); (case hg => rfl); (case hr => first | (go_simp; done) | (go_simp; rfl)); intro gb344 hg_ w347 hx_ hb; have hg2_ : gb344 = w325.heap.size := hg_; have hq_ : Below w325.heap.size w325 w347 := ⟨hb.os, hb.tape, hb.output, hb.size, hb.block⟩; have HZ348 := Aside0.mk (show w325.heap.size ≤ w347.heap.size from hq_.size); have hn_ := Aside0.mk (below_then HB.out HB.out.size hq_); clear HB; have HB := hn_; clear hn_; have HA349 := Aside0.mk (show w.heap.size ≤ w347.heap.size from HB.out.size); have hn_ := Aside0.mk (Kd.R_below F26.out hq_); clear F26; have F26 := hn_; clear hn_; have hn_ := Aside0.mk (Kd.R_below F29.out hq_); clear F29; have F29 := hn_; clear hn_; have hn_ := Aside0.mk (Kd.S_below F32.out hq_); clear F32; have F32 := hn_; clear hn_; have hn_ := Aside0.mk (Kd.R_below F42.out hq_); clear F42; have F42 := hn_; clear hn_; have hn_ := Aside0.mk (Kd.R_below F52.out hq_); clear F52; have F52 := hn_; clear hn_; have hn_ := Aside0.mk (Kd.R_below F69.out hq_); clear F69; have F69 := hn_; clear hn_; have hn_ := Aside0.mk (Kd.R_below F72.out hq_); clear F72; have F72 := hn_; clear hn_; have hn_ := Aside0.mk (Kd.R_below F75.out hq_); clear F75; have F75 := hn_; clear hn_; have hn_ := Aside0.mk (Kd.R_below F101.out hq_); clear F101; have F101 := hn_; clear hn_; have hn_ := Aside0.mk (Kd.R_below F104.out hq_); clear F104; have F104 := hn_; clear hn_; have hn_ := Aside0.mk (Kd.S_below F107.out hq_); clear F107; have F107 := hn_; clear hn_; have hn_ := Aside0.mk (Kd.R_below F127.out hq_); clear F127; have F127 := hn_; clear hn_; have hn_ := Aside0.mk (Kd.R_below F137.out hq_); clear F137; have F137 := hn_; clear hn_; have hn_ := Aside0.mk (Kd.R_below F154.out hq_); clear F154; have F154 := hn_; clear hn_; have hn_ := Aside0.mk (Kd.R_below F157.out hq_); clear F157; have F157 := hn_; clear hn_; have hn_ := Aside0.mk (Kd.R_below F160.out hq_); clear F160; have F160 := hn_; clear hn_; have hn_ := Aside0.mk (Kd.R_below F194.out hq_); clear F194; have F194 := hn_; clear hn_; have hn_ := Aside0.mk (Kd.R_below F197.out hq_); clear F197; have F197 := hn_; clear hn_; have hn_ := Aside0.mk (Kd.S_below F200.out hq_); clear F200; have F200 := hn_; clear hn_; have hn_ := Aside0.mk (Kd.R_below F215.out hq_); clear F215; have F215 := hn_; clear hn_; have hn_ := Aside0.mk (Kd.R_below F230.out hq_); clear F230; have F230 := hn_; clear hn_; have hn_ := Aside0.mk (Kd.R_below F291.out hq_); clear F291; have F291 := hn_; clear hn_; have hn_ := Aside0.mk (Kd.R_below F294.out hq_); clear F294; have F294 := hn_; clear hn_; have hn_ := Aside0.mk (Kd.S_below F297.out hq_); clear F297; have F297 := hn_; clear hn_; have hn_ := Aside0.mk (Kd.R_below F307.out hq_); clear F307; have F307 := hn_; clear hn_; have hn_ := Aside0.mk (Kd.R_below F317.out hq_); clear F317; have F317 := hn_; clear hn_; have hn_ := Aside0.mk (Kd.R_below F334.out hq_); clear F334; have F334 := hn_; clear hn_; have hn_ := Aside0.mk (Kd.R_below F337.out hq_); clear F337; have F337 := hn_; clear hn_; have hn_ := Aside0.mk (Kd.R_below F340.out hq_); clear F340; have F340 := hn_; clear hn_; have hn_ := Aside0.mk (blk_below BK3.out hq_); clear hczb1_0 hfzb1_0; clear hczb1_1 hfzb1_1; clear hczb1_2 hfzb1_2; clear BK3; have BK3 := hn_; clear hn_; have hn_ := Aside0.mk (blk_below BK80.out hq_); clear hczb78_0 hfzb78_0; clear hczb78_1 hfzb78_1; clear hczb78_2 hfzb78_2; clear BK80; have BK80 := hn_; clear hn_; have hn_ := Aside0.mk (blk_below BK112.out hq_); clear hczb110_0 hfzb110_0; clear hczb110_1 hfzb110_1; clear hczb110_2 hfzb110_2; clear BK112; have BK112 := hn_; clear hn_; have hn_ := Aside0.mk (blk_below BK165.out hq_); clear hczb163_0 hfzb163_0; clear hczb163_1 hfzb163_1; clear hczb163_2 hfzb163_2; clear BK165; have BK165 := hn_; clear hn_; clear hq_; have hczb1_0 : w347.cell? ⟨gb2, 0, none⟩ = some (.slice A0_0 l0_0.length c0_0) := (blk_cell BK3.out 0).trans rfl; have hfzb1_0 := blk_frozen BK3.out 0; have hczb1_1 : w347.cell? ⟨gb2, 1, none⟩ = some (.slice A0_1 l0_1.length c0_1) := (blk_cell BK3.out 1).trans rfl; have hfzb1_1 := blk_frozen BK3.out 1; have hczb1_2 : w347.cell? ⟨gb2, 2, none⟩ = some (.slice A0_2 l0_2.length c0_2) := (blk_cell BK3.out 2).trans rfl; have hfzb1_2 := blk_frozen BK3.out 2; have hczb78_0 : w347.cell? ⟨gb79, 0, none⟩ = some (.slice A70 t55.length c71) := (blk_cell BK80.out 0).trans rfl; have hfzb78_0 := blk_frozen BK80.out 0; have hczb78_1 : w347.cell? ⟨gb79, 1, none⟩ = some (.slice A73 t56.length c74) := (blk_cell BK80.out 1).trans rfl; have hfzb78_1 := blk_frozen BK80.out 1; have hczb78_2 : w347.cell? ⟨gb79, 2, none⟩ = some (.slice A76 t57.length c77) := (blk_cell BK80.out 2).trans rfl; have hfzb78_2 := blk_frozen BK80.out 2; have hczb110_0 : w347.cell? ⟨gb111, 0, none⟩ = some (.slice A102 t88.length c103) := (blk_cell BK112.out 0).trans rfl; have hfzb110_0 := blk_frozen BK112.out 0; have hczb110_1 : w347.cell? ⟨gb111, 1, none⟩ = some (.slice A105 t89.length c106) := (blk_cell BK112.out 1).trans rfl; have hfzb110_1 := blk_frozen BK112.out 1; have hczb110_2 : w347.cell? ⟨gb111, 2, none⟩ = some (.slice A108 t90.length c109) := (blk_cell BK112.out 2).trans rfl; have hfzb110_2 := blk_frozen BK112.out 2; have hczb163_0 : w347.cell? ⟨gb164, 0, none⟩ = some (.slice A155 t140.length c156) := (blk_cell BK165.out 0).trans rfl; have hfzb163_0 := blk_frozen BK165.out 0; have hczb163_1 : w347.cell? ⟨gb164, 1, none⟩ = some (.slice A158 t141.length c159) := (blk_cell BK165.out 1).trans rfl; have hfzb163_1 := blk_frozen BK165.out 1; have hczb163_2 : w347.cell? ⟨gb164, 2, none⟩ = some (.slice A161 t142.length c162) := (blk_cell BK165.out 2).trans rfl; have hfzb163_2 := blk_frozen BK165.out 2; have BK345 := Aside0.mk hx_; have GQ346 := Aside0.mk (show w325.heap.size ≤ gb344 ∧ gb344 < w347.heap.size from ⟨Nat.le_of_eq hg2_.symm, blk_lt hx_⟩); clear hb hg_ hg2_ hx_; have hczb343_0 : w347.cell? ⟨gb344, 0, none⟩ = some (.slice none 0 0) := (blk_cell BK345.out 0).trans rfl; have hfzb343_0 := blk_frozen BK345.out 0; have hczb343_1 : w347.cell? ⟨gb344, 1, none⟩ = some (.slice none 0 0) := (blk_cell BK345.out 1).trans rfl; have hfzb343_1 := blk_frozen BK345.out 1; have hczb343_2 : w347.cell? ⟨gb344, 2, none⟩ = some (.slice none 0 0) := (blk_cell BK345.out 2).trans rfl; have hfzb343_2 := blk_frozen BK345.out 2) | ((with_reducible refine gate_store (t := 27) (p := 20) rfl ?_); refine store_event (t := 27) (p := 20) (v := ?vo_w350) (w1 := (((w347.setCell ⟨gb344, 0, none⟩ (.slice A335 t320.length c336)).setCell ⟨gb344, 1, none⟩ (.slice A338 t321.length c339)).setCell ⟨gb344, 2, none⟩ (.slice A341 t322.length c342))) ?hg ?ho ?hn ?hr ?_; (case ho => rfl); (case hg => rfl); (case hn => rfl); (case hr => first | (go_simp; done) | (go_simp; rfl)); intro w350 hw_; have hx_ : w350.heap[gb344]? = some (.cells #[(.slice A335 t320.length c336), (.slice A338 t321.length c339), (.slice A341 t322.length c342)] 27 (0, 0)) := (by rw [hw_]; exact Lk.filled (us := [(.slice A335 t320.length c336), (.slice A338 t321.length c339), (.slice A341 t322.length c342)]) BK345.out rfl); have hk2_ : Kept w347 w350 (fun k_ => k_ = gb344) := (by rw [hw_]; exact Lk.fill_kept [(.slice A335 t320.length c336), (.slice A338 t321.length c339), (.slice A341 t322.length c342)] 0 w347); have hB_ := Aside0.mk (show Below w.heap.size w w350 by rw [hw_]; exact Lk.fill_below [(.slice A335 t320.length c336), (.slice A338 t321.length c339), (.slice A341 t322.length c342)] 0 w w347 HB.out (by skip; have := HA333.out; have := GQ346.out; omega)); clear HB; have HB := hB_; clear hB_; have HZ351 := Aside0.mk (show w347.heap.size ≤ w350.heap.size from hk2_.1); have HA352 := Aside0.mk (show w.heap.size ≤ w350.heap.size from HB.out.size); have hn_ := Aside0.mk (Kd.R_kept F26.out hk2_ (fun k_ h1_ h2_ => by skip; have := HZ40.out; have := HZ50.out; have := HZ67.out; have := HZ83.out; have := HZ86.out; have := HZ99.out; have := HZ115.out; have := HZ118.out; have := HZ125.out; have := HZ135.out; have := HZ152.out; have := HZ168.out; have := HZ171.out; have := HZ176.out; have := HZ179.out; have := HZ192.out; have := HZ206.out; have := HZ213.out; have := HZ221.out; have := HZ228.out; have := HZ236.out; have := HZ240.out; have := HZ250.out; have := HZ258.out; have := HZ264.out; have := HZ268.out; have := HZ276.out; have := HZ289.out; have := HZ305.out; have := HZ315.out; have := HZ332.out; have := GQ346.out; have h3_ := h1_.1; omega)); clear F26; have F26 := hn_; clear hn_; have hn_ := Aside0.mk (Kd.R_kept F29.out hk2_ (fun k_ h1_ h2_ => by skip; have := HZ40.out; have := HZ50.out; have := HZ67.out; have := HZ83.out; have := HZ86.out; have := HZ99.out; have := HZ115.out; have := HZ118.out; have := HZ125.out; have := HZ135.out; have := HZ152.out; have := HZ168.out; have := HZ171.out; have := HZ176.out; have := HZ179.out; have := HZ192.out; have := HZ206.out; have := HZ213.out; have := HZ221.out; have := HZ228.out; have := HZ236.out; have := HZ240.out; have := HZ250.out; have := HZ258.out; have := HZ264.out; have := HZ268.out; have := HZ276.out; have := HZ289.out; have := HZ305.out; have := HZ315.out; have := HZ332.out; have := GQ346.out; have h3_ := h1_.1; omega)); clear F29; have F29 := hn_; clear hn_; have hn_ := Aside0.mk (Kd.S_kept F32.out hk2_ (fun k_ h1_ h2_ => by skip; have := HZ40.out; have := HZ50.out; have := HZ67.out; have := HZ83.out; have := HZ86.out; have := HZ99.out; have := HZ115.out; have := HZ118.out; have := HZ125.out; have := HZ135.out; have := HZ152.out; have := HZ168.out; have := HZ171.out; have := HZ176.out; have := HZ179.out; have := HZ192.out; have := HZ206.out; have := HZ213.out; have := HZ221.out; have := HZ228.out; have := HZ236.out; have := HZ240.out; have := HZ250.out; have := HZ258.out; have := HZ264.out; have := HZ268.out; have := HZ276.out; have := HZ289.out; have := HZ305.out; have := HZ315.out; have := HZ332.out; have := GQ346.out; have h3_ := h1_.1; omega)); clear F32; have F32 := hn_; clear hn_; have hn_ := Aside0.mk (Kd.R_kept F42.out hk2_ (fun k_ h1_ h2_ => by skip; have := HZ50.out; have := HZ67.out; have := HZ83.out; have := HZ86.out; have := HZ99.out; have := HZ115.out; have := HZ118.out; have := HZ125.out; have := HZ135.out; have := HZ152.out; have := HZ168.out; have := HZ171.out; have := HZ176.out; have := HZ179.out; have := HZ192.out; have := HZ206.out; have := HZ213.out; have := HZ221.out; have := HZ228.out; have := HZ236.out; have := HZ240.out; have := HZ250.out; have := HZ258.out; have := HZ264.out; have := HZ268.out; have := HZ276.out; have := HZ289.out; have := HZ305.out; have := HZ315.out; have := HZ332.out; have := GQ346.out; have h3_ := h1_.1; omega)); clear F42; have F42 := hn_; clear hn_; have hn_ := Aside0.mk (Kd.R_kept F52.out hk2_ (fun k_ h1_ h2_ => by skip; have := HZ67.out; have := HZ83.out; have := HZ86.out; have := HZ99.out; have := HZ115.out; have := HZ118.out; have := HZ125.out; have := HZ135.out; have := HZ152.out; have := HZ168.out; have := HZ171.out; have := HZ176.out; have := HZ179.out; have := HZ192.out; have := HZ206.out; have := HZ213.out; have := HZ221.out; have := HZ228.out; have := HZ236.out; have := HZ240.out; have := HZ250.out; have := HZ258.out; have := HZ264.out; have := HZ268.out; have := HZ276.out; have := HZ289.out; have := HZ305.out; have := HZ315.out; have := HZ332.out; have := GQ346.out; have h3_ := h1_.1; omega)); clear F52; have F52 := hn_; clear hn_; have hn_ := Aside0.mk (Kd.R_kept F69.out hk2_ (fun k_ h1_ h2_ => by skip; have := HZ83.out; have := HZ86.out; have := HZ99.out; have := HZ115.out; have := HZ118.out; have := HZ125.out; have := HZ135.out; have := HZ152.out; have := HZ168.out; have := HZ171.out; have := HZ176.out; have := HZ179.out; have := HZ192.out; have := HZ206.out; have := HZ213.out; have := HZ221.out; have := HZ228.out; have := HZ236.out; have := HZ240.out; have := HZ250.out; have := HZ258.out; have := HZ264.out; have := HZ268.out; have := HZ276.out; have := HZ289.out; have := HZ305.out; have := HZ315.out; have := HZ332.out; have := GQ346.out; have h3_ := h1_.1; omega)); clear F69; have F69 := hn_; clear hn_; have hn_ := Aside0.mk (Kd.R_kept F72.out hk2_ (fun k_ h1_ h2_ => by skip; have := HZ83.out; have := HZ86.out; have := HZ99.out; have := HZ115.out; have := HZ118.out; have := HZ125.out; have := HZ135.out; have := HZ152.out; have := HZ168.out; have := HZ171.out; have := HZ176.out; have := HZ179.out; have := HZ192.out; have := HZ206.out; have := HZ213.out; have := HZ221.out; have := HZ228.out; have := HZ236.out; have := HZ240.out; have := HZ250.out; have := HZ258.out; have := HZ264.out; have := HZ268.out; have := HZ276.out; have := HZ289.out; have := HZ305.out; have := HZ315.out; have := HZ332.out; have := GQ346.out; have h3_ := h1_.1; omega)); clear F72; have F72 := hn_; clear hn_; have hn_ := Aside0.mk (Kd.R_kept F75.out hk2_ (fun k_ h1_ h2_ => by skip; have := HZ83.out; have := HZ86.out; have := HZ99.out; have := HZ115.out; have := HZ118.out; have := HZ125.out; have := HZ135.out; have := HZ152.out; have := HZ168.out; have := HZ171.out; have := HZ176.out; have := HZ179.out; have := HZ192.out; have := HZ206.out; have := HZ213.out; have := HZ221.out; have := HZ228.out; have := HZ236.out; have := HZ240.out; have := HZ250.out; have := HZ258.out; have := HZ264.out; have := HZ268.out; have := HZ276.out; have := HZ289.out; have := HZ305.out; have := HZ315.out; have := HZ332.out; have := GQ346.out; have h3_ := h1_.1; omega)); clear F75; have F75 := hn_; clear hn_; have hn_ := Aside0.mk (Kd.R_kept F101.out hk2_ (fun k_ h1_ h2_ => by skip; have := HZ115.out; have := HZ118.out; have := HZ125.out; have := HZ135.out; have := HZ152.out; have := HZ168.out; have := HZ171.out; have := HZ176.out; have := HZ179.out; have := HZ192.out; have := HZ206.out; have := HZ213.out; have := HZ221.out; have := HZ228.out; have := HZ236.out; have := HZ240.out; have := HZ250.out; have := HZ258.out; have := HZ264.out; have := HZ268.out; have := HZ276.out; have := HZ289.out; have := HZ305.out; have := HZ315.out; have := HZ332.out; have := GQ346.out; have h3_ := h1_.1; omega)); clear F101; have F101 := hn_; clear hn_; have hn_ := Aside0.mk (Kd.R_kept F104.out hk2_ (fun k_ h1_ h2_ => by skip; have := HZ115.out; have := HZ118.out; have := HZ125.out; have := HZ135.out; have := HZ152.out; have := HZ168.out; have := HZ171.out; have := HZ176.out; have := HZ179.out; have := HZ192.out; have := HZ206.out; have := HZ213.out; have := HZ221.out; have := HZ228.out; have := HZ236.out; have := HZ240.out; have := HZ250.out; have := HZ258.out; have := HZ264.out; have := HZ268.out; have := HZ276.out; have := HZ289.out; have := HZ305.out; have := HZ315.out; have := HZ332.out; have := GQ346.out; have h3_ := h1_.1; omega)); clear F104; have F104 := hn_; clear hn_; have hn_ := Aside0.mk (Kd.S_kept F107.out hk2_ (fun k_ h1_ h2_ => by skip; have := HZ115.out; have := HZ118.out; have := HZ125.out; have := HZ135.out; have := HZ152.out; have := HZ168.out; have := HZ171.out; have := HZ176.out; have := HZ179.out; have := HZ192.out; have := HZ206.out; have := HZ213.out; have := HZ221.out; have := HZ228.out; have := HZ236.out; have := HZ240.out; have := HZ250.out; have := HZ258.out; have := HZ264.out; have := HZ268.out; have := HZ276.out; have := HZ289.out; have := HZ305.out; have := HZ315.out; have := HZ332.out; have := GQ346.out; have h3_ := h1_.1; omega)); clear F107; have F107 := hn_; clear hn_; have hn_ := Aside0.mk (Kd.R_kept F127.out hk2_ (fun k_ h1_ h2_ => by skip; have := HZ135.out; have := HZ152.out; have := HZ168.out; have := HZ171.out; have := HZ176.out; have := HZ179.out; have := HZ192.out; have := HZ206.out; have := HZ213.out; have := HZ221.out; have := HZ228.out; have := HZ236.out; have := HZ240.out; have := HZ250.out; have := HZ258.out; have := HZ264.out; have := HZ268.out; have := HZ276.out; have := HZ289.out; have := HZ305.out; have := HZ315.out; have := HZ332.out; have := GQ346.out; have h3_ := h1_.1; omega)); clear F127; have F127 := hn_; clear hn_; have hn_ := Aside0.mk (Kd.R_kept F137.out hk2_ (fun k_ h1_ h2_ => by skip; have := HZ152.out; have := HZ168.out; have := HZ171.out; have := HZ176.out; have := HZ179.out; have := HZ192.out; have := HZ206.out; have := HZ213.out; have := HZ221.out; have := HZ228.out; have := HZ236.out; have := HZ240.out; have := HZ250.out; have := HZ258.out; have := HZ264.out; have := HZ268.out; have := HZ276.out; have := HZ289.out; have := HZ305.out; have := HZ315.out; have := HZ332.out; have := GQ346.out; have h3_ := h1_.1; omega)); clear F137; have F137 := hn_; clear hn_; have hn_ := Aside0.mk (Kd.R_kept F154.out hk2_ (fun k_ h1_ h2_ => by skip; have := HZ168.out; have := HZ171.out; have := HZ176.out; have := HZ179.out; have := HZ192.out; have := HZ206.out; have := HZ213.out; have := HZ221.out; have := HZ228.out; have := HZ236.out; have := HZ240.out; have := HZ250.out; have := HZ258.out; have := HZ264.out; have := HZ268.out; have := HZ276.out; have := HZ289.out; have := HZ305.out; have := HZ315.out; have := HZ332.out; have := GQ346.out; have h3_ := h1_.1; omega)); clear F154; have F154 := hn_; clear hn_; have hn_ := Aside0.mk (Kd.R_kept F157.out hk2_ (fun k_ h1_ h2_ => by skip; have := HZ168.out; have := HZ171.out; have := HZ176.out; have := HZ179.out; have := HZ192.out; have := HZ206.out; have := HZ213.out; have := HZ221.out; have := HZ228.out; have := HZ236.out; have := HZ240.out; have := HZ250.out; have := HZ258.out; have := HZ264.out; have := HZ268.out; have := HZ276.out; have := HZ289.out; have := HZ305.out; have := HZ315.out; have := HZ332.out; have := GQ346.out; have h3_ := h1_.1; omega)); clear F157; have F157 := hn_; clear hn_; have hn_ := Aside0.mk (Kd.R_kept F160.out hk2_ (fun k_ h1_ h2_ => by skip; have := HZ168.out; have := HZ171.out; have := HZ176.out; have := HZ179.out; have := HZ192.out; have := HZ206.out; have := HZ213.out; have := HZ221.out; have := HZ228.out; have := HZ236.out; have := HZ240.out; have := HZ250.out; have := HZ258.out; have := HZ264.out; have := HZ268.out; have := HZ276.out; have := HZ289.out; have := HZ305.out; have := HZ315.out; have := HZ332.out; have := GQ346.out; have h3_ := h1_.1; omega)); clear F160; have F160 := hn_; clear hn_; have hn_ := Aside0.mk (Kd.R_kept F194.out hk2_ (fun k_ h1_ h2_ => by skip; have := HZ206.out; have := HZ213.out; have := HZ221.out; have := HZ228.out; have := HZ236.out; have := HZ240.out; have := HZ250.out; have := HZ258.out; have := HZ264.out; have := HZ268.out; have := HZ276.out; have := HZ289.out; have := HZ305.out; have := HZ315.out; have := HZ332.out; have := GQ346.out; have h3_ := h1_.1; omega)); clear F194; have F194 := hn_; clear hn_; have hn_ := Aside0.mk (Kd.R_kept F197.out hk2_ (fun k_ h1_ h2_ => by skip; have := HZ206.out; have := HZ213.out; have := HZ221.out; have := HZ228.out; have := HZ236.out; have := HZ240.out; have := HZ250.out; have := HZ258.out; have := HZ264.out; have := HZ268.out; have := HZ276.out; have := HZ289.out; have := HZ305.out; have := HZ315.out; have := HZ332.out; have := GQ346.out; have h3_ := h1_.1; omega)); clear F197; have F197 := hn_; clear hn_; have hn_ := Aside0.mk (Kd.S_kept F200.out hk2_ (fun k_ h1_ h2_ => by skip; have := HZ206.out; have := HZ213.out; have := HZ221.out; have := HZ228.out; have := HZ236.out; have := HZ240.out; have := HZ250.out; have := HZ258.out; have := HZ264.out; have := HZ268.out; have := HZ276.out; have := HZ289.out; have := HZ305.out; have := HZ315.out; have := HZ332.out; have := GQ346.out; have h3_ := h1_.1; omega)); clear F200; have F200 := hn_; clear hn_; have hn_ := Aside0.mk (Kd.R_kept F215.out hk2_ (fun k_ h1_ h2_ => by skip; have := HZ221.out; have := HZ228.out; have := HZ236.out; have := HZ240.out; have := HZ250.out; have := HZ258.out; have := HZ264.out; have := HZ268.out; have := HZ276.out; have := HZ289.out; have := HZ305.out; have := HZ315.out; have := HZ332.out; have := GQ346.out; have h3_ := h1_.1; omega)); clear F215; have F215 := hn_; clear hn_; have hn_ := Aside0.mk (Kd.R_kept F230.out hk2_ (fun k_ h1_ h2_ => by skip; have := HZ236.out; have := HZ240.out; have := HZ250.out; have := HZ258.out; have := HZ264.out; have := HZ268.out; have := HZ276.out; have := HZ289.out; have := HZ305.out; have := HZ315.out; have := HZ332.out; have := GQ346.out; have h3_ := h1_.1; omega)); clear F230; have F230 := hn_; clear hn_; have hn_ := Aside0.mk (Kd.R_kept F291.out hk2_ (fun k_ h1_ h2_ => by skip; have := HZ305.out; have := HZ315.out; have := HZ332.out; have := GQ346.out; have h3_ := h1_.1; omega)); clear F291; have F291 := hn_; clear hn_; have hn_ := Aside0.mk (Kd.R_kept F294.out hk2_ (fun k_ h1_ h2_ => by skip; have := HZ305.out; have := HZ315.out; have := HZ332.out; have := GQ346.out; have h3_ := h1_.1; omega)); clear F294; have F294 := hn_; clear hn_; have hn_ := Aside0.mk (Kd.S_kept F297.out hk2_ (fun k_ h1_ h2_ => by skip; have := HZ305.out; have := HZ315.out; have := HZ332.out; have := GQ346.out; have h3_ := h1_.1; omega)); clear F297; have F297 := hn_; clear hn_; have hn_ := Aside0.mk (Kd.R_kept F307.out hk2_ (fun k_ h1_ h2_ => by skip; have := HZ315.out; have := HZ332.out; have := GQ346.out; have h3_ := h1_.1; omega)); clear F307; have F307 := hn_; clear hn_; have hn_ := Aside0.mk (Kd.R_kept F317.out hk2_ (fun k_ h1_ h2_ => by skip; have := HZ332.out; have := GQ346.out; have h3_ := h1_.1; omega)); clear F317; have F317 := hn_; clear hn_; have hn_ := Aside0.mk (Kd.R_kept F334.out hk2_ (fun k_ h1_ h2_ => by skip; have := GQ346.out; have h3_ := h1_.1; omega)); clear F334; have F334 := hn_; clear hn_; have hn_ := Aside0.mk (Kd.R_kept F337.out hk2_ (fun k_ h1_ h2_ => by skip; have := GQ346.out; have h3_ := h1_.1; omega)); clear F337; have F337 := hn_; clear hn_; have hn_ := Aside0.mk (Kd.R_kept F340.out hk2_ (fun k_ h1_ h2_ => by skip; have := GQ346.out; have h3_ := h1_.1; omega)); clear F340; have F340 := hn_; clear hn_; clear hczb1_0 hfzb1_0; clear hczb1_1 hfzb1_1; clear hczb1_2 hfzb1_2; have hn_ := Aside0.mk (blk_kept BK3.out hk2_ (fun h_ => by skip; have := HZ11.out; have := HZ24.out; have := HZ40.out; have := HZ50.out; have := HZ67.out; have := HZ83.out; have := HZ86.out; have := HZ99.out; have := HZ115.out; have := HZ118.out; have := HZ125.out; have := HZ135.out; have := HZ152.out; have := HZ168.out; have := HZ171.out; have := HZ176.out; have := HZ179.out; have := HZ192.out; have := HZ206.out; have := HZ213.out; have := HZ221.out; have := HZ228.out; have := HZ236.out; have := HZ240.out; have := HZ250.out; have := HZ258.out; have := HZ264.out; have := HZ268.out; have := HZ276.out; have := HZ289.out; have := HZ305.out; have := HZ315.out; have := HZ332.out; have := GQ346.out; have := GQ4.out; omega)); clear BK3; have BK3 := hn_; clear hn_; clear hczb78_0 hfzb78_0; clear hczb78_1 hfzb78_1; clear hczb78_2 hfzb78_2; have hn_ := Aside0.mk (blk_kept BK80.out hk2_ (fun h_ => by skip; have := HZ86.out; have := HZ99.out; have := HZ115.out; have := HZ118.out; have := HZ125.out; have := HZ135.out; have := HZ152.out; have := HZ168.out; have := HZ171.out; have := HZ176.out; have := HZ179.out; have := HZ192.out; have := HZ206.out; have := HZ213.out; have := HZ221.out; have := HZ228.out; have := HZ236.out; have := HZ240.out; have := HZ250.out; have := HZ258.out; have := HZ264.out; have := HZ268.out; have := HZ276.out; have := HZ289.out; have := HZ305.out; have := HZ315.out; have := HZ332.out; have := GQ346.out; have := GQ81.out; omega)); clear BK80; have BK80 := hn_; clear hn_; clear hczb110_0 hfzb110_0; clear hczb110_1 hfzb110_1; clear hczb110_2 hfzb110_2; have hn_ := Aside0.mk (blk_kept BK112.out hk2_ (fun h_ => by skip; have := HZ118.out; have := HZ125.out; have := HZ135.out; have := HZ152.out; have := HZ168.out; have := HZ171.out; have := HZ176.out; have := HZ179.out; have := HZ192.out; have := HZ206.out; have := HZ213.out; have := HZ221.out; have := HZ228.out; have := HZ236.out; have := HZ240.out; have := HZ250.out; have := HZ258.out; have := HZ264.out; have := HZ268.out; have := HZ276.out; have := HZ289.out; have := HZ305.out; have := HZ315.out; have := HZ332.out; have := GQ346.out; have := GQ113.out; omega)); clear BK112; have BK112 := hn_; clear hn_; clear hczb163_0 hfzb163_0; clear hczb163_1 hfzb163_1; clear hczb163_2 hfzb163_2; have hn_ := Aside0.mk (blk_kept BK165.out hk2_ (fun h_ => by skip; have := HZ171.out; have := HZ176.out; have := HZ179.out; have := HZ192.out; have := HZ206.out; have := HZ213.out; have := HZ221.out; have := HZ228.out; have := HZ236.out; have := HZ240.out; have := HZ250.out; have := HZ258.out; have := HZ264.out; have := HZ268.out; have := HZ276.out; have := HZ289.out; have := HZ305.out; have := HZ315.out; have := HZ332.out; have := GQ346.out; have := GQ166.out; omega)); clear BK165; have BK165 := hn_; clear hn_; clear hczb343_0 hfzb343_0; clear hczb343_1 hfzb343_1; clear hczb343_2 hfzb343_2; clear BK345; have BK345 := Aside0.mk hx_; clear hk2_ hx_ hw_; have hczb1_0 : w350.cell? ⟨gb2, 0, none⟩ = some (.slice A0_0 l0_0.length c0_0) := (blk_cell BK3.out 0).trans rfl; have hfzb1_0 := blk_frozen BK3.out 0; have hczb1_1 : w350.cell? ⟨gb2, 1, none⟩ = some (.slice A0_1 l0_1.length c0_1) := (blk_cell BK3.out 1).trans rfl; have hfzb1_1 := blk_frozen BK3.out 1; have hczb1_2 : w350.cell? ⟨gb2, 2, none⟩ = some (.slice A0_2 l0_2.length c0_2) := (blk_cell BK3.out 2).trans rfl; have hfzb1_2 := blk_frozen BK3.out 2; have hczb78_0 : w350.cell? ⟨gb79, 0, none⟩ = some (.slice A70 t55.length c71) := (blk_cell BK80.out 0).trans rfl; have hfzb78_0 := blk_frozen BK80.out 0; have hczb78_1 : w350.cell? ⟨gb79, 1, none⟩ = some (.slice A73 t56.length c74) := (blk_cell BK80.out 1).trans rfl; have hfzb78_1 := blk_frozen BK80.out 1; have hczb78_2 : w350.cell? ⟨gb79, 2, none⟩ = some (.slice A76 t57.length c77) := (blk_cell BK80.out 2).trans rfl; have hfzb78_2 := blk_frozen BK80.out 2; have hczb110_0 : w350.cell? ⟨gb111, 0, none⟩ = some (.slice A102 t88.length c103) := (blk_cell BK112.out 0).trans rfl; have hfzb110_0 := blk_frozen BK112.out 0; have hczb110_1 : w350.cell? ⟨gb111, 1, none⟩ = some (.slice A105 t89.length c106) := (blk_cell BK112.out 1).trans rfl; have hfzb110_1 := blk_frozen BK112.out 1; have hczb110_2 : w350.cell? ⟨gb111, 2, none⟩ = some (.slice A108 t90.length c109) := (blk_cell BK112.out 2).trans rfl; have hfzb110_2 := blk_frozen BK112.out 2; have hczb163_0 : w350.cell? ⟨gb164, 0, none⟩ = some (.slice A155 t140.length c156) := (blk_cell BK165.out 0).trans rfl; have hfzb163_0 := blk_frozen BK165.out 0; have hczb163_1 : w350.cell? ⟨gb164, 1, none⟩ = some (.slice A158 t141.length c159) := (blk_cell BK165.out 1).trans rfl; have hfzb163_1 := blk_frozen BK165.out 1; have hczb163_2 : w350.cell? ⟨gb164, 2, none⟩ = some (.slice A161 t142.length c162) := (blk_cell BK165.out 2).trans rfl; have hfzb163_2 := blk_frozen BK165.out 2; have hczb343_0 : w350.cell? ⟨gb344, 0, none⟩ = some (.slice A335 t320.length c336) := (blk_cell BK345.out 0).trans rfl; have hfzb343_0 := blk_frozen BK345.out 0; have hczb343_1 : w350.cell? ⟨gb344, 1, none⟩ = some (.slice A338 t321.length c339) := (blk_cell BK345.out 1).trans rfl; have hfzb343_1 := blk_frozen BK345.out 1; have hczb343_2 : w350.cell? ⟨gb344, 2, none⟩ = some (.slice A341 t322.length c342) := (blk_cell BK345.out 2).trans rfl; have hfzb343_2 := blk_frozen BK345.out 2))
  refine (laws_eqFrame.calls k _ _ t320 _ _ t321 _ _ t322 _ _ t55 _ _ t56 _ _ t57 true _ (Lk.Rr F334.out).2 (Lk.Rr F334.out).1 (Lk.Rr F337.out).2 (Lk.Rr F337.out).1 (Lk.Rr F340.out).2 (Lk.Rr F340.out).1 (Lk.Rr F69.out).2 (Lk.Rr F69.out).1 (Lk.Rr F72.out).2 (Lk.Rr F72.out).1 (Lk.Rr F75.out).2 (Lk.Rr F75.out).1 H354.out).mono ?_
  rintro e_ w355 ⟨rfl, hb⟩
  have hq_ : Below w350.heap.size w350 w355 := ⟨hb.os, hb.tape, hb.output, hb.size, hb.block⟩
  have HZ356 := Aside0.mk (show w350.heap.size ≤ w355.heap.size from hq_.size)
  have hn_ := Aside0.mk (below_then HB.out HB.out.size hq_)
  clear HB
  have HB := hn_
  clear hn_
  have HA357 := Aside0.mk (show w.heap.size ≤ w355.heap.size from HB.out.size)
  have hn_ := Aside0.mk (Kd.R_below F26.out hq_)
  clear F26
  have F26 := hn_
  clear hn_
  have hn_ := Aside0.mk (Kd.R_below F29.out hq_)
  clear F29
  have F29 := hn_
  clear hn_
  have hn_ := Aside0.mk (Kd.S_below F32.out hq_)
  clear F32
  have F32 := hn_
  clear hn_
  have hn_ := Aside0.mk (Kd.R_below F42.out hq_)
  clear F42
  have F42 := hn_
  clear hn_
  have hn_ := Aside0.mk (Kd.R_below F52.out hq_)
  clear F52
  have F52 := hn_
  clear hn_
  have hn_ := Aside0.mk (Kd.R_below F69.out hq_)
  clear F69
  have F69 := hn_
  clear hn_
  have hn_ := Aside0.mk (Kd.R_below F72.out hq_)
  clear F72
  have F72 := hn_
  clear hn_
  have hn_ := Aside0.mk (Kd.R_below F75.out hq_)
  clear F75
  have F75 := hn_
  clear hn_
  have hn_ := Aside0.mk (Kd.R_below F101.out hq_)
  clear F101
  have F101 := hn_
  clear hn_
  have hn_ := Aside0.mk (Kd.R_below F104.out hq_)
  clear F104
  have F104 := hn_
  clear hn_
  have hn_ := Aside0.mk (Kd.S_below F107.out hq_)
  clear F107
  have F107 := hn_
  clear hn_
  have hn_ := Aside0.mk (Kd.R_below F127.out hq_)
  clear F127
  have F127 := hn_
  clear hn_
  have hn_ := Aside0.mk (Kd.R_below F137.out hq_)
  clear F137
  have F137 := hn_
  clear hn_
  have hn_ := Aside0.mk (Kd.R_below F154.out hq_)
  clear F154
  have F154 := hn_
  clear hn_
  have hn_ := Aside0.mk (Kd.R_below F157.out hq_)
  clear F157
  have F157 := hn_
  clear hn_
  have hn_ := Aside0.mk (Kd.R_below F160.out hq_)
  clear F160
  have F160 := hn_
  clear hn_
  have hn_ := Aside0.mk (Kd.R_below F194.out hq_)
  clear F194
  have F194 := hn_
  clear hn_
  have hn_ := Aside0.mk (Kd.R_below F197.out hq_)
  clear F197
  have F197 := hn_
  clear hn_
  have hn_ := Aside0.mk (Kd.S_below F200.out hq_)
  clear F200
  have F200 := hn_
  clear hn_
  have hn_ := Aside0.mk (Kd.R_below F215.out hq_)
  clear F215
  have F215 := hn_
  clear hn_
  have hn_ := Aside0.mk (Kd.R_below F230.out hq_)
  clear F230
  have F230 := hn_
  clear hn_
  have hn_ := Aside0.mk (Kd.R_below F291.out hq_)
  clear F291
  have F291 := hn_
  clear hn_
  have hn_ := Aside0.mk (Kd.R_below F294.out hq_)
  clear F294
  have F294 := hn_
  clear hn_
  have hn_ := Aside0.mk (Kd.S_below F297.out hq_)
  clear F297
  have F297 := hn_
  clear hn_
  have hn_ := Aside0.mk (Kd.R_below F307.out hq_)
  clear F307
  have F307 := hn_
  clear hn_
  have hn_ := Aside0.mk (Kd.R_below F317.out hq_)
  clear F317
  have F317 := hn_
  clear hn_
  have hn_ := Aside0.mk (Kd.R_below F334.out hq_)
  clear F334
  have F334 := hn_
  clear hn_
  have hn_ := Aside0.mk (Kd.R_below F337.out hq_)
  clear F337
  have F337 := hn_
  clear hn_
  have hn_ := Aside0.mk (Kd.R_below F340.out hq_)
  clear F340
  have F340 := hn_
  clear hn_
  have hn_ := Aside0.mk (blk_below BK3.out hq_)
  clear hczb1_0 hfzb1_0; clear hczb1_1 hfzb1_1; clear hczb1_2 hfzb1_2
  clear BK3
  have BK3 := hn_
  clear hn_
  have hn_ := Aside0.mk (blk_below BK80.out hq_)
  clear hczb78_0 hfzb78_0; clear hczb78_1 hfzb78_1; clear hczb78_2 hfzb78_2
  clear BK80
  have BK80 := hn_
  clear hn_
  have hn_ := Aside0.mk (blk_below BK112.out hq_)
  clear hczb110_0 hfzb110_0; clear hczb110_1 hfzb110_1; clear hczb110_2 hfzb110_2
  clear BK112
  have BK112 := hn_
  clear hn_
  have hn_ := Aside0.mk (blk_below BK165.out hq_)
  clear hczb163_0 hfzb163_0; clear hczb163_1 hfzb163_1; clear hczb163_2 hfzb163_2
  clear BK165
  have BK165 := hn_
  clear hn_
  have hn_ := Aside0.mk (blk_below BK345.out hq_)
  clear hczb343_0 hfzb343_0; clear hczb343_1 hfzb343_1; clear hczb343_2 hfzb343_2
  clear BK345
  have BK345 := hn_
  clear hn_
  clear hq_
  have hczb1_0 : w355.cell? ⟨gb2, 0, none⟩ = some (.slice A0_0 l0_0.length c0_0) := (blk_cell BK3.out 0).trans rfl; have hfzb1_0 := blk_frozen BK3.out 0; have hczb1_1 : w355.cell? ⟨gb2, 1, none⟩ = some (.slice A0_1 l0_1.length c0_1) := (blk_cell BK3.out 1).trans rfl; have hfzb1_1 := blk_frozen BK3.out 1; have hczb1_2 : w355.cell? ⟨gb2, 2, none⟩ = some (.slice A0_2 l0_2.length c0_2) := (blk_cell BK3.out 2).trans rfl; have hfzb1_2 := blk_frozen BK3.out 2
  have hczb78_0 : w355.cell? ⟨gb79, 0, none⟩ = some (.slice A70 t55.length c71) := (blk_cell BK80.out 0).trans rfl; have hfzb78_0 := blk_frozen BK80.out 0; have hczb78_1 : w355.cell? ⟨gb79, 1, none⟩ = some (.slice A73 t56.length c74) := (blk_cell BK80.out 1).trans rfl; have hfzb78_1 := blk_frozen BK80.out 1; have hczb78_2 : w355.cell? ⟨gb79, 2, none⟩ = some (.slice A76 t57.length c77) := (blk_cell BK80.out 2).trans rfl; have hfzb78_2 := blk_frozen BK80.out 2
  have hczb110_0 : w355.cell? ⟨gb111, 0, none⟩ = some (.slice A102 t88.length c103) := (blk_cell BK112.out 0).trans rfl; have hfzb110_0 := blk_frozen BK112.out 0; have hczb110_1 : w355.cell? ⟨gb111, 1, none⟩ = some (.slice A105 t89.length c106) := (blk_cell BK112.out 1).trans rfl; have hfzb110_1 := blk_frozen BK112.out 1; have hczb110_2 : w355.cell? ⟨gb111, 2, none⟩ = some (.slice A108 t90.length c109) := (blk_cell BK112.out 2).trans rfl; have hfzb110_2 := blk_frozen BK112.out 2
  have hczb163_0 : w355.cell? ⟨gb164, 0, none⟩ = some (.slice A155 t140.length c156) := (blk_cell BK165.out 0).trans rfl; have hfzb163_0 := blk_frozen BK165.out 0; have hczb163_1 : w355.cell? ⟨gb164, 1, none⟩ = some (.slice A158 t141.length c159) := (blk_cell BK165.out 1).trans rfl; have hfzb163_1 := blk_frozen BK165.out 1; have hczb163_2 : w355.cell? ⟨gb164, 2, none⟩ = some (.slice A161 t142.length c162) := (blk_cell BK165.out 2).trans rfl; have hfzb163_2 := blk_frozen BK165.out 2
  have hczb343_0 : w355.cell? ⟨gb344, 0, none⟩ = some (.slice A335 t320.length c336) := (blk_cell BK345.out 0).trans rfl; have hfzb343_0 := blk_frozen BK345.out 0; have hczb343_1 : w355.cell? ⟨gb344, 1, none⟩ = some (.slice A338 t321.length c339) := (blk_cell BK345.out 1).trans rfl; have hfzb343_1 := blk_frozen BK345.out 1; have hczb343_2 : w355.cell? ⟨gb344, 2, none⟩ = some (.slice A341 t322.length c342) := (blk_cell BK345.out 2).trans rfl; have hfzb343_2 := blk_frozen BK345.out 2
  clear hb
  go_wp2_with fail
  have hc_ := laws_heldFrame.calls k _ _ (Kit.from_ (1) t140.length) _ _ (Kit.from_ (1 + (t140.length : Nat)) t141.length) _ _ (Kit.from_ (1 + (t140.length : Nat) + (t141.length : Nat)) t142.length) 1 (1 + (t140.length : Nat) + (t141.length : Nat) + (t142.length : Nat) : Int) _ (Lk.Rr F154.out).2 (Lk.Rr F154.out).1 (Lk.Rr F157.out).2 (Lk.Rr F157.out).1 (Lk.Rr F160.out).2 (Lk.Rr F160.out).1 H359.out
  simp only [← HL269.out, ← HL270.out, ← HL271.out] at hc_
  refine hc_.mono ?_
  clear hc_
  rintro e_ w360 ⟨rfl, hb⟩
  have hq_ : Below w355.heap.size w355 w360 := ⟨hb.os, hb.tape, hb.output, hb.size, hb.block⟩
  have HZ361 := Aside0.mk (show w355.heap.size ≤ w360.heap.size from hq_.size)
  have hn_ := Aside0.mk (below_then HB.out HB.out.size hq_)
  clear HB
  have HB := hn_
  clear hn_
  have HA362 := Aside0.mk (show w.heap.size ≤ w360.heap.size from HB.out.size)
  have hn_ := Aside0.mk (Kd.R_below F26.out hq_)
  clear F26
  have F26 := hn_
  clear hn_
  have hn_ := Aside0.mk (Kd.R_below F29.out hq_)
  clear F29
  have F29 := hn_
  clear hn_
  have hn_ := Aside0.mk (Kd.S_below F32.out hq_)
  clear F32
  have F32 := hn_
  clear hn_
  have hn_ := Aside0.mk (Kd.R_below F42.out hq_)
  clear F42
  have F42 := hn_
  clear hn_
  have hn_ := Aside0.mk (Kd.R_below F52.out hq_)
  clear F52
  have F52 := hn_
  clear hn_
  have hn_ := Aside0.mk (Kd.R_below F69.out hq_)
  clear F69
  have F69 := hn_
  clear hn_
  have hn_ := Aside0.mk (Kd.R_below F72.out hq_)
  clear F72
  have F72 := hn_
  clear hn_
  have hn_ := Aside0.mk (Kd.R_below F75.out hq_)
  clear F75
  have F75 := hn_
  clear hn_
  have hn_ := Aside0.mk (Kd.R_below F101.out hq_)
  clear F101
  have F101 := hn_
  clear hn_
  have hn_ := Aside0.mk (Kd.R_below F104.out hq_)
  clear F104
  have F104 := hn_
  clear hn_
  have hn_ := Aside0.mk (Kd.S_below F107.out hq_)
  clear F107
  have F107 := hn_
  clear hn_
  have hn_ := Aside0.mk (Kd.R_below F127.out hq_)
  clear F127
  have F127 := hn_
  clear hn_
  have hn_ := Aside0.mk (Kd.R_below F137.out hq_)
  clear F137
  have F137 := hn_
  clear hn_
  have hn_ := Aside0.mk (Kd.R_below F154.out hq_)
  clear F154
  have F154 := hn_
  clear hn_
  have hn_ := Aside0.mk (Kd.R_below F157.out hq_)
  clear F157
  have F157 := hn_
  clear hn_
  have hn_ := Aside0.mk (Kd.R_below F160.out hq_)
  clear F160
  have F160 := hn_
  clear hn_
  have hn_ := Aside0.mk (Kd.R_below F194.out hq_)
  clear F194
  have F194 := hn_
  clear hn_
  have hn_ := Aside0.mk (Kd.R_below F197.out hq_)
  clear F197
  have F197 := hn_
  clear hn_
  have hn_ := Aside0.mk (Kd.S_below F200.out hq_)
  clear F200
  have F200 := hn_
  clear hn_
  have hn_ := Aside0.mk (Kd.R_below F215.out hq_)
  clear F215
  have F215 := hn_
  clear hn_
  have hn_ := Aside0.mk (Kd.R_below F230.out hq_)
  clear F230
  have F230 := hn_
  clear hn_
  have hn_ := Aside0.mk (Kd.R_below F291.out hq_)
  clear F291
  have F291 := hn_
  clear hn_
  have hn_ := Aside0.mk (Kd.R_below F294.out hq_)
  clear F294
  have F294 := hn_
  clear hn_
  have hn_ := Aside0.mk (Kd.S_below F297.out hq_)
  clear F297
  have F297 := hn_
  clear hn_
  have hn_ := Aside0.mk (Kd.R_below F307.out hq_)
  clear F307
  have F307 := hn_
  clear hn_
  have hn_ := Aside0.mk (Kd.R_below F317.out hq_)
  clear F317
  have F317 := hn_
  clear hn_
  have hn_ := Aside0.mk (Kd.R_below F334.out hq_)
  clear F334
  have F334 := hn_
  clear hn_
  have hn_ := Aside0.mk (Kd.R_below F337.out hq_)
  clear F337
  have F337 := hn_
  clear hn_
  have hn_ := Aside0.mk (Kd.R_below F340.out hq_)
  clear F340
  have F340 := hn_
  clear hn_
  have hn_ := Aside0.mk (blk_below BK3.out hq_)
  clear hczb1_0 hfzb1_0; clear hczb1_1 hfzb1_1; clear hczb1_2 hfzb1_2
  clear BK3
  have BK3 := hn_
  clear hn_
  have hn_ := Aside0.mk (blk_below BK80.out hq_)
  clear hczb78_0 hfzb78_0; clear hczb78_1 hfzb78_1; clear hczb78_2 hfzb78_2
  clear BK80
  have BK80 := hn_
  clear hn_
  have hn_ := Aside0.mk (blk_below BK112.out hq_)
  clear hczb110_0 hfzb110_0; clear hczb110_1 hfzb110_1; clear hczb110_2 hfzb110_2
  clear BK112
  have BK112 := hn_
  clear hn_
  have hn_ := Aside0.mk (blk_below BK165.out hq_)
  clear hczb163_0 hfzb163_0; clear hczb163_1 hfzb163_1; clear hczb163_2 hfzb163_2
  clear BK165
  have BK165 := hn_
  clear hn_
  have hn_ := Aside0.mk (blk_below BK345.out hq_)
  clear hczb343_0 hfzb343_0; clear hczb343_1 hfzb343_1; clear hczb343_2 hfzb343_2
  clear BK345
  have BK345 := hn_
  clear hn_
  clear hq_
  have hczb1_0 : w360.cell? ⟨gb2, 0, none⟩ = some (.slice A0_0 l0_0.length c0_0) := (blk_cell BK3.out 0).trans rfl; have hfzb1_0 := blk_frozen BK3.out 0; have hczb1_1 : w360.cell? ⟨gb2, 1, none⟩ = some (.slice A0_1 l0_1.length c0_1) := (blk_cell BK3.out 1).trans rfl; have hfzb1_1 := blk_frozen BK3.out 1; have hczb1_2 : w360.cell? ⟨gb2, 2, none⟩ = some (.slice A0_2 l0_2.length c0_2) := (blk_cell BK3.out 2).trans rfl; have hfzb1_2 := blk_frozen BK3.out 2
  have hczb78_0 : w360.cell? ⟨gb79, 0, none⟩ = some (.slice A70 t55.length c71) := (blk_cell BK80.out 0).trans rfl; have hfzb78_0 := blk_frozen BK80.out 0; have hczb78_1 : w360.cell? ⟨gb79, 1, none⟩ = some (.slice A73 t56.length c74) := (blk_cell BK80.out 1).trans rfl; have hfzb78_1 := blk_frozen BK80.out 1; have hczb78_2 : w360.cell? ⟨gb79, 2, none⟩ = some (.slice A76 t57.length c77) := (blk_cell BK80.out 2).trans rfl; have hfzb78_2 := blk_frozen BK80.out 2
  have hczb110_0 : w360.cell? ⟨gb111, 0, none⟩ = some (.slice A102 t88.length c103) := (blk_cell BK112.out 0).trans rfl; have hfzb110_0 := blk_frozen BK112.out 0; have hczb110_1 : w360.cell? ⟨gb111, 1, none⟩ = some (.slice A105 t89.length c106) := (blk_cell BK112.out 1).trans rfl; have hfzb110_1 := blk_frozen BK112.out 1; have hczb110_2 : w360.cell? ⟨gb111, 2, none⟩ = some (.slice A108 t90.length c109) := (blk_cell BK112.out 2).trans rfl; have hfzb110_2 := blk_frozen BK112.out 2
  have hczb163_0 : w360.cell? ⟨gb164, 0, none⟩ = some (.slice A155 t140.length c156) := (blk_cell BK165.out 0).trans rfl; have hfzb163_0 := blk_frozen BK165.out 0; have hczb163_1 : w360.cell? ⟨gb164, 1, none⟩ = some (.slice A158 t141.length c159) := (blk_cell BK165.out 1).trans rfl; have hfzb163_1 := blk_frozen BK165.out 1; have hczb163_2 : w360.cell? ⟨gb164, 2, none⟩ = some (.slice A161 t142.length c162) := (blk_cell BK165.out 2).trans rfl; have hfzb163_2 := blk_frozen BK165.out 2
  have hczb343_0 : w360.cell? ⟨gb344, 0, none⟩ = some (.slice A335 t320.length c336) := (blk_cell BK345.out 0).trans rfl; have hfzb343_0 := blk_frozen BK345.out 0; have hczb343_1 : w360.cell? ⟨gb344, 1, none⟩ = some (.slice A338 t321.length c339) := (blk_cell BK345.out 1).trans rfl; have hfzb343_1 := blk_frozen BK345.out 1; have hczb343_2 : w360.cell? ⟨gb344, 2, none⟩ = some (.slice A341 t322.length c342) := (blk_cell BK345.out 2).trans rfl; have hfzb343_2 := blk_frozen BK345.out 2
  clear hb
  go_wp2_with fail
  go_ret
  exact ⟨rfl, HB.out⟩
end Go.Proofs.Ytpoddnhfnphdcaa.Q
