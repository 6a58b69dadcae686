/- The law FnExactRunLined of this seat: the walk along its one way. Conditions: none. -/
import Derived.Test.YtgjojppbichaiaaQx0
import Derived.Test.YtgjojppbichaiaaQx1
import Derived.Test.YtgjojppbichaiaaQx2
import Derived.Test.YtgjojppbichaiaaQx4
import Derived.Test.YtgjojppbichaiaaQx6
import Derived.Test.YtgjojppbichaiaaQx7
import Derived.Test.YtgjojppbichaiaaGoodFnExactRunLined
import Derived.Test.YtgjojppbichaiaaLk
namespace Go.Proofs.Ytgjojppbichaiaa.Q
open Go.RowKit Go.Proofs.YtgjojppbichaiaaW.PrintWords Go.Proofs.YtgjojppbichaiaaW.PrintLast Go.Proofs.YtgjojppbichaiaaW.PrintMore
set_option linter.unusedVariables false
set_option linter.unusedSimpArgs false
open Lk in
set_option maxHeartbeats 8000000 in
set_option maxRecDepth 100000 in
theorem laws_FnExactRunLined.calls (k : Nat) (A0_0 : Option Addr) (c0_0 : Nat) (l0_0 : List (S124)) (A0_1 : Option Addr) (c0_1 : Nat) (l0_1 : List (S126)) (a1 : Int) (r : Bool) (w : World) (hr0_0 : Kd.C k124 w A0_0 l0_0.length l0_0) (hc0_0 : l0_0.length ≤ c0_0) (hr0_1 : Kd.C k126 w A0_1 l0_1.length l0_1) (hc0_1 : l0_1.length ≤ c0_1) (h : laws_FnExactRunLined.f k l0_0 l0_1 a1 = some r) :
    Calls Try.prog 8 #[.agg #[.slice A0_0 l0_0.length c0_0, .slice A0_1 l0_1.length c0_1], .int .i64 a1] w fun e w' => e = .returned (.bool r) ∧ Below w.heap.size w w' := by
  unfold laws_FnExactRunLined.f at h
  split at h
  case isFalse => cases h
  rename_i hg
  obtain rfl := Option.some.inj h
  clear h
  have HR0_0 := Aside0.mk hr0_0
  have HC0_0 := Aside0.mk hc0_0
  clear hr0_0 hc0_0
  have HR0_1 := Aside0.mk hr0_1
  have HC0_1 := Aside0.mk hc0_1
  clear hr0_1 hc0_1
  have HB := Aside0.mk (Below.refl w.heap.size w)
  unfold laws_FnExactRunLined.good at hg
  obtain ⟨t8, H90, hg⟩ := hg
  have H9 := Aside0.mk H90
  clear H90
  rcases hg with hs | ⟨hs, hg⟩
  · have hs1_ : decide (t8 < 0) = true := decide_eq_true hs
    clear hs
    go_enter Try.func8, Try.ntmps8
    go_wp2_with (first | ((with_reducible refine gate_dst (N := 2) rfl ?_); refine box_event ?hg (N := 2) ?hd (cs := #[.slice A0_0 l0_0.length c0_0, .slice A0_1 l0_1.length c0_1]) (t := 32) ?hr ?_; (case hd => rfl); (case hg => rfl); (case hr => first | (go_simp; done) | (go_simp; rfl)); intro gb2 hg_ w5 hx_ hb; have hg2_ : gb2 = w.heap.size := hg_; have hq_ : Below w.heap.size w w5 := ⟨hb.os, hb.tape, hb.output, hb.size, hb.block⟩; have HZ6 := Aside0.mk (show w.heap.size ≤ w5.heap.size from hq_.size); have hn_ := Aside0.mk (below_then HB.out HB.out.size hq_); clear HB; have HB := hn_; clear hn_; have HA7 := Aside0.mk (show w.heap.size ≤ w5.heap.size from HB.out.size); clear hq_; have BK3 := Aside0.mk hx_; have GQ4 := Aside0.mk (show w.heap.size ≤ gb2 ∧ gb2 < w5.heap.size from ⟨Nat.le_of_eq hg2_.symm, blk_lt hx_⟩); clear hb hg_ hg2_ hx_; have hczb1_0 : w5.cell? ⟨gb2, 0, none⟩ = some (.slice A0_0 l0_0.length c0_0) := (blk_cell BK3.out 0).trans rfl; have hfzb1_0 := blk_frozen BK3.out 0; have hczb1_1 : w5.cell? ⟨gb2, 1, none⟩ = some (.slice A0_1 l0_1.length c0_1) := (blk_cell BK3.out 1).trans rfl; have hfzb1_1 := blk_frozen BK3.out 1))
    refine (laws_szLined.calls _ _ l0_0 _ _ l0_1 1048576 t8 _ (Kd.C_below HR0_0.out HB.out) HC0_0.out (Kd.C_below HR0_1.out HB.out) HC0_1.out H9.out).mono ?_
    rintro e_ w10 ⟨rfl, hb⟩
    have hq_ : Below w5.heap.size w5 w10 := ⟨hb.os, hb.tape, hb.output, hb.size, hb.block⟩
    have HZ11 := Aside0.mk (show w5.heap.size ≤ w10.heap.size from hq_.size)
    have hn_ := Aside0.mk (below_then HB.out HB.out.size hq_)
    clear HB
    have HB := hn_
    clear hn_
    have HA12 := Aside0.mk (show w.heap.size ≤ w10.heap.size from HB.out.size)
    have hn_ := Aside0.mk (blk_below BK3.out hq_)
    clear hczb1_0 hfzb1_0; clear hczb1_1 hfzb1_1
    clear BK3
    have BK3 := hn_
    clear hn_
    clear hq_
    have hczb1_0 : w10.cell? ⟨gb2, 0, none⟩ = some (.slice A0_0 l0_0.length c0_0) := (blk_cell BK3.out 0).trans rfl; have hfzb1_0 := blk_frozen BK3.out 0; have hczb1_1 : w10.cell? ⟨gb2, 1, none⟩ = some (.slice A0_1 l0_1.length c0_1) := (blk_cell BK3.out 1).trans rfl; have hfzb1_1 := blk_frozen BK3.out 1
    clear hb
    go_wp2_with fail
    go_ret
    exact ⟨rfl, by repeat first | exact HB.out | apply below_alloc⟩
  have hs2_ : decide (t8 < 0) = false := decide_eq_false hs
  clear hs
  obtain ⟨t13, t14, H150, t29, t30, t31, t32, H330, t42, t43, H440, t68, H720, H820, t89, t90, H910, H1060, H1110, H1170, t122, t123, H1240, H1250, H1300, t134, t135, H1360, t150, H1540, H1640, H1690, hg⟩ := hg
  have H15 := Aside0.mk H150
  clear H150
  have H33 := Aside0.mk H330
  clear H330
  have H44 := Aside0.mk H440
  clear H440
  have H72 := Aside0.mk H720
  clear H720
  have H82 := Aside0.mk H820
  clear H820
  have H91 := Aside0.mk H910
  clear H910
  have H106 := Aside0.mk H1060
  clear H1060
  have H111 := Aside0.mk H1110
  clear H1110
  have H117 := Aside0.mk H1170
  clear H1170
  have H124 := Aside0.mk H1240
  clear H1240
  have H125 := Aside0.mk H1250
  clear H1250
  have H130 := Aside0.mk H1300
  clear H1300
  have H136 := Aside0.mk H1360
  clear H1360
  have H154 := Aside0.mk H1540
  clear H1540
  have H164 := Aside0.mk H1640
  clear H1640
  have H169 := Aside0.mk H1690
  clear H1690
  clear hg
  go_enter Try.func8, Try.ntmps8
  go_wp2_with (first | ((with_reducible refine gate_dst (N := 2) rfl ?_); refine box_event ?hg (N := 2) ?hd (cs := #[.slice A0_0 l0_0.length c0_0, .slice A0_1 l0_1.length c0_1]) (t := 32) ?hr ?_; (case hd => rfl); (case hg => rfl); (case hr => first | (go_simp; done) | (go_simp; rfl)); intro gb2 hg_ w5 hx_ hb; have hg2_ : gb2 = w.heap.size := hg_; have hq_ : Below w.heap.size w w5 := ⟨hb.os, hb.tape, hb.output, hb.size, hb.block⟩; have HZ6 := Aside0.mk (show w.heap.size ≤ w5.heap.size from hq_.size); have hn_ := Aside0.mk (below_then HB.out HB.out.size hq_); clear HB; have HB := hn_; clear hn_; have HA7 := Aside0.mk (show w.heap.size ≤ w5.heap.size from HB.out.size); clear hq_; have BK3 := Aside0.mk hx_; have GQ4 := Aside0.mk (show w.heap.size ≤ gb2 ∧ gb2 < w5.heap.size from ⟨Nat.le_of_eq hg2_.symm, blk_lt hx_⟩); clear hb hg_ hg2_ hx_; have hczb1_0 : w5.cell? ⟨gb2, 0, none⟩ = some (.slice A0_0 l0_0.length c0_0) := (blk_cell BK3.out 0).trans rfl; have hfzb1_0 := blk_frozen BK3.out 0; have hczb1_1 : w5.cell? ⟨gb2, 1, none⟩ = some (.slice A0_1 l0_1.length c0_1) := (blk_cell BK3.out 1).trans rfl; have hfzb1_1 := blk_frozen BK3.out 1))
  refine (laws_szLined.calls _ _ l0_0 _ _ l0_1 1048576 t8 _ (Kd.C_below HR0_0.out HB.out) HC0_0.out (Kd.C_below HR0_1.out HB.out) HC0_1.out H9.out).mono ?_
  rintro e_ w10 ⟨rfl, hb⟩
  have hq_ : Below w5.heap.size w5 w10 := ⟨hb.os, hb.tape, hb.output, hb.size, hb.block⟩
  have HZ11 := Aside0.mk (show w5.heap.size ≤ w10.heap.size from hq_.size)
  have hn_ := Aside0.mk (below_then HB.out HB.out.size hq_)
  clear HB
  have HB := hn_
  clear hn_
  have HA12 := Aside0.mk (show w.heap.size ≤ w10.heap.size from HB.out.size)
  have hn_ := Aside0.mk (blk_below BK3.out hq_)
  clear hczb1_0 hfzb1_0; clear hczb1_1 hfzb1_1
  clear BK3
  have BK3 := hn_
  clear hn_
  clear hq_
  have hczb1_0 : w10.cell? ⟨gb2, 0, none⟩ = some (.slice A0_0 l0_0.length c0_0) := (blk_cell BK3.out 0).trans rfl; have hfzb1_0 := blk_frozen BK3.out 0; have hczb1_1 : w10.cell? ⟨gb2, 1, none⟩ = some (.slice A0_1 l0_1.length c0_1) := (blk_cell BK3.out 1).trans rfl; have hfzb1_1 := blk_frozen BK3.out 1
  clear hb
  go_wp2_with fail
  refine (laws_toLined.calls k _ _ l0_0 _ _ l0_1 t13 t14 _ (Kd.C_below HR0_0.out HB.out) HC0_0.out (Kd.C_below HR0_1.out HB.out) HC0_1.out H15.out).mono ?_
  rintro e_ w16 ⟨v17, v18, rfl, f19, f20, hb⟩
  have hq_ : Below w10.heap.size w10 w16 := ⟨hb.os, hb.tape, hb.output, hb.size, hb.block⟩
  have HZ21 := Aside0.mk (show w10.heap.size ≤ w16.heap.size from hq_.size)
  have hn_ := Aside0.mk (below_then HB.out HB.out.size hq_)
  clear HB
  have HB := hn_
  clear hn_
  have HA22 := Aside0.mk (show w.heap.size ≤ w16.heap.size from HB.out.size)
  have hn_ := Aside0.mk (blk_below BK3.out hq_)
  clear hczb1_0 hfzb1_0; clear hczb1_1 hfzb1_1
  clear BK3
  have BK3 := hn_
  clear hn_
  clear hq_
  have hczb1_0 : w16.cell? ⟨gb2, 0, none⟩ = some (.slice A0_0 l0_0.length c0_0) := (blk_cell BK3.out 0).trans rfl; have hfzb1_0 := blk_frozen BK3.out 0; have hczb1_1 : w16.cell? ⟨gb2, 1, none⟩ = some (.slice A0_1 l0_1.length c0_1) := (blk_cell BK3.out 1).trans rfl; have hfzb1_1 := blk_frozen BK3.out 1
  clear hb
  have F23 := Aside0.mk (Lk.newR (b := w10.heap.size) (base := w.heap.size) (Sep := fun k_ => True) rfl f19 (HA12.out) (fun k_ hk_ => hk_))
  clear f19
  have F26 := Aside0.mk (Lk.newR (b := w10.heap.size) (base := w.heap.size) (Sep := fun k_ => True) rfl f20 (HA12.out) (fun k_ hk_ => hk_))
  clear f20
  obtain ⟨A24, c25, e_⟩ := Kd.R_slice F23.out
  subst e_
  obtain ⟨A27, c28, e_⟩ := Kd.R_slice F26.out
  subst e_
  go_wp2_with fail
  refine (spec_RunLined.calls k _ _ t13 _ _ t14 a1 t29 t30 t31 t32 _ (Lk.Rr F23.out).2 (Lk.Rr F23.out).1 (Lk.Rr F26.out).2 (Lk.Rr F26.out).1 H33.out).mono ?_
  rintro e_ w34 ⟨v35, rfl, f36, hb⟩
  have hq_ : Below w16.heap.size w16 w34 := ⟨hb.os, hb.tape, hb.output, hb.size, hb.block⟩
  have HZ37 := Aside0.mk (show w16.heap.size ≤ w34.heap.size from hq_.size)
  have hn_ := Aside0.mk (below_then HB.out HB.out.size hq_)
  clear HB
  have HB := hn_
  clear hn_
  have HA38 := Aside0.mk (show w.heap.size ≤ w34.heap.size from HB.out.size)
  have hn_ := Aside0.mk (Kd.R_below F23.out hq_)
  clear F23
  have F23 := hn_
  clear hn_
  have hn_ := Aside0.mk (Kd.R_below F26.out hq_)
  clear F26
  have F26 := hn_
  clear hn_
  have hn_ := Aside0.mk (blk_below BK3.out hq_)
  clear hczb1_0 hfzb1_0; clear hczb1_1 hfzb1_1
  clear BK3
  have BK3 := hn_
  clear hn_
  clear hq_
  have hczb1_0 : w34.cell? ⟨gb2, 0, none⟩ = some (.slice A0_0 l0_0.length c0_0) := (blk_cell BK3.out 0).trans rfl; have hfzb1_0 := blk_frozen BK3.out 0; have hczb1_1 : w34.cell? ⟨gb2, 1, none⟩ = some (.slice A0_1 l0_1.length c0_1) := (blk_cell BK3.out 1).trans rfl; have hfzb1_1 := blk_frozen BK3.out 1
  clear hb
  have F39 := Aside0.mk (Lk.newR (b := w16.heap.size) (base := w.heap.size) (Sep := fun k_ => True) rfl f36 (HA22.out) (fun k_ hk_ => hk_))
  clear f36
  obtain ⟨A40, c41, e_⟩ := Kd.R_slice F39.out
  subst e_
  go_wp2_with fail
  refine (laws_toLined.calls k _ _ l0_0 _ _ l0_1 t42 t43 _ (Kd.C_below HR0_0.out HB.out) HC0_0.out (Kd.C_below HR0_1.out HB.out) HC0_1.out H44.out).mono ?_
  rintro e_ w45 ⟨v46, v47, rfl, f48, f49, hb⟩
  have hq_ : Below w34.heap.size w34 w45 := ⟨hb.os, hb.tape, hb.output, hb.size, hb.block⟩
  have HZ50 := Aside0.mk (show w34.heap.size ≤ w45.heap.size from hq_.size)
  have hn_ := Aside0.mk (below_then HB.out HB.out.size hq_)
  clear HB
  have HB := hn_
  clear hn_
  have HA51 := Aside0.mk (show w.heap.size ≤ w45.heap.size from HB.out.size)
  have hn_ := Aside0.mk (Kd.R_below F23.out hq_)
  clear F23
  have F23 := hn_
  clear hn_
  have hn_ := Aside0.mk (Kd.R_below F26.out hq_)
  clear F26
  have F26 := hn_
  clear hn_
  have hn_ := Aside0.mk (Kd.R_below F39.out hq_)
  clear F39
  have F39 := hn_
  clear hn_
  have hn_ := Aside0.mk (blk_below BK3.out hq_)
  clear hczb1_0 hfzb1_0; clear hczb1_1 hfzb1_1
  clear BK3
  have BK3 := hn_
  clear hn_
  clear hq_
  have hczb1_0 : w45.cell? ⟨gb2, 0, none⟩ = some (.slice A0_0 l0_0.length c0_0) := (blk_cell BK3.out 0).trans rfl; have hfzb1_0 := blk_frozen BK3.out 0; have hczb1_1 : w45.cell? ⟨gb2, 1, none⟩ = some (.slice A0_1 l0_1.length c0_1) := (blk_cell BK3.out 1).trans rfl; have hfzb1_1 := blk_frozen BK3.out 1
  clear hb
  have F52 := Aside0.mk (Lk.newR (b := w34.heap.size) (base := w.heap.size) (Sep := fun k_ => True) rfl f48 (HA38.out) (fun k_ hk_ => hk_))
  clear f48
  have F55 := Aside0.mk (Lk.newR (b := w34.heap.size) (base := w.heap.size) (Sep := fun k_ => True) rfl f49 (HA38.out) (fun k_ hk_ => hk_))
  clear f49
  obtain ⟨A53, c54, e_⟩ := Kd.R_slice F52.out
  subst e_
  obtain ⟨A56, c57, e_⟩ := Kd.R_slice F55.out
  subst e_
  go_wp2_with (first | ((with_reducible refine gate_dst (N := 10) rfl ?_); refine box_event ?hg (N := 10) ?hd (cs := #[.slice none 0 0, .slice none 0 0]) (t := 38) ?hr ?_; (case hd => rfl); (case hg => rfl); (case hr => first | (go_simp; done) | (go_simp; rfl)); intro gb59 hg_ w62 hx_ hb; have hg2_ : gb59 = w45.heap.size := hg_; have hq_ : Below w45.heap.size w45 w62 := ⟨hb.os, hb.tape, hb.output, hb.size, hb.block⟩; have HZ63 := Aside0.mk (show w45.heap.size ≤ w62.heap.size from hq_.size); have hn_ := Aside0.mk (below_then HB.out HB.out.size hq_); clear HB; have HB := hn_; clear hn_; have HA64 := Aside0.mk (show w.heap.size ≤ w62.heap.size from HB.out.size); have hn_ := Aside0.mk (Kd.R_below F23.out hq_); clear F23; have F23 := hn_; clear hn_; have hn_ := Aside0.mk (Kd.R_below F26.out hq_); clear F26; have F26 := hn_; clear hn_; have hn_ := Aside0.mk (Kd.R_below F39.out hq_); clear F39; have F39 := hn_; clear hn_; have hn_ := Aside0.mk (Kd.R_below F52.out hq_); clear F52; have F52 := hn_; clear hn_; have hn_ := Aside0.mk (Kd.R_below F55.out hq_); clear F55; have F55 := hn_; clear hn_; have hn_ := Aside0.mk (blk_below BK3.out hq_); clear hczb1_0 hfzb1_0; clear hczb1_1 hfzb1_1; clear BK3; have BK3 := hn_; clear hn_; clear hq_; have hczb1_0 : w62.cell? ⟨gb2, 0, none⟩ = some (.slice A0_0 l0_0.length c0_0) := (blk_cell BK3.out 0).trans rfl; have hfzb1_0 := blk_frozen BK3.out 0; have hczb1_1 : w62.cell? ⟨gb2, 1, none⟩ = some (.slice A0_1 l0_1.length c0_1) := (blk_cell BK3.out 1).trans rfl; have hfzb1_1 := blk_frozen BK3.out 1; have BK60 := Aside0.mk hx_; have GQ61 := Aside0.mk (show w45.heap.size ≤ gb59 ∧ gb59 < w62.heap.size from ⟨Nat.le_of_eq hg2_.symm, blk_lt hx_⟩); clear hb hg_ hg2_ hx_; have hczb58_0 : w62.cell? ⟨gb59, 0, none⟩ = some (.slice none 0 0) := (blk_cell BK60.out 0).trans rfl; have hfzb58_0 := blk_frozen BK60.out 0; have hczb58_1 : w62.cell? ⟨gb59, 1, none⟩ = some (.slice none 0 0) := (blk_cell BK60.out 1).trans rfl; have hfzb58_1 := blk_frozen BK60.out 1) | ((with_reducible refine gate_store (t := 38) (p := 10) rfl ?_); refine store_event (t := 38) (p := 10) (v := ?vo_w65) (w1 := ((w62.setCell ⟨gb59, 0, none⟩ (.slice A53 t42.length c54)).setCell ⟨gb59, 1, none⟩ (.slice A56 t43.length c57))) ?hg ?ho ?hn ?hr ?_; (case ho => rfl); (case hg => rfl); (case hn => rfl); (case hr => first | (go_simp; done) | (go_simp; rfl)); intro w65 hw_; have hx_ : w65.heap[gb59]? = some (.cells #[(.slice A53 t42.length c54), (.slice A56 t43.length c57)] 38 (0, 0)) := (by rw [hw_]; exact Lk.filled (us := [(.slice A53 t42.length c54), (.slice A56 t43.length c57)]) BK60.out rfl); have hk2_ : Kept w62 w65 (fun k_ => k_ = gb59) := (by rw [hw_]; exact Lk.fill_kept [(.slice A53 t42.length c54), (.slice A56 t43.length c57)] 0 w62); have hB_ := Aside0.mk (show Below w.heap.size w w65 by rw [hw_]; exact Lk.fill_below [(.slice A53 t42.length c54), (.slice A56 t43.length c57)] 0 w w62 HB.out (by skip; have := HA51.out; have := GQ61.out; omega)); clear HB; have HB := hB_; clear hB_; have HZ66 := Aside0.mk (show w62.heap.size ≤ w65.heap.size from hk2_.1); have HA67 := Aside0.mk (show w.heap.size ≤ w65.heap.size from HB.out.size); have hn_ := Aside0.mk (Kd.R_kept F23.out hk2_ (fun k_ h1_ h2_ => by skip; have := HZ37.out; have := HZ50.out; have := GQ61.out; have h3_ := h1_.1; omega)); clear F23; have F23 := hn_; clear hn_; have hn_ := Aside0.mk (Kd.R_kept F26.out hk2_ (fun k_ h1_ h2_ => by skip; have := HZ37.out; have := HZ50.out; have := GQ61.out; have h3_ := h1_.1; omega)); clear F26; have F26 := hn_; clear hn_; have hn_ := Aside0.mk (Kd.R_kept F39.out hk2_ (fun k_ h1_ h2_ => by skip; have := HZ50.out; have := GQ61.out; have h3_ := h1_.1; omega)); clear F39; have F39 := hn_; clear hn_; have hn_ := Aside0.mk (Kd.R_kept F52.out hk2_ (fun k_ h1_ h2_ => by skip; have := GQ61.out; have h3_ := h1_.1; omega)); clear F52; have F52 := hn_; clear hn_; have hn_ := Aside0.mk (Kd.R_kept F55.out hk2_ (fun k_ h1_ h2_ => by skip; have := GQ61.out; have h3_ := h1_.1; omega)); clear F55; have F55 := hn_; clear hn_; clear hczb1_0 hfzb1_0; clear hczb1_1 hfzb1_1; have hn_ := Aside0.mk (blk_kept BK3.out hk2_ (fun h_ => by skip; have := HZ11.out; have := HZ21.out; have := HZ37.out; have := HZ50.out; have := GQ61.out; have := GQ4.out; omega)); clear BK3; have BK3 := hn_; clear hn_; clear hczb58_0 hfzb58_0; clear hczb58_1 hfzb58_1; clear BK60; have BK60 := Aside0.mk hx_; clear hk2_ hx_ hw_; have hczb1_0 : w65.cell? ⟨gb2, 0, none⟩ = some (.slice A0_0 l0_0.length c0_0) := (blk_cell BK3.out 0).trans rfl; have hfzb1_0 := blk_frozen BK3.out 0; have hczb1_1 : w65.cell? ⟨gb2, 1, none⟩ = some (.slice A0_1 l0_1.length c0_1) := (blk_cell BK3.out 1).trans rfl; have hfzb1_1 := blk_frozen BK3.out 1; have hczb58_0 : w65.cell? ⟨gb59, 0, none⟩ = some (.slice A53 t42.length c54) := (blk_cell BK60.out 0).trans rfl; have hfzb58_0 := blk_frozen BK60.out 0; have hczb58_1 : w65.cell? ⟨gb59, 1, none⟩ = some (.slice A56 t43.length c57) := (blk_cell BK60.out 1).trans rfl; have hfzb58_1 := blk_frozen BK60.out 1))
  refine (impl_RunLined.calls k _ _ t42 _ _ t43 a1 t68 t30 t31 t32 _ (Lk.Rr F52.out).2 (Lk.Rr F52.out).1 (Lk.Rr F55.out).2 (Lk.Rr F55.out).1 H72.out).mono ?_
  rintro e_ w73 ⟨v74, rfl, f75, hb⟩
  have hq_ : Below w65.heap.size w65 w73 := ⟨hb.os, hb.tape, hb.output, hb.size, hb.block⟩
  have HZ76 := Aside0.mk (show w65.heap.size ≤ w73.heap.size from hq_.size)
  have hn_ := Aside0.mk (below_then HB.out HB.out.size hq_)
  clear HB
  have HB := hn_
  clear hn_
  have HA77 := Aside0.mk (show w.heap.size ≤ w73.heap.size from HB.out.size)
  have hn_ := Aside0.mk (Kd.R_below F23.out hq_)
  clear F23
  have F23 := hn_
  clear hn_
  have hn_ := Aside0.mk (Kd.R_below F26.out hq_)
  clear F26
  have F26 := hn_
  clear hn_
  have hn_ := Aside0.mk (Kd.R_below F39.out hq_)
  clear F39
  have F39 := hn_
  clear hn_
  have hn_ := Aside0.mk (Kd.R_below F52.out hq_)
  clear F52
  have F52 := hn_
  clear hn_
  have hn_ := Aside0.mk (Kd.R_below F55.out hq_)
  clear F55
  have F55 := hn_
  clear hn_
  have hn_ := Aside0.mk (blk_below BK3.out hq_)
  clear hczb1_0 hfzb1_0; clear hczb1_1 hfzb1_1
  clear BK3
  have BK3 := hn_
  clear hn_
  have hn_ := Aside0.mk (blk_below BK60.out hq_)
  clear hczb58_0 hfzb58_0; clear hczb58_1 hfzb58_1
  clear BK60
  have BK60 := hn_
  clear hn_
  clear hq_
  have hczb1_0 : w73.cell? ⟨gb2, 0, none⟩ = some (.slice A0_0 l0_0.length c0_0) := (blk_cell BK3.out 0).trans rfl; have hfzb1_0 := blk_frozen BK3.out 0; have hczb1_1 : w73.cell? ⟨gb2, 1, none⟩ = some (.slice A0_1 l0_1.length c0_1) := (blk_cell BK3.out 1).trans rfl; have hfzb1_1 := blk_frozen BK3.out 1
  have hczb58_0 : w73.cell? ⟨gb59, 0, none⟩ = some (.slice A53 t42.length c54) := (blk_cell BK60.out 0).trans rfl; have hfzb58_0 := blk_frozen BK60.out 0; have hczb58_1 : w73.cell? ⟨gb59, 1, none⟩ = some (.slice A56 t43.length c57) := (blk_cell BK60.out 1).trans rfl; have hfzb58_1 := blk_frozen BK60.out 1
  clear hb
  have F78 := Aside0.mk (Lk.newR (b := w65.heap.size) (base := w.heap.size) (Sep := fun k_ => True) rfl f75 (HA67.out) (fun k_ hk_ => hk_))
  clear f75
  obtain ⟨A79, c80, e_⟩ := Kd.R_slice F78.out
  subst e_
  go_wp2_with fail
  refine (laws_eqIntS.calls k _ _ t68 _ _ t29 true _ (Lk.Rr F78.out).2 (Lk.Rr F78.out).1 (Lk.Rr F39.out).2 (Lk.Rr F39.out).1 H82.out).mono ?_
  rintro e_ w83 ⟨rfl, ⟨nd_, hd_⟩⟩
  have hb : Below w73.heap.size w73 w83 := by rw [hd_]; exact pw_below_drewN (Below.refl _ _) nd_
  clear hd_
  have hq_ : Below w73.heap.size w73 w83 := ⟨hb.os, hb.tape, hb.output, hb.size, hb.block⟩
  have HZ84 := Aside0.mk (show w73.heap.size ≤ w83.heap.size from hq_.size)
  have hn_ := Aside0.mk (below_then HB.out HB.out.size hq_)
  clear HB
  have HB := hn_
  clear hn_
  have HA85 := Aside0.mk (show w.heap.size ≤ w83.heap.size from HB.out.size)
  have hn_ := Aside0.mk (Kd.R_below F23.out hq_)
  clear F23
  have F23 := hn_
  clear hn_
  have hn_ := Aside0.mk (Kd.R_below F26.out hq_)
  clear F26
  have F26 := hn_
  clear hn_
  have hn_ := Aside0.mk (Kd.R_below F39.out hq_)
  clear F39
  have F39 := hn_
  clear hn_
  have hn_ := Aside0.mk (Kd.R_below F52.out hq_)
  clear F52
  have F52 := hn_
  clear hn_
  have hn_ := Aside0.mk (Kd.R_below F55.out hq_)
  clear F55
  have F55 := hn_
  clear hn_
  have hn_ := Aside0.mk (Kd.R_below F78.out hq_)
  clear F78
  have F78 := hn_
  clear hn_
  have hn_ := Aside0.mk (blk_below BK3.out hq_)
  clear hczb1_0 hfzb1_0; clear hczb1_1 hfzb1_1
  clear BK3
  have BK3 := hn_
  clear hn_
  have hn_ := Aside0.mk (blk_below BK60.out hq_)
  clear hczb58_0 hfzb58_0; clear hczb58_1 hfzb58_1
  clear BK60
  have BK60 := hn_
  clear hn_
  clear hq_
  have hczb1_0 : w83.cell? ⟨gb2, 0, none⟩ = some (.slice A0_0 l0_0.length c0_0) := (blk_cell BK3.out 0).trans rfl; have hfzb1_0 := blk_frozen BK3.out 0; have hczb1_1 : w83.cell? ⟨gb2, 1, none⟩ = some (.slice A0_1 l0_1.length c0_1) := (blk_cell BK3.out 1).trans rfl; have hfzb1_1 := blk_frozen BK3.out 1
  have hczb58_0 : w83.cell? ⟨gb59, 0, none⟩ = some (.slice A53 t42.length c54) := (blk_cell BK60.out 0).trans rfl; have hfzb58_0 := blk_frozen BK60.out 0; have hczb58_1 : w83.cell? ⟨gb59, 1, none⟩ = some (.slice A56 t43.length c57) := (blk_cell BK60.out 1).trans rfl; have hfzb58_1 := blk_frozen BK60.out 1
  clear hb
  go_wp2_with fail
  have hb : Below w83.heap.size w83 w83.drew := below_drew (Below.refl _ _)
  obtain ⟨w86, hw_⟩ : ∃ w86, w83.drew = w86 := ⟨_, rfl⟩
  rw [hw_] at hb
  have hq_ : Below w83.heap.size w83 w86 := ⟨hb.os, hb.tape, hb.output, hb.size, hb.block⟩
  have HZ87 := Aside0.mk (show w83.heap.size ≤ w86.heap.size from hq_.size)
  have hn_ := Aside0.mk (below_then HB.out HB.out.size hq_)
  clear HB
  have HB := hn_
  clear hn_
  have HA88 := Aside0.mk (show w.heap.size ≤ w86.heap.size from HB.out.size)
  have hn_ := Aside0.mk (Kd.R_below F23.out hq_)
  clear F23
  have F23 := hn_
  clear hn_
  have hn_ := Aside0.mk (Kd.R_below F26.out hq_)
  clear F26
  have F26 := hn_
  clear hn_
  have hn_ := Aside0.mk (Kd.R_below F39.out hq_)
  clear F39
  have F39 := hn_
  clear hn_
  have hn_ := Aside0.mk (Kd.R_below F52.out hq_)
  clear F52
  have F52 := hn_
  clear hn_
  have hn_ := Aside0.mk (Kd.R_below F55.out hq_)
  clear F55
  have F55 := hn_
  clear hn_
  have hn_ := Aside0.mk (Kd.R_below F78.out hq_)
  clear F78
  have F78 := hn_
  clear hn_
  have hn_ := Aside0.mk (blk_below BK3.out hq_)
  clear hczb1_0 hfzb1_0; clear hczb1_1 hfzb1_1
  clear BK3
  have BK3 := hn_
  clear hn_
  have hn_ := Aside0.mk (blk_below BK60.out hq_)
  clear hczb58_0 hfzb58_0; clear hczb58_1 hfzb58_1
  clear BK60
  have BK60 := hn_
  clear hn_
  clear hq_
  have hczb1_0 : w86.cell? ⟨gb2, 0, none⟩ = some (.slice A0_0 l0_0.length c0_0) := (blk_cell BK3.out 0).trans rfl; have hfzb1_0 := blk_frozen BK3.out 0; have hczb1_1 : w86.cell? ⟨gb2, 1, none⟩ = some (.slice A0_1 l0_1.length c0_1) := (blk_cell BK3.out 1).trans rfl; have hfzb1_1 := blk_frozen BK3.out 1
  have hczb58_0 : w86.cell? ⟨gb59, 0, none⟩ = some (.slice A53 t42.length c54) := (blk_cell BK60.out 0).trans rfl; have hfzb58_0 := blk_frozen BK60.out 0; have hczb58_1 : w86.cell? ⟨gb59, 1, none⟩ = some (.slice A56 t43.length c57) := (blk_cell BK60.out 1).trans rfl; have hfzb58_1 := blk_frozen BK60.out 1
  refine start_ (n := 5) (S := fun w' => w'.cell? ⟨gb59, 0, none⟩ = some (.slice A53 t42.length c54) ∧ w'.cell? ⟨gb59, 1, none⟩ = some (.slice A56 t43.length c57) ∧ w'.cell? ⟨gb2, 0, none⟩ = some (.slice A0_0 l0_0.length c0_0) ∧ w'.cell? ⟨gb2, 1, none⟩ = some (.slice A0_1 l0_1.length c0_1)) (ds := []) #[false, false, false, false, false] (by kernel_rfl) rfl rfl (by rw [hw_]; exact ⟨(blk_cell BK60.out 0).trans rfl, (blk_cell BK60.out 1).trans rfl, (blk_cell BK3.out 0).trans rfl, (blk_cell BK3.out 1).trans rfl⟩) (fun hHeld => ?_)
  rw [hw_] at hHeld ⊢
  clear hw_ hb
  refine take_ (i := 0) (N := some 65) (v := ?_) (a' := ?_) #[true, false, false, false, false] rfl rfl (by kernel_rfl) (fun _ _ _ h => h) (Or.inl ⟨by rfl, ?_⟩) hHeld ?_ ?_
  rotate_left
  · rintro w' ⟨s0, s1, s2, s3⟩
    go_simp
    with_reducible rfl
  rotate_left
  · simp only [Act.put, List.setIfInBounds_toArray, List.set_cons_zero, List.set_cons_succ, i64_w, i32_w]
    rfl
  refine take_ (i := 1) (N := some 66) (v := ?_) (a' := ?_) #[true, true, false, false, false] rfl rfl (by kernel_rfl) (fun _ _ _ h => h) (Or.inl ⟨by rfl, ?_⟩) hHeld ?_ ?_
  rotate_left
  · rintro w' ⟨s0, s1, s2, s3⟩
    go_simp
    with_reducible rfl
  rotate_left
  · simp only [Act.put, List.setIfInBounds_toArray, List.set_cons_zero, List.set_cons_succ, i64_w, i32_w]
    rfl
  refine one_ (i := 2) (N := some 67) #[true, true, true, false, false] rfl rfl (by kernel_rfl) (by decide) (fun K hK => ?_)
  refine goes_ Try.func19 (by kernel_rfl) rfl #[.agg #[.slice A0_0 l0_0.length c0_0, .slice A0_1 l0_1.length c0_1]] (by rfl) rfl rfl (by (try simp only [List.map_toArray, List.map_cons, List.map_nil]); first | done | rfl | (simp only [List.length_drop, List.length_take]; rfl)) ?_
  refine (laws_toLined.calls k _ _ l0_0 _ _ l0_1 t89 t90 _ (Kd.C_below HR0_0.out HB.out) HC0_0.out (Kd.C_below HR0_1.out HB.out) HC0_1.out H91.out).mono ?_
  rintro e_ w92 ⟨v93, v94, rfl, f95, f96, hb⟩
  have hq_ : Below w86.heap.size w86 w92 := ⟨hb.os, hb.tape, hb.output, hb.size, hb.block⟩
  have HZ97 := Aside0.mk (show w86.heap.size ≤ w92.heap.size from hq_.size)
  have hn_ := Aside0.mk (below_then HB.out HB.out.size hq_)
  clear HB
  have HB := hn_
  clear hn_
  have HA98 := Aside0.mk (show w.heap.size ≤ w92.heap.size from HB.out.size)
  have hn_ := Aside0.mk (Kd.R_below F23.out hq_)
  clear F23
  have F23 := hn_
  clear hn_
  have hn_ := Aside0.mk (Kd.R_below F26.out hq_)
  clear F26
  have F26 := hn_
  clear hn_
  have hn_ := Aside0.mk (Kd.R_below F39.out hq_)
  clear F39
  have F39 := hn_
  clear hn_
  have hn_ := Aside0.mk (Kd.R_below F52.out hq_)
  clear F52
  have F52 := hn_
  clear hn_
  have hn_ := Aside0.mk (Kd.R_below F55.out hq_)
  clear F55
  have F55 := hn_
  clear hn_
  have hn_ := Aside0.mk (Kd.R_below F78.out hq_)
  clear F78
  have F78 := hn_
  clear hn_
  have hn_ := Aside0.mk (blk_below BK3.out hq_)
  clear hczb1_0 hfzb1_0; clear hczb1_1 hfzb1_1
  clear BK3
  have BK3 := hn_
  clear hn_
  have hn_ := Aside0.mk (blk_below BK60.out hq_)
  clear hczb58_0 hfzb58_0; clear hczb58_1 hfzb58_1
  clear BK60
  have BK60 := hn_
  clear hn_
  clear hq_
  have hczb1_0 : w92.cell? ⟨gb2, 0, none⟩ = some (.slice A0_0 l0_0.length c0_0) := (blk_cell BK3.out 0).trans rfl; have hfzb1_0 := blk_frozen BK3.out 0; have hczb1_1 : w92.cell? ⟨gb2, 1, none⟩ = some (.slice A0_1 l0_1.length c0_1) := (blk_cell BK3.out 1).trans rfl; have hfzb1_1 := blk_frozen BK3.out 1
  have hczb58_0 : w92.cell? ⟨gb59, 0, none⟩ = some (.slice A53 t42.length c54) := (blk_cell BK60.out 0).trans rfl; have hfzb58_0 := blk_frozen BK60.out 0; have hczb58_1 : w92.cell? ⟨gb59, 1, none⟩ = some (.slice A56 t43.length c57) := (blk_cell BK60.out 1).trans rfl; have hfzb58_1 := blk_frozen BK60.out 1
  clear hb
  refine ⟨_, rfl, ?_⟩
  have F99 := Aside0.mk (Lk.newR (b := w86.heap.size) (base := w.heap.size) (Sep := fun k_ => True) rfl f95 (HA88.out) (fun k_ hk_ => hk_))
  clear f95
  have F102 := Aside0.mk (Lk.newR (b := w86.heap.size) (base := w.heap.size) (Sep := fun k_ => True) rfl f96 (HA88.out) (fun k_ hk_ => hk_))
  clear f96
  obtain ⟨A100, c101, e_⟩ := Kd.R_slice F99.out
  subst e_
  obtain ⟨A103, c104, e_⟩ := Kd.R_slice F102.out
  subst e_
  refine hK.out _ _ ⟨(blk_cell BK60.out 0).trans rfl, (blk_cell BK60.out 1).trans rfl, (blk_cell BK3.out 0).trans rfl, (blk_cell BK3.out 1).trans rfl⟩ (fun hHeld => ?_)
  clear hK K
  refine norm_ (a' := ?_) ?_ ?_
  rotate_left
  · show Act.put _ (some 67) _ = _
    simp only [Act.put, List.setIfInBounds_toArray, List.set_cons_zero, List.set_cons_succ, i64_w, i32_w]
    rfl
  refine one_ (i := 3) (N := some 68) #[true, true, true, true, false] rfl rfl (by kernel_rfl) (by decide) (fun K hK => ?_)
  refine goes_ Try.func21 (by kernel_rfl) rfl #[.agg #[.slice A53 t42.length c54, .slice A56 t43.length c57], .agg #[.slice A100 t89.length c101, .slice A103 t90.length c104]] (by rfl) rfl rfl (by (try simp only [List.map_toArray, List.map_cons, List.map_nil]); first | done | rfl | (simp only [List.length_drop, List.length_take]; rfl)) ?_
  refine (laws_eqLined.calls k _ _ t42 _ _ t43 _ _ t89 _ _ t90 true _ (Lk.Rr F52.out).2 (Lk.Rr F52.out).1 (Lk.Rr F55.out).2 (Lk.Rr F55.out).1 (Lk.Rr F99.out).2 (Lk.Rr F99.out).1 (Lk.Rr F102.out).2 (Lk.Rr F102.out).1 H106.out).mono ?_
  rintro e_ w107 ⟨rfl, hb⟩
  have hq_ : Below w92.heap.size w92 w107 := ⟨hb.os, hb.tape, hb.output, hb.size, hb.block⟩
  have HZ108 := Aside0.mk (show w92.heap.size ≤ w107.heap.size from hq_.size)
  have hn_ := Aside0.mk (below_then HB.out HB.out.size hq_)
  clear HB
  have HB := hn_
  clear hn_
  have HA109 := Aside0.mk (show w.heap.size ≤ w107.heap.size from HB.out.size)
  have hn_ := Aside0.mk (Kd.R_below F23.out hq_)
  clear F23
  have F23 := hn_
  clear hn_
  have hn_ := Aside0.mk (Kd.R_below F26.out hq_)
  clear F26
  have F26 := hn_
  clear hn_
  have hn_ := Aside0.mk (Kd.R_below F39.out hq_)
  clear F39
  have F39 := hn_
  clear hn_
  have hn_ := Aside0.mk (Kd.R_below F52.out hq_)
  clear F52
  have F52 := hn_
  clear hn_
  have hn_ := Aside0.mk (Kd.R_below F55.out hq_)
  clear F55
  have F55 := hn_
  clear hn_
  have hn_ := Aside0.mk (Kd.R_below F78.out hq_)
  clear F78
  have F78 := hn_
  clear hn_
  have hn_ := Aside0.mk (Kd.R_below F99.out hq_)
  clear F99
  have F99 := hn_
  clear hn_
  have hn_ := Aside0.mk (Kd.R_below F102.out hq_)
  clear F102
  have F102 := hn_
  clear hn_
  have hn_ := Aside0.mk (blk_below BK3.out hq_)
  clear hczb1_0 hfzb1_0; clear hczb1_1 hfzb1_1
  clear BK3
  have BK3 := hn_
  clear hn_
  have hn_ := Aside0.mk (blk_below BK60.out hq_)
  clear hczb58_0 hfzb58_0; clear hczb58_1 hfzb58_1
  clear BK60
  have BK60 := hn_
  clear hn_
  clear hq_
  have hczb1_0 : w107.cell? ⟨gb2, 0, none⟩ = some (.slice A0_0 l0_0.length c0_0) := (blk_cell BK3.out 0).trans rfl; have hfzb1_0 := blk_frozen BK3.out 0; have hczb1_1 : w107.cell? ⟨gb2, 1, none⟩ = some (.slice A0_1 l0_1.length c0_1) := (blk_cell BK3.out 1).trans rfl; have hfzb1_1 := blk_frozen BK3.out 1
  have hczb58_0 : w107.cell? ⟨gb59, 0, none⟩ = some (.slice A53 t42.length c54) := (blk_cell BK60.out 0).trans rfl; have hfzb58_0 := blk_frozen BK60.out 0; have hczb58_1 : w107.cell? ⟨gb59, 1, none⟩ = some (.slice A56 t43.length c57) := (blk_cell BK60.out 1).trans rfl; have hfzb58_1 := blk_frozen BK60.out 1
  clear hb
  refine ⟨_, rfl, ?_⟩
  refine hK.out _ _ ⟨(blk_cell BK60.out 0).trans rfl, (blk_cell BK60.out 1).trans rfl, (blk_cell BK3.out 0).trans rfl, (blk_cell BK3.out 1).trans rfl⟩ (fun hHeld => ?_)
  clear hK K
  refine norm_ (a' := ?_) ?_ ?_
  rotate_left
  · show Act.put _ (some 68) _ = _
    simp only [Act.put, List.setIfInBounds_toArray, List.set_cons_zero, List.set_cons_succ, i64_w, i32_w]
    rfl
  refine pure_ (i := 4) (N := some 69) (v := ?_) (a' := ?_) #[true, true, true, true, true] rfl rfl (by kernel_rfl) (fun _ _ _ h => h) (Or.inl ⟨by rfl, ?_⟩) ?_ ?_
  rotate_left
  · intro w'
    go_simp
    with_reducible rfl
  rotate_left
  · simp only [Act.put, List.setIfInBounds_toArray, List.set_cons_zero, List.set_cons_succ, i64_w, i32_w]
    rfl
  refine done_ (by kernel_rfl) ?_
  go_wp2_with fail
  have hn_ := H111.out
  have hn2_ := Aside0.mk (show Kd.R k86 86 w107 w.heap.size (fun k_ => (w34.heap.size ≤ k_ ∧ k_ < w45.heap.size) ∧ some k_ = (.slice A53 t42.length c54 : Value).ownBlock ∧ (some k_ ≠ (.slice A56 t43.length c57 : Value).ownBlock)) (.slice A53 t42.length c54) t42 from Kd.R_mono (Kd.R_apart' F52.out (Kd.R_typed F55.out) (by decide)) (fun k_ hk_ => ⟨hk_.1.1, hk_.1.2.1, hk_.2⟩))
  have F52q := hn2_
  clear hn2_
  have hn2_ := Aside0.mk (show Kd.R k63 63 w107 w.heap.size (fun k_ => (w34.heap.size ≤ k_ ∧ k_ < w45.heap.size) ∧ some k_ = (.slice A56 t43.length c57 : Value).ownBlock ∧ (some k_ ≠ (.slice A53 t42.length c54 : Value).ownBlock)) (.slice A56 t43.length c57) t43 from Kd.R_mono (Kd.R_apart' F55.out (Kd.R_typed F52.out) (by decide)) (fun k_ hk_ => ⟨hk_.1.1, hk_.1.2.1, hk_.2⟩))
  have F55q := hn2_
  clear hn2_
  clear F52
  have F52 := F52q
  clear F52q
  clear F55
  have F55 := F55q
  clear F55q
  refine (laws_markLined.calls (fun k_ => w34.heap.size ≤ k_ ∧ k_ < w45.heap.size) _ t42 _ t43 1 w _ HB.out F52.out F55.out (by omega) hn_).mono ?_
  rintro e_ w110 ⟨rfl, f0_, f1_, hb0_, hk_⟩
  have hk2_ : Kept w107 w110 (fun k_ => w34.heap.size ≤ k_ ∧ k_ < w45.heap.size) := Kept.mono hk_ (fun k_ h_ => by first | exact h_ | exact h_.1)
  have HZ112 := Aside0.mk (show w107.heap.size ≤ w110.heap.size from hk2_.1)
  clear HB
  have HB := Aside0.mk hb0_
  have hn_ := Aside0.mk (Kd.R_kept F23.out hk2_ (fun k_ h1_ h2_ => by skip; have := HZ37.out; have h3_ := h1_.1; omega))
  clear F23
  have F23 := hn_
  clear hn_
  have hn_ := Aside0.mk (Kd.R_kept F26.out hk2_ (fun k_ h1_ h2_ => by skip; have := HZ37.out; have h3_ := h1_.1; omega))
  clear F26
  have F26 := hn_
  clear hn_
  have hn_ := Aside0.mk (Kd.R_kept F39.out hk2_ (fun k_ h1_ h2_ => by skip; have h3_ := h1_.1; omega))
  clear F39
  have F39 := hn_
  clear hn_
  have hn_ := Aside0.mk (Kd.R_kept F78.out hk2_ (fun k_ h1_ h2_ => by skip; have := HZ63.out; have := HZ66.out; have h3_ := h1_.1; omega))
  clear F78
  have F78 := hn_
  clear hn_
  have hn_ := Aside0.mk (Kd.R_kept F99.out hk2_ (fun k_ h1_ h2_ => by skip; have := HZ63.out; have := HZ66.out; have := HZ76.out; have := HZ84.out; have := HZ87.out; have h3_ := h1_.1; omega))
  clear F99
  have F99 := hn_
  clear hn_
  have hn_ := Aside0.mk (Kd.R_kept F102.out hk2_ (fun k_ h1_ h2_ => by skip; have := HZ63.out; have := HZ66.out; have := HZ76.out; have := HZ84.out; have := HZ87.out; have h3_ := h1_.1; omega))
  clear F102
  have F102 := hn_
  clear hn_
  have hn_ := Aside0.mk (f0_)
  have F52n := hn_
  clear hn_
  have hn_ := Aside0.mk (f1_)
  have F55n := hn_
  clear hn_
  clear F52
  have F52 := F52n
  clear F52n
  clear F55
  have F55 := F55n
  clear F55n
  have hn_ := Aside0.mk (blk_kept BK3.out hk2_ (fun h_ => by skip; have := HZ11.out; have := HZ21.out; have := HZ37.out; have := GQ4.out; omega))
  clear hczb1_0 hfzb1_0; clear hczb1_1 hfzb1_1
  clear BK3
  have BK3 := hn_
  clear hn_
  have hn_ := Aside0.mk (blk_kept BK60.out hk2_ (fun h_ => by skip; have := GQ61.out; omega))
  clear hczb58_0 hfzb58_0; clear hczb58_1 hfzb58_1
  clear BK60
  have BK60 := hn_
  clear hn_
  clear hk2_ hk_ hb0_ f0_ f1_
  have hczb1_0 : w110.cell? ⟨gb2, 0, none⟩ = some (.slice A0_0 l0_0.length c0_0) := (blk_cell BK3.out 0).trans rfl; have hfzb1_0 := blk_frozen BK3.out 0; have hczb1_1 : w110.cell? ⟨gb2, 1, none⟩ = some (.slice A0_1 l0_1.length c0_1) := (blk_cell BK3.out 1).trans rfl; have hfzb1_1 := blk_frozen BK3.out 1
  have hczb58_0 : w110.cell? ⟨gb59, 0, none⟩ = some (.slice A53 t42.length c54) := (blk_cell BK60.out 0).trans rfl; have hfzb58_0 := blk_frozen BK60.out 0; have hczb58_1 : w110.cell? ⟨gb59, 1, none⟩ = some (.slice A56 t43.length c57) := (blk_cell BK60.out 1).trans rfl; have hfzb58_1 := blk_frozen BK60.out 1
  have hl113 := (Kd.R_reads' F52.out).1
  have HL113 := Aside0.mk hl113
  clear hl113
  have hl114 := (Kd.R_reads' F55.out).1
  have HL114 := Aside0.mk hl114
  clear hl114
  have hn1_ : decide ((1 + (markLStepS_cnt t42 : Nat) + (markGuardS_cnt t43 : Nat) : Int) < 0) = false := decide_eq_false (by omega)
  have hd115 := hn1_
  clear hn1_
  go_wp2_with fail
  refine (laws_eqIntS.calls k _ _ t68 _ _ t29 true _ (Lk.Rr F78.out).2 (Lk.Rr F78.out).1 (Lk.Rr F39.out).2 (Lk.Rr F39.out).1 H117.out).mono ?_
  rintro e_ w118 ⟨rfl, ⟨nd_, hd_⟩⟩
  have hb : Below w110.heap.size w110 w118 := by rw [hd_]; exact pw_below_drewN (Below.refl _ _) nd_
  clear hd_
  have hq_ : Below w110.heap.size w110 w118 := ⟨hb.os, hb.tape, hb.output, hb.size, hb.block⟩
  have HZ119 := Aside0.mk (show w110.heap.size ≤ w118.heap.size from hq_.size)
  have hn_ := Aside0.mk (below_then HB.out HB.out.size hq_)
  clear HB
  have HB := hn_
  clear hn_
  have HA120 := Aside0.mk (show w.heap.size ≤ w118.heap.size from HB.out.size)
  have hn_ := Aside0.mk (Kd.R_below F23.out hq_)
  clear F23
  have F23 := hn_
  clear hn_
  have hn_ := Aside0.mk (Kd.R_below F26.out hq_)
  clear F26
  have F26 := hn_
  clear hn_
  have hn_ := Aside0.mk (Kd.R_below F39.out hq_)
  clear F39
  have F39 := hn_
  clear hn_
  have hn_ := Aside0.mk (Kd.R_below F52.out hq_)
  clear F52
  have F52 := hn_
  clear hn_
  have hn_ := Aside0.mk (Kd.R_below F55.out hq_)
  clear F55
  have F55 := hn_
  clear hn_
  have hn_ := Aside0.mk (Kd.R_below F78.out hq_)
  clear F78
  have F78 := hn_
  clear hn_
  have hn_ := Aside0.mk (Kd.R_below F99.out hq_)
  clear F99
  have F99 := hn_
  clear hn_
  have hn_ := Aside0.mk (Kd.R_below F102.out hq_)
  clear F102
  have F102 := hn_
  clear hn_
  have hn_ := Aside0.mk (blk_below BK3.out hq_)
  clear hczb1_0 hfzb1_0; clear hczb1_1 hfzb1_1
  clear BK3
  have BK3 := hn_
  clear hn_
  have hn_ := Aside0.mk (blk_below BK60.out hq_)
  clear hczb58_0 hfzb58_0; clear hczb58_1 hfzb58_1
  clear BK60
  have BK60 := hn_
  clear hn_
  clear hq_
  have hczb1_0 : w118.cell? ⟨gb2, 0, none⟩ = some (.slice A0_0 l0_0.length c0_0) := (blk_cell BK3.out 0).trans rfl; have hfzb1_0 := blk_frozen BK3.out 0; have hczb1_1 : w118.cell? ⟨gb2, 1, none⟩ = some (.slice A0_1 l0_1.length c0_1) := (blk_cell BK3.out 1).trans rfl; have hfzb1_1 := blk_frozen BK3.out 1
  have hczb58_0 : w118.cell? ⟨gb59, 0, none⟩ = some (.slice A53 t42.length c54) := (blk_cell BK60.out 0).trans rfl; have hfzb58_0 := blk_frozen BK60.out 0; have hczb58_1 : w118.cell? ⟨gb59, 1, none⟩ = some (.slice A56 t43.length c57) := (blk_cell BK60.out 1).trans rfl; have hfzb58_1 := blk_frozen BK60.out 1
  clear hb
  go_wp2_with fail
  refine (laws_markIntS.calls k (fun k_ => (w65.heap.size ≤ k_ ∧ k_ < w73.heap.size) ∧ some k_ = (.slice A79 t68.length c80 : Value).ownBlock ∧ (True)) _ t68 1 t122 t123 w _ HB.out F78.out H124.out).mono ?_
  rintro e_ w121 ⟨rfl, f0_, hb0_, hk_⟩
  have hk2_ : Kept w118 w121 (fun k_ => w65.heap.size ≤ k_ ∧ k_ < w73.heap.size) := Kept.mono hk_ (fun k_ h_ => by first | exact h_ | exact h_.1)
  have HZ126 := Aside0.mk (show w118.heap.size ≤ w121.heap.size from hk2_.1)
  clear HB
  have HB := Aside0.mk hb0_
  have hn_ := Aside0.mk (Kd.R_kept F23.out hk2_ (fun k_ h1_ h2_ => by skip; have := HZ37.out; have := HZ50.out; have := HZ63.out; have := HZ66.out; have h3_ := h1_.1; omega))
  clear F23
  have F23 := hn_
  clear hn_
  have hn_ := Aside0.mk (Kd.R_kept F26.out hk2_ (fun k_ h1_ h2_ => by skip; have := HZ37.out; have := HZ50.out; have := HZ63.out; have := HZ66.out; have h3_ := h1_.1; omega))
  clear F26
  have F26 := hn_
  clear hn_
  have hn_ := Aside0.mk (Kd.R_kept F39.out hk2_ (fun k_ h1_ h2_ => by skip; have := HZ50.out; have := HZ63.out; have := HZ66.out; have h3_ := h1_.1; omega))
  clear F39
  have F39 := hn_
  clear hn_
  have hn_ := Aside0.mk (Kd.R_kept F52.out hk2_ (fun k_ h1_ h2_ => by skip; have := HZ63.out; have := HZ66.out; have h3_ := h1_.1; omega))
  clear F52
  have F52 := hn_
  clear hn_
  have hn_ := Aside0.mk (Kd.R_kept F55.out hk2_ (fun k_ h1_ h2_ => by skip; have := HZ63.out; have := HZ66.out; have h3_ := h1_.1; omega))
  clear F55
  have F55 := hn_
  clear hn_
  have hn_ := Aside0.mk (Kd.R_kept F99.out hk2_ (fun k_ h1_ h2_ => by skip; have := HZ84.out; have := HZ87.out; have h3_ := h1_.1; omega))
  clear F99
  have F99 := hn_
  clear hn_
  have hn_ := Aside0.mk (Kd.R_kept F102.out hk2_ (fun k_ h1_ h2_ => by skip; have := HZ84.out; have := HZ87.out; have h3_ := h1_.1; omega))
  clear F102
  have F102 := hn_
  clear hn_
  have hn_ := Aside0.mk (Lk.markedR rfl f0_ (fun k_ e_ => (show (w65.heap.size ≤ k_ ∧ k_ < w73.heap.size) ∧ some k_ = (.slice A79 t68.length c80 : Value).ownBlock ∧ (True) from (F78.out.1 k_ e_.symm))))
  have F78n := hn_
  clear hn_
  clear F78
  have F78 := F78n
  clear F78n
  have hn_ := Aside0.mk (blk_kept BK3.out hk2_ (fun h_ => by skip; have := HZ11.out; have := HZ21.out; have := HZ37.out; have := HZ50.out; have := HZ63.out; have := HZ66.out; have := GQ4.out; omega))
  clear hczb1_0 hfzb1_0; clear hczb1_1 hfzb1_1
  clear BK3
  have BK3 := hn_
  clear hn_
  have hn_ := Aside0.mk (blk_kept BK60.out hk2_ (fun h_ => by skip; have := HZ66.out; have := GQ61.out; omega))
  clear hczb58_0 hfzb58_0; clear hczb58_1 hfzb58_1
  clear BK60
  have BK60 := hn_
  clear hn_
  clear hk2_ hk_ hb0_ f0_
  have hczb1_0 : w121.cell? ⟨gb2, 0, none⟩ = some (.slice A0_0 l0_0.length c0_0) := (blk_cell BK3.out 0).trans rfl; have hfzb1_0 := blk_frozen BK3.out 0; have hczb1_1 : w121.cell? ⟨gb2, 1, none⟩ = some (.slice A0_1 l0_1.length c0_1) := (blk_cell BK3.out 1).trans rfl; have hfzb1_1 := blk_frozen BK3.out 1
  have hczb58_0 : w121.cell? ⟨gb59, 0, none⟩ = some (.slice A53 t42.length c54) := (blk_cell BK60.out 0).trans rfl; have hfzb58_0 := blk_frozen BK60.out 0; have hczb58_1 : w121.cell? ⟨gb59, 1, none⟩ = some (.slice A56 t43.length c57) := (blk_cell BK60.out 1).trans rfl; have hfzb58_1 := blk_frozen BK60.out 1
  have hl127 := (Kd.R_reads' F78.out).1
  have HL127 := Aside0.mk hl127
  clear hl127
  have hn1_ : decide (t122 < 0) = false := decide_eq_false (by have := H125.out; omega)
  have hd128 := hn1_
  clear hn1_
  go_wp2_with fail
  have hc_ := laws_heldIntS.calls k _ _ t123 1 t122 _ (Lk.Rr F78.out).2 (Lk.Rr F78.out).1 H130.out
  simp only [← HL127.out] at hc_
  refine hc_.mono ?_
  clear hc_
  rintro e_ w131 ⟨rfl, ⟨nd_, hd_⟩⟩
  have hb : Below w121.heap.size w121 w131 := by rw [hd_]; exact pw_below_drewN (Below.refl _ _) nd_
  clear hd_
  have hq_ : Below w121.heap.size w121 w131 := ⟨hb.os, hb.tape, hb.output, hb.size, hb.block⟩
  have HZ132 := Aside0.mk (show w121.heap.size ≤ w131.heap.size from hq_.size)
  have hn_ := Aside0.mk (below_then HB.out HB.out.size hq_)
  clear HB
  have HB := hn_
  clear hn_
  have HA133 := Aside0.mk (show w.heap.size ≤ w131.heap.size from HB.out.size)
  have hn_ := Aside0.mk (Kd.R_below F23.out hq_)
  clear F23
  have F23 := hn_
  clear hn_
  have hn_ := Aside0.mk (Kd.R_below F26.out hq_)
  clear F26
  have F26 := hn_
  clear hn_
  have hn_ := Aside0.mk (Kd.R_below F39.out hq_)
  clear F39
  have F39 := hn_
  clear hn_
  have hn_ := Aside0.mk (Kd.R_below F52.out hq_)
  clear F52
  have F52 := hn_
  clear hn_
  have hn_ := Aside0.mk (Kd.R_below F55.out hq_)
  clear F55
  have F55 := hn_
  clear hn_
  have hn_ := Aside0.mk (Kd.R_below F78.out hq_)
  clear F78
  have F78 := hn_
  clear hn_
  have hn_ := Aside0.mk (Kd.R_below F99.out hq_)
  clear F99
  have F99 := hn_
  clear hn_
  have hn_ := Aside0.mk (Kd.R_below F102.out hq_)
  clear F102
  have F102 := hn_
  clear hn_
  have hn_ := Aside0.mk (blk_below BK3.out hq_)
  clear hczb1_0 hfzb1_0; clear hczb1_1 hfzb1_1
  clear BK3
  have BK3 := hn_
  clear hn_
  have hn_ := Aside0.mk (blk_below BK60.out hq_)
  clear hczb58_0 hfzb58_0; clear hczb58_1 hfzb58_1
  clear BK60
  have BK60 := hn_
  clear hn_
  clear hq_
  have hczb1_0 : w131.cell? ⟨gb2, 0, none⟩ = some (.slice A0_0 l0_0.length c0_0) := (blk_cell BK3.out 0).trans rfl; have hfzb1_0 := blk_frozen BK3.out 0; have hczb1_1 : w131.cell? ⟨gb2, 1, none⟩ = some (.slice A0_1 l0_1.length c0_1) := (blk_cell BK3.out 1).trans rfl; have hfzb1_1 := blk_frozen BK3.out 1
  have hczb58_0 : w131.cell? ⟨gb59, 0, none⟩ = some (.slice A53 t42.length c54) := (blk_cell BK60.out 0).trans rfl; have hfzb58_0 := blk_frozen BK60.out 0; have hczb58_1 : w131.cell? ⟨gb59, 1, none⟩ = some (.slice A56 t43.length c57) := (blk_cell BK60.out 1).trans rfl; have hfzb58_1 := blk_frozen BK60.out 1
  clear hb
  go_wp2_with fail
  refine (laws_toLined.calls k _ _ l0_0 _ _ l0_1 t134 t135 _ (Kd.C_below HR0_0.out HB.out) HC0_0.out (Kd.C_below HR0_1.out HB.out) HC0_1.out H136.out).mono ?_
  rintro e_ w137 ⟨v138, v139, rfl, f140, f141, hb⟩
  have hq_ : Below w131.heap.size w131 w137 := ⟨hb.os, hb.tape, hb.output, hb.size, hb.block⟩
  have HZ142 := Aside0.mk (show w131.heap.size ≤ w137.heap.size from hq_.size)
  have hn_ := Aside0.mk (below_then HB.out HB.out.size hq_)
  clear HB
  have HB := hn_
  clear hn_
  have HA143 := Aside0.mk (show w.heap.size ≤ w137.heap.size from HB.out.size)
  have hn_ := Aside0.mk (Kd.R_below F23.out hq_)
  clear F23
  have F23 := hn_
  clear hn_
  have hn_ := Aside0.mk (Kd.R_below F26.out hq_)
  clear F26
  have F26 := hn_
  clear hn_
  have hn_ := Aside0.mk (Kd.R_below F39.out hq_)
  clear F39
  have F39 := hn_
  clear hn_
  have hn_ := Aside0.mk (Kd.R_below F52.out hq_)
  clear F52
  have F52 := hn_
  clear hn_
  have hn_ := Aside0.mk (Kd.R_below F55.out hq_)
  clear F55
  have F55 := hn_
  clear hn_
  have hn_ := Aside0.mk (Kd.R_below F78.out hq_)
  clear F78
  have F78 := hn_
  clear hn_
  have hn_ := Aside0.mk (Kd.R_below F99.out hq_)
  clear F99
  have F99 := hn_
  clear hn_
  have hn_ := Aside0.mk (Kd.R_below F102.out hq_)
  clear F102
  have F102 := hn_
  clear hn_
  have hn_ := Aside0.mk (blk_below BK3.out hq_)
  clear hczb1_0 hfzb1_0; clear hczb1_1 hfzb1_1
  clear BK3
  have BK3 := hn_
  clear hn_
  have hn_ := Aside0.mk (blk_below BK60.out hq_)
  clear hczb58_0 hfzb58_0; clear hczb58_1 hfzb58_1
  clear BK60
  have BK60 := hn_
  clear hn_
  clear hq_
  have hczb1_0 : w137.cell? ⟨gb2, 0, none⟩ = some (.slice A0_0 l0_0.length c0_0) := (blk_cell BK3.out 0).trans rfl; have hfzb1_0 := blk_frozen BK3.out 0; have hczb1_1 : w137.cell? ⟨gb2, 1, none⟩ = some (.slice A0_1 l0_1.length c0_1) := (blk_cell BK3.out 1).trans rfl; have hfzb1_1 := blk_frozen BK3.out 1
  have hczb58_0 : w137.cell? ⟨gb59, 0, none⟩ = some (.slice A53 t42.length c54) := (blk_cell BK60.out 0).trans rfl; have hfzb58_0 := blk_frozen BK60.out 0; have hczb58_1 : w137.cell? ⟨gb59, 1, none⟩ = some (.slice A56 t43.length c57) := (blk_cell BK60.out 1).trans rfl; have hfzb58_1 := blk_frozen BK60.out 1
  clear hb
  have F144 := Aside0.mk (Lk.newR (b := w131.heap.size) (base := w.heap.size) (Sep := fun k_ => True) rfl f140 (HA133.out) (fun k_ hk_ => hk_))
  clear f140
  have F147 := Aside0.mk (Lk.newR (b := w131.heap.size) (base := w.heap.size) (Sep := fun k_ => True) rfl f141 (HA133.out) (fun k_ hk_ => hk_))
  clear f141
  obtain ⟨A145, c146, e_⟩ := Kd.R_slice F144.out
  subst e_
  obtain ⟨A148, c149, e_⟩ := Kd.R_slice F147.out
  subst e_
  go_wp2_with fail
  refine (impl_RunLined.calls k _ _ t134 _ _ t135 a1 t150 t30 t31 t32 _ (Lk.Rr F144.out).2 (Lk.Rr F144.out).1 (Lk.Rr F147.out).2 (Lk.Rr F147.out).1 H154.out).mono ?_
  rintro e_ w155 ⟨v156, rfl, f157, hb⟩
  have hq_ : Below w137.heap.size w137 w155 := ⟨hb.os, hb.tape, hb.output, hb.size, hb.block⟩
  have HZ158 := Aside0.mk (show w137.heap.size ≤ w155.heap.size from hq_.size)
  have hn_ := Aside0.mk (below_then HB.out HB.out.size hq_)
  clear HB
  have HB := hn_
  clear hn_
  have HA159 := Aside0.mk (show w.heap.size ≤ w155.heap.size from HB.out.size)
  have hn_ := Aside0.mk (Kd.R_below F23.out hq_)
  clear F23
  have F23 := hn_
  clear hn_
  have hn_ := Aside0.mk (Kd.R_below F26.out hq_)
  clear F26
  have F26 := hn_
  clear hn_
  have hn_ := Aside0.mk (Kd.R_below F39.out hq_)
  clear F39
  have F39 := hn_
  clear hn_
  have hn_ := Aside0.mk (Kd.R_below F52.out hq_)
  clear F52
  have F52 := hn_
  clear hn_
  have hn_ := Aside0.mk (Kd.R_below F55.out hq_)
  clear F55
  have F55 := hn_
  clear hn_
  have hn_ := Aside0.mk (Kd.R_below F78.out hq_)
  clear F78
  have F78 := hn_
  clear hn_
  have hn_ := Aside0.mk (Kd.R_below F99.out hq_)
  clear F99
  have F99 := hn_
  clear hn_
  have hn_ := Aside0.mk (Kd.R_below F102.out hq_)
  clear F102
  have F102 := hn_
  clear hn_
  have hn_ := Aside0.mk (Kd.R_below F144.out hq_)
  clear F144
  have F144 := hn_
  clear hn_
  have hn_ := Aside0.mk (Kd.R_below F147.out hq_)
  clear F147
  have F147 := hn_
  clear hn_
  have hn_ := Aside0.mk (blk_below BK3.out hq_)
  clear hczb1_0 hfzb1_0; clear hczb1_1 hfzb1_1
  clear BK3
  have BK3 := hn_
  clear hn_
  have hn_ := Aside0.mk (blk_below BK60.out hq_)
  clear hczb58_0 hfzb58_0; clear hczb58_1 hfzb58_1
  clear BK60
  have BK60 := hn_
  clear hn_
  clear hq_
  have hczb1_0 : w155.cell? ⟨gb2, 0, none⟩ = some (.slice A0_0 l0_0.length c0_0) := (blk_cell BK3.out 0).trans rfl; have hfzb1_0 := blk_frozen BK3.out 0; have hczb1_1 : w155.cell? ⟨gb2, 1, none⟩ = some (.slice A0_1 l0_1.length c0_1) := (blk_cell BK3.out 1).trans rfl; have hfzb1_1 := blk_frozen BK3.out 1
  have hczb58_0 : w155.cell? ⟨gb59, 0, none⟩ = some (.slice A53 t42.length c54) := (blk_cell BK60.out 0).trans rfl; have hfzb58_0 := blk_frozen BK60.out 0; have hczb58_1 : w155.cell? ⟨gb59, 1, none⟩ = some (.slice A56 t43.length c57) := (blk_cell BK60.out 1).trans rfl; have hfzb58_1 := blk_frozen BK60.out 1
  clear hb
  have F160 := Aside0.mk (Lk.newR (b := w137.heap.size) (base := w.heap.size) (Sep := fun k_ => True) rfl f157 (HA143.out) (fun k_ hk_ => hk_))
  clear f157
  obtain ⟨A161, c162, e_⟩ := Kd.R_slice F160.out
  subst e_
  go_wp2_with fail
  refine (laws_eqIntS.calls k _ _ t150 _ _ t29 true _ (Lk.Rr F160.out).2 (Lk.Rr F160.out).1 (Lk.Rr F39.out).2 (Lk.Rr F39.out).1 H164.out).mono ?_
  rintro e_ w165 ⟨rfl, ⟨nd_, hd_⟩⟩
  have hb : Below w155.heap.size w155 w165 := by rw [hd_]; exact pw_below_drewN (Below.refl _ _) nd_
  clear hd_
  have hq_ : Below w155.heap.size w155 w165 := ⟨hb.os, hb.tape, hb.output, hb.size, hb.block⟩
  have HZ166 := Aside0.mk (show w155.heap.size ≤ w165.heap.size from hq_.size)
  have hn_ := Aside0.mk (below_then HB.out HB.out.size hq_)
  clear HB
  have HB := hn_
  clear hn_
  have HA167 := Aside0.mk (show w.heap.size ≤ w165.heap.size from HB.out.size)
  have hn_ := Aside0.mk (Kd.R_below F23.out hq_)
  clear F23
  have F23 := hn_
  clear hn_
  have hn_ := Aside0.mk (Kd.R_below F26.out hq_)
  clear F26
  have F26 := hn_
  clear hn_
  have hn_ := Aside0.mk (Kd.R_below F39.out hq_)
  clear F39
  have F39 := hn_
  clear hn_
  have hn_ := Aside0.mk (Kd.R_below F52.out hq_)
  clear F52
  have F52 := hn_
  clear hn_
  have hn_ := Aside0.mk (Kd.R_below F55.out hq_)
  clear F55
  have F55 := hn_
  clear hn_
  have hn_ := Aside0.mk (Kd.R_below F78.out hq_)
  clear F78
  have F78 := hn_
  clear hn_
  have hn_ := Aside0.mk (Kd.R_below F99.out hq_)
  clear F99
  have F99 := hn_
  clear hn_
  have hn_ := Aside0.mk (Kd.R_below F102.out hq_)
  clear F102
  have F102 := hn_
  clear hn_
  have hn_ := Aside0.mk (Kd.R_below F144.out hq_)
  clear F144
  have F144 := hn_
  clear hn_
  have hn_ := Aside0.mk (Kd.R_below F147.out hq_)
  clear F147
  have F147 := hn_
  clear hn_
  have hn_ := Aside0.mk (Kd.R_below F160.out hq_)
  clear F160
  have F160 := hn_
  clear hn_
  have hn_ := Aside0.mk (blk_below BK3.out hq_)
  clear hczb1_0 hfzb1_0; clear hczb1_1 hfzb1_1
  clear BK3
  have BK3 := hn_
  clear hn_
  have hn_ := Aside0.mk (blk_below BK60.out hq_)
  clear hczb58_0 hfzb58_0; clear hczb58_1 hfzb58_1
  clear BK60
  have BK60 := hn_
  clear hn_
  clear hq_
  have hczb1_0 : w165.cell? ⟨gb2, 0, none⟩ = some (.slice A0_0 l0_0.length c0_0) := (blk_cell BK3.out 0).trans rfl; have hfzb1_0 := blk_frozen BK3.out 0; have hczb1_1 : w165.cell? ⟨gb2, 1, none⟩ = some (.slice A0_1 l0_1.length c0_1) := (blk_cell BK3.out 1).trans rfl; have hfzb1_1 := blk_frozen BK3.out 1
  have hczb58_0 : w165.cell? ⟨gb59, 0, none⟩ = some (.slice A53 t42.length c54) := (blk_cell BK60.out 0).trans rfl; have hfzb58_0 := blk_frozen BK60.out 0; have hczb58_1 : w165.cell? ⟨gb59, 1, none⟩ = some (.slice A56 t43.length c57) := (blk_cell BK60.out 1).trans rfl; have hfzb58_1 := blk_frozen BK60.out 1
  clear hb
  go_wp2_with fail
  have hc_ := laws_heldIntS.calls k _ _ t123 1 t122 _ (Lk.Rr F78.out).2 (Lk.Rr F78.out).1 H169.out
  simp only [← HL127.out] at hc_
  refine hc_.mono ?_
  clear hc_
  rintro e_ w170 ⟨rfl, ⟨nd_, hd_⟩⟩
  have hb : Below w165.heap.size w165 w170 := by rw [hd_]; exact pw_below_drewN (Below.refl _ _) nd_
  clear hd_
  have hq_ : Below w165.heap.size w165 w170 := ⟨hb.os, hb.tape, hb.output, hb.size, hb.block⟩
  have HZ171 := Aside0.mk (show w165.heap.size ≤ w170.heap.size from hq_.size)
  have hn_ := Aside0.mk (below_then HB.out HB.out.size hq_)
  clear HB
  have HB := hn_
  clear hn_
  have HA172 := Aside0.mk (show w.heap.size ≤ w170.heap.size from HB.out.size)
  have hn_ := Aside0.mk (Kd.R_below F23.out hq_)
  clear F23
  have F23 := hn_
  clear hn_
  have hn_ := Aside0.mk (Kd.R_below F26.out hq_)
  clear F26
  have F26 := hn_
  clear hn_
  have hn_ := Aside0.mk (Kd.R_below F39.out hq_)
  clear F39
  have F39 := hn_
  clear hn_
  have hn_ := Aside0.mk (Kd.R_below F52.out hq_)
  clear F52
  have F52 := hn_
  clear hn_
  have hn_ := Aside0.mk (Kd.R_below F55.out hq_)
  clear F55
  have F55 := hn_
  clear hn_
  have hn_ := Aside0.mk (Kd.R_below F78.out hq_)
  clear F78
  have F78 := hn_
  clear hn_
  have hn_ := Aside0.mk (Kd.R_below F99.out hq_)
  clear F99
  have F99 := hn_
  clear hn_
  have hn_ := Aside0.mk (Kd.R_below F102.out hq_)
  clear F102
  have F102 := hn_
  clear hn_
  have hn_ := Aside0.mk (Kd.R_below F144.out hq_)
  clear F144
  have F144 := hn_
  clear hn_
  have hn_ := Aside0.mk (Kd.R_below F147.out hq_)
  clear F147
  have F147 := hn_
  clear hn_
  have hn_ := Aside0.mk (Kd.R_below F160.out hq_)
  clear F160
  have F160 := hn_
  clear hn_
  have hn_ := Aside0.mk (blk_below BK3.out hq_)
  clear hczb1_0 hfzb1_0; clear hczb1_1 hfzb1_1
  clear BK3
  have BK3 := hn_
  clear hn_
  have hn_ := Aside0.mk (blk_below BK60.out hq_)
  clear hczb58_0 hfzb58_0; clear hczb58_1 hfzb58_1
  clear BK60
  have BK60 := hn_
  clear hn_
  clear hq_
  have hczb1_0 : w170.cell? ⟨gb2, 0, none⟩ = some (.slice A0_0 l0_0.length c0_0) := (blk_cell BK3.out 0).trans rfl; have hfzb1_0 := blk_frozen BK3.out 0; have hczb1_1 : w170.cell? ⟨gb2, 1, none⟩ = some (.slice A0_1 l0_1.length c0_1) := (blk_cell BK3.out 1).trans rfl; have hfzb1_1 := blk_frozen BK3.out 1
  have hczb58_0 : w170.cell? ⟨gb59, 0, none⟩ = some (.slice A53 t42.length c54) := (blk_cell BK60.out 0).trans rfl; have hfzb58_0 := blk_frozen BK60.out 0; have hczb58_1 : w170.cell? ⟨gb59, 1, none⟩ = some (.slice A56 t43.length c57) := (blk_cell BK60.out 1).trans rfl; have hfzb58_1 := blk_frozen BK60.out 1
  clear hb
  go_wp2_with fail
  go_ret
  exact ⟨rfl, HB.out⟩
end Go.Proofs.Ytgjojppbichaiaa.Q
