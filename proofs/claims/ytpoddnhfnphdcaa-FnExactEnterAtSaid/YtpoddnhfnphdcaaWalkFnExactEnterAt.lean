/- The law FnExactEnterAt of this seat: the walk along its one way. Conditions: none. -/
import Derived.Test.YtpoddnhfnphdcaaQx0
import Derived.Test.YtpoddnhfnphdcaaQx1
import Derived.Test.YtpoddnhfnphdcaaQx2
import Derived.Test.YtpoddnhfnphdcaaQx3
import Derived.Test.YtpoddnhfnphdcaaGoodFnExactEnterAt
import Derived.Test.YtpoddnhfnphdcaaLk
namespace Go.Proofs.Ytpoddnhfnphdcaa.Q
open Go.RowKit Go.Proofs.YtpoddnhfnphdcaaW.PrintWords Go.Proofs.YtpoddnhfnphdcaaW.PrintLast Go.Proofs.YtpoddnhfnphdcaaW.PrintMore
set_option linter.unusedVariables false
set_option linter.unusedSimpArgs false
open Lk in
set_option maxHeartbeats 8000000 in
set_option maxRecDepth 100000 in
theorem laws_FnExactEnterAt.calls (k : Nat) (A0_0 : Option Addr) (c0_0 : Nat) (l0_0 : List Int) (A0_1 : Option Addr) (c0_1 : Nat) (l0_1 : List Int) (A0_2 : Option Addr) (c0_2 : Nat) (l0_2 : List Int) (r : Bool) (w : World) (hr0_0 : Kd.C (Kd.int .i64) w A0_0 l0_0.length l0_0) (hc0_0 : l0_0.length ≤ c0_0) (hr0_1 : Kd.C (Kd.int .i64) w A0_1 l0_1.length l0_1) (hc0_1 : l0_1.length ≤ c0_1) (hr0_2 : Kd.C (Kd.int .i64) w A0_2 l0_2.length l0_2) (hc0_2 : l0_2.length ≤ c0_2) (h : laws_FnExactEnterAt.f k l0_0 l0_1 l0_2 = some r) :
    Calls Try.prog 5 #[.agg #[.slice A0_0 l0_0.length c0_0, .slice A0_1 l0_1.length c0_1, .slice A0_2 l0_2.length c0_2]] w fun e w' => e = .returned (.bool r) ∧ Below w.heap.size w w' := by
  unfold laws_FnExactEnterAt.f at h
  split at h
  case isFalse => cases h
  rename_i hg
  obtain rfl := Option.some.inj h
  clear h
  have HR0_0 := Aside0.mk hr0_0
  have HC0_0 := Aside0.mk hc0_0
  clear hr0_0 hc0_0
  have HR0_1 := Aside0.mk hr0_1
  have HC0_1 := Aside0.mk hc0_1
  clear hr0_1 hc0_1
  have HR0_2 := Aside0.mk hr0_2
  have HC0_2 := Aside0.mk hc0_2
  clear hr0_2 hc0_2
  have HB := Aside0.mk (Below.refl w.heap.size w)
  unfold laws_FnExactEnterAt.good at hg
  obtain ⟨t7, H80, hg⟩ := hg
  have H8 := Aside0.mk H80
  clear H80
  rcases hg with hs | ⟨hs, hg⟩
  · have hs1_ : decide (t7 < 0) = true := decide_eq_true hs
    clear hs
    go_enter Try.func5, Try.ntmps5
    go_wp2_with (first | ((with_reducible refine gate_dst (N := 1) rfl ?_); refine box_event ?hg (N := 1) ?hd (cs := #[.slice A0_0 l0_0.length c0_0, .slice A0_1 l0_1.length c0_1, .slice A0_2 l0_2.length c0_2]) (t := 24) ?hr ?_; (case hd => rfl); (case hg => rfl); (case hr => first | (go_simp; done) | (go_simp; rfl)); intro gb2 hg_ w5 hx_ hb; have hg2_ : gb2 = w.heap.size := hg_; have hq_ : Below w.heap.size w w5 := ⟨hb.os, hb.tape, hb.output, hb.size, hb.block⟩; have HZ6 := Aside0.mk (show w.heap.size ≤ w5.heap.size from hq_.size); have hn_ := Aside0.mk (below_then HB.out HB.out.size hq_); clear HB; have HB := hn_; clear hn_; clear hq_; have BK3 := Aside0.mk hx_; have GQ4 := Aside0.mk (show w.heap.size ≤ gb2 ∧ gb2 < w5.heap.size from ⟨Nat.le_of_eq hg2_.symm, blk_lt hx_⟩); clear hb hg_ hg2_ hx_; have hczb1_0 : w5.cell? ⟨gb2, 0, none⟩ = some (.slice A0_0 l0_0.length c0_0) := (blk_cell BK3.out 0).trans rfl; have hfzb1_0 := blk_frozen BK3.out 0; have hczb1_1 : w5.cell? ⟨gb2, 1, none⟩ = some (.slice A0_1 l0_1.length c0_1) := (blk_cell BK3.out 1).trans rfl; have hfzb1_1 := blk_frozen BK3.out 1; have hczb1_2 : w5.cell? ⟨gb2, 2, none⟩ = some (.slice A0_2 l0_2.length c0_2) := (blk_cell BK3.out 2).trans rfl; have hfzb1_2 := blk_frozen BK3.out 2))
    refine (laws_szFrame.calls _ _ l0_0 _ _ l0_1 _ _ l0_2 1048576 t7 _ (Kd.C_below HR0_0.out HB.out) HC0_0.out (Kd.C_below HR0_1.out HB.out) HC0_1.out (Kd.C_below HR0_2.out HB.out) HC0_2.out H8.out).mono ?_
    rintro e_ w9 ⟨rfl, hb⟩
    have hq_ : Below w5.heap.size w5 w9 := ⟨hb.os, hb.tape, hb.output, hb.size, hb.block⟩
    have HZ10 := Aside0.mk (show w5.heap.size ≤ w9.heap.size from hq_.size)
    have hn_ := Aside0.mk (below_then HB.out HB.out.size hq_)
    clear HB
    have HB := hn_
    clear hn_
    have hn_ := Aside0.mk (blk_below BK3.out hq_)
    clear hczb1_0 hfzb1_0; clear hczb1_1 hfzb1_1; clear hczb1_2 hfzb1_2
    clear BK3
    have BK3 := hn_
    clear hn_
    clear hq_
    have hczb1_0 : w9.cell? ⟨gb2, 0, none⟩ = some (.slice A0_0 l0_0.length c0_0) := (blk_cell BK3.out 0).trans rfl; have hfzb1_0 := blk_frozen BK3.out 0; have hczb1_1 : w9.cell? ⟨gb2, 1, none⟩ = some (.slice A0_1 l0_1.length c0_1) := (blk_cell BK3.out 1).trans rfl; have hfzb1_1 := blk_frozen BK3.out 1; have hczb1_2 : w9.cell? ⟨gb2, 2, none⟩ = some (.slice A0_2 l0_2.length c0_2) := (blk_cell BK3.out 2).trans rfl; have hfzb1_2 := blk_frozen BK3.out 2
    clear hb
    go_wp2_with fail
    go_ret
    exact ⟨rfl, HB.out⟩
  have hs2_ : decide (t7 < 0) = false := decide_eq_false hs
  clear hs
  obtain ⟨t11, t12, t13, H140, t32, t33, H340, t42, t43, t44, H450, t71, H730, H820, t87, t88, t89, H900, H1090, H1130, H1200, t124, t125, H1260, H1270, H1320, t135, t136, t137, H1380, t156, H1580, H1670, H1710, hg⟩ := hg
  have H14 := Aside0.mk H140
  clear H140
  have H34 := Aside0.mk H340
  clear H340
  have H45 := Aside0.mk H450
  clear H450
  have H73 := Aside0.mk H730
  clear H730
  have H82 := Aside0.mk H820
  clear H820
  have H90 := Aside0.mk H900
  clear H900
  have H109 := Aside0.mk H1090
  clear H1090
  have H113 := Aside0.mk H1130
  clear H1130
  have H120 := Aside0.mk H1200
  clear H1200
  have H126 := Aside0.mk H1260
  clear H1260
  have H127 := Aside0.mk H1270
  clear H1270
  have H132 := Aside0.mk H1320
  clear H1320
  have H138 := Aside0.mk H1380
  clear H1380
  have H158 := Aside0.mk H1580
  clear H1580
  have H167 := Aside0.mk H1670
  clear H1670
  have H171 := Aside0.mk H1710
  clear H1710
  clear hg
  go_enter Try.func5, Try.ntmps5
  go_wp2_with (first | ((with_reducible refine gate_dst (N := 1) rfl ?_); refine box_event ?hg (N := 1) ?hd (cs := #[.slice A0_0 l0_0.length c0_0, .slice A0_1 l0_1.length c0_1, .slice A0_2 l0_2.length c0_2]) (t := 24) ?hr ?_; (case hd => rfl); (case hg => rfl); (case hr => first | (go_simp; done) | (go_simp; rfl)); intro gb2 hg_ w5 hx_ hb; have hg2_ : gb2 = w.heap.size := hg_; have hq_ : Below w.heap.size w w5 := ⟨hb.os, hb.tape, hb.output, hb.size, hb.block⟩; have HZ6 := Aside0.mk (show w.heap.size ≤ w5.heap.size from hq_.size); have hn_ := Aside0.mk (below_then HB.out HB.out.size hq_); clear HB; have HB := hn_; clear hn_; clear hq_; have BK3 := Aside0.mk hx_; have GQ4 := Aside0.mk (show w.heap.size ≤ gb2 ∧ gb2 < w5.heap.size from ⟨Nat.le_of_eq hg2_.symm, blk_lt hx_⟩); clear hb hg_ hg2_ hx_; have hczb1_0 : w5.cell? ⟨gb2, 0, none⟩ = some (.slice A0_0 l0_0.length c0_0) := (blk_cell BK3.out 0).trans rfl; have hfzb1_0 := blk_frozen BK3.out 0; have hczb1_1 : w5.cell? ⟨gb2, 1, none⟩ = some (.slice A0_1 l0_1.length c0_1) := (blk_cell BK3.out 1).trans rfl; have hfzb1_1 := blk_frozen BK3.out 1; have hczb1_2 : w5.cell? ⟨gb2, 2, none⟩ = some (.slice A0_2 l0_2.length c0_2) := (blk_cell BK3.out 2).trans rfl; have hfzb1_2 := blk_frozen BK3.out 2))
  refine (laws_szFrame.calls _ _ l0_0 _ _ l0_1 _ _ l0_2 1048576 t7 _ (Kd.C_below HR0_0.out HB.out) HC0_0.out (Kd.C_below HR0_1.out HB.out) HC0_1.out (Kd.C_below HR0_2.out HB.out) HC0_2.out H8.out).mono ?_
  rintro e_ w9 ⟨rfl, hb⟩
  have hq_ : Below w5.heap.size w5 w9 := ⟨hb.os, hb.tape, hb.output, hb.size, hb.block⟩
  have HZ10 := Aside0.mk (show w5.heap.size ≤ w9.heap.size from hq_.size)
  have hn_ := Aside0.mk (below_then HB.out HB.out.size hq_)
  clear HB
  have HB := hn_
  clear hn_
  have hn_ := Aside0.mk (blk_below BK3.out hq_)
  clear hczb1_0 hfzb1_0; clear hczb1_1 hfzb1_1; clear hczb1_2 hfzb1_2
  clear BK3
  have BK3 := hn_
  clear hn_
  clear hq_
  have hczb1_0 : w9.cell? ⟨gb2, 0, none⟩ = some (.slice A0_0 l0_0.length c0_0) := (blk_cell BK3.out 0).trans rfl; have hfzb1_0 := blk_frozen BK3.out 0; have hczb1_1 : w9.cell? ⟨gb2, 1, none⟩ = some (.slice A0_1 l0_1.length c0_1) := (blk_cell BK3.out 1).trans rfl; have hfzb1_1 := blk_frozen BK3.out 1; have hczb1_2 : w9.cell? ⟨gb2, 2, none⟩ = some (.slice A0_2 l0_2.length c0_2) := (blk_cell BK3.out 2).trans rfl; have hfzb1_2 := blk_frozen BK3.out 2
  clear hb
  go_wp2_with fail
  refine (laws_toFrame.calls k _ _ l0_0 _ _ l0_1 _ _ l0_2 t11 t12 t13 _ (Kd.C_below HR0_0.out HB.out) HC0_0.out (Kd.C_below HR0_1.out HB.out) HC0_1.out (Kd.C_below HR0_2.out HB.out) HC0_2.out H14.out).mono ?_
  rintro e_ w15 ⟨v16, v17, v18, rfl, f19, f20, f21, hb⟩
  have hq_ : Below w9.heap.size w9 w15 := ⟨hb.os, hb.tape, hb.output, hb.size, hb.block⟩
  have HZ22 := Aside0.mk (show w9.heap.size ≤ w15.heap.size from hq_.size)
  have hn_ := Aside0.mk (below_then HB.out HB.out.size hq_)
  clear HB
  have HB := hn_
  clear hn_
  have hn_ := Aside0.mk (blk_below BK3.out hq_)
  clear hczb1_0 hfzb1_0; clear hczb1_1 hfzb1_1; clear hczb1_2 hfzb1_2
  clear BK3
  have BK3 := hn_
  clear hn_
  clear hq_
  have hczb1_0 : w15.cell? ⟨gb2, 0, none⟩ = some (.slice A0_0 l0_0.length c0_0) := (blk_cell BK3.out 0).trans rfl; have hfzb1_0 := blk_frozen BK3.out 0; have hczb1_1 : w15.cell? ⟨gb2, 1, none⟩ = some (.slice A0_1 l0_1.length c0_1) := (blk_cell BK3.out 1).trans rfl; have hfzb1_1 := blk_frozen BK3.out 1; have hczb1_2 : w15.cell? ⟨gb2, 2, none⟩ = some (.slice A0_2 l0_2.length c0_2) := (blk_cell BK3.out 2).trans rfl; have hfzb1_2 := blk_frozen BK3.out 2
  clear hb
  have F23 := Aside0.mk (Lk.newR (b := w9.heap.size) (base := w.heap.size) (Sep := fun k_ => some k_ ≠ (v17 : Value).ownBlock ∧ some k_ ≠ (v18 : Value).ownBlock) rfl f19 (by have := HZ6.out; have := HZ10.out; have := HZ22.out; omega) (fun k_ hk_ => hk_))
  clear f19
  have F26 := Aside0.mk (Lk.newR (b := w9.heap.size) (base := w.heap.size) (Sep := fun k_ => some k_ ≠ (v16 : Value).ownBlock ∧ some k_ ≠ (v18 : Value).ownBlock) rfl f20 (by have := HZ6.out; have := HZ10.out; have := HZ22.out; omega) (fun k_ hk_ => hk_))
  clear f20
  have F29 := Aside0.mk (Lk.newR (b := w9.heap.size) (base := w.heap.size) (Sep := fun k_ => some k_ ≠ (v16 : Value).ownBlock ∧ some k_ ≠ (v17 : Value).ownBlock) rfl f21 (by have := HZ6.out; have := HZ10.out; have := HZ22.out; omega) (fun k_ hk_ => hk_))
  clear f21
  obtain ⟨A24, c25, e_⟩ := Kd.R_slice F23.out
  subst e_
  obtain ⟨A27, c28, e_⟩ := Kd.R_slice F26.out
  subst e_
  obtain ⟨A30, c31, e_⟩ := Kd.R_slice F29.out
  subst e_
  go_wp2_with fail
  refine (spec_EnterAt.calls k _ _ t11 _ _ t12 _ _ t13 t32 t33 _ (Lk.Rr F23.out).2 (Lk.Rr F23.out).1 (Lk.Rr F26.out).2 (Lk.Rr F26.out).1 (Lk.Rr F29.out).2 (Lk.Rr F29.out).1 H34.out).mono ?_
  rintro e_ w35 ⟨v36, rfl, f37, hb⟩
  have hq_ : Below w15.heap.size w15 w35 := ⟨hb.os, hb.tape, hb.output, hb.size, hb.block⟩
  have HZ38 := Aside0.mk (show w15.heap.size ≤ w35.heap.size from hq_.size)
  have hn_ := Aside0.mk (below_then HB.out HB.out.size hq_)
  clear HB
  have HB := hn_
  clear hn_
  have hn_ := Aside0.mk (Kd.R_below F23.out hq_)
  clear F23
  have F23 := hn_
  clear hn_
  have hn_ := Aside0.mk (Kd.R_below F26.out hq_)
  clear F26
  have F26 := hn_
  clear hn_
  have hn_ := Aside0.mk (Kd.R_below F29.out hq_)
  clear F29
  have F29 := hn_
  clear hn_
  have hn_ := Aside0.mk (blk_below BK3.out hq_)
  clear hczb1_0 hfzb1_0; clear hczb1_1 hfzb1_1; clear hczb1_2 hfzb1_2
  clear BK3
  have BK3 := hn_
  clear hn_
  clear hq_
  have hczb1_0 : w35.cell? ⟨gb2, 0, none⟩ = some (.slice A0_0 l0_0.length c0_0) := (blk_cell BK3.out 0).trans rfl; have hfzb1_0 := blk_frozen BK3.out 0; have hczb1_1 : w35.cell? ⟨gb2, 1, none⟩ = some (.slice A0_1 l0_1.length c0_1) := (blk_cell BK3.out 1).trans rfl; have hfzb1_1 := blk_frozen BK3.out 1; have hczb1_2 : w35.cell? ⟨gb2, 2, none⟩ = some (.slice A0_2 l0_2.length c0_2) := (blk_cell BK3.out 2).trans rfl; have hfzb1_2 := blk_frozen BK3.out 2
  clear hb
  have F39 := Aside0.mk (Lk.newR (b := w15.heap.size) (base := w.heap.size) (Sep := fun k_ => True) rfl f37 (by have := HZ6.out; have := HZ10.out; have := HZ22.out; have := HZ38.out; omega) (fun k_ hk_ => hk_))
  clear f37
  obtain ⟨A40, c41, e_⟩ := Kd.R_slice F39.out
  subst e_
  go_wp2_with fail
  refine (laws_toFrame.calls k _ _ l0_0 _ _ l0_1 _ _ l0_2 t42 t43 t44 _ (Kd.C_below HR0_0.out HB.out) HC0_0.out (Kd.C_below HR0_1.out HB.out) HC0_1.out (Kd.C_below HR0_2.out HB.out) HC0_2.out H45.out).mono ?_
  rintro e_ w46 ⟨v47, v48, v49, rfl, f50, f51, f52, hb⟩
  have hq_ : Below w35.heap.size w35 w46 := ⟨hb.os, hb.tape, hb.output, hb.size, hb.block⟩
  have HZ53 := Aside0.mk (show w35.heap.size ≤ w46.heap.size from hq_.size)
  have hn_ := Aside0.mk (below_then HB.out HB.out.size hq_)
  clear HB
  have HB := hn_
  clear hn_
  have hn_ := Aside0.mk (Kd.R_below F23.out hq_)
  clear F23
  have F23 := hn_
  clear hn_
  have hn_ := Aside0.mk (Kd.R_below F26.out hq_)
  clear F26
  have F26 := hn_
  clear hn_
  have hn_ := Aside0.mk (Kd.R_below F29.out hq_)
  clear F29
  have F29 := hn_
  clear hn_
  have hn_ := Aside0.mk (Kd.R_below F39.out hq_)
  clear F39
  have F39 := hn_
  clear hn_
  have hn_ := Aside0.mk (blk_below BK3.out hq_)
  clear hczb1_0 hfzb1_0; clear hczb1_1 hfzb1_1; clear hczb1_2 hfzb1_2
  clear BK3
  have BK3 := hn_
  clear hn_
  clear hq_
  have hczb1_0 : w46.cell? ⟨gb2, 0, none⟩ = some (.slice A0_0 l0_0.length c0_0) := (blk_cell BK3.out 0).trans rfl; have hfzb1_0 := blk_frozen BK3.out 0; have hczb1_1 : w46.cell? ⟨gb2, 1, none⟩ = some (.slice A0_1 l0_1.length c0_1) := (blk_cell BK3.out 1).trans rfl; have hfzb1_1 := blk_frozen BK3.out 1; have hczb1_2 : w46.cell? ⟨gb2, 2, none⟩ = some (.slice A0_2 l0_2.length c0_2) := (blk_cell BK3.out 2).trans rfl; have hfzb1_2 := blk_frozen BK3.out 2
  clear hb
  have F54 := Aside0.mk (Lk.newR (b := w35.heap.size) (base := w.heap.size) (Sep := fun k_ => some k_ ≠ (v48 : Value).ownBlock ∧ some k_ ≠ (v49 : Value).ownBlock) rfl f50 (by have := HZ6.out; have := HZ10.out; have := HZ22.out; have := HZ38.out; have := HZ53.out; omega) (fun k_ hk_ => hk_))
  clear f50
  have F57 := Aside0.mk (Lk.newR (b := w35.heap.size) (base := w.heap.size) (Sep := fun k_ => some k_ ≠ (v47 : Value).ownBlock ∧ some k_ ≠ (v49 : Value).ownBlock) rfl f51 (by have := HZ6.out; have := HZ10.out; have := HZ22.out; have := HZ38.out; have := HZ53.out; omega) (fun k_ hk_ => hk_))
  clear f51
  have F60 := Aside0.mk (Lk.newR (b := w35.heap.size) (base := w.heap.size) (Sep := fun k_ => some k_ ≠ (v47 : Value).ownBlock ∧ some k_ ≠ (v48 : Value).ownBlock) rfl f52 (by have := HZ6.out; have := HZ10.out; have := HZ22.out; have := HZ38.out; have := HZ53.out; omega) (fun k_ hk_ => hk_))
  clear f52
  obtain ⟨A55, c56, e_⟩ := Kd.R_slice F54.out
  subst e_
  obtain ⟨A58, c59, e_⟩ := Kd.R_slice F57.out
  subst e_
  obtain ⟨A61, c62, e_⟩ := Kd.R_slice F60.out
  subst e_
  go_wp2_with (first | ((with_reducible refine gate_dst (N := 6) rfl ?_); refine box_event ?hg (N := 6) ?hd (cs := #[.slice none 0 0, .slice none 0 0, .slice none 0 0]) (t := 27) ?hr ?_; (case hd => rfl); (case hg => rfl); (case hr => first | (go_simp; done) | (go_simp; rfl)); intro gb64 hg_ w67 hx_ hb; have hg2_ : gb64 = w46.heap.size := hg_; have hq_ : Below w46.heap.size w46 w67 := ⟨hb.os, hb.tape, hb.output, hb.size, hb.block⟩; have HZ68 := Aside0.mk (show w46.heap.size ≤ w67.heap.size from hq_.size); have hn_ := Aside0.mk (below_then HB.out HB.out.size hq_); clear HB; have HB := hn_; clear hn_; have hn_ := Aside0.mk (Kd.R_below F23.out hq_); clear F23; have F23 := hn_; clear hn_; have hn_ := Aside0.mk (Kd.R_below F26.out hq_); clear F26; have F26 := hn_; clear hn_; have hn_ := Aside0.mk (Kd.R_below F29.out hq_); clear F29; have F29 := hn_; clear hn_; have hn_ := Aside0.mk (Kd.R_below F39.out hq_); clear F39; have F39 := hn_; clear hn_; have hn_ := Aside0.mk (Kd.R_below F54.out hq_); clear F54; have F54 := hn_; clear hn_; have hn_ := Aside0.mk (Kd.R_below F57.out hq_); clear F57; have F57 := hn_; clear hn_; have hn_ := Aside0.mk (Kd.R_below F60.out hq_); clear F60; have F60 := hn_; clear hn_; have hn_ := Aside0.mk (blk_below BK3.out hq_); clear hczb1_0 hfzb1_0; clear hczb1_1 hfzb1_1; clear hczb1_2 hfzb1_2; clear BK3; have BK3 := hn_; clear hn_; clear hq_; have hczb1_0 : w67.cell? ⟨gb2, 0, none⟩ = some (.slice A0_0 l0_0.length c0_0) := (blk_cell BK3.out 0).trans rfl; have hfzb1_0 := blk_frozen BK3.out 0; have hczb1_1 : w67.cell? ⟨gb2, 1, none⟩ = some (.slice A0_1 l0_1.length c0_1) := (blk_cell BK3.out 1).trans rfl; have hfzb1_1 := blk_frozen BK3.out 1; have hczb1_2 : w67.cell? ⟨gb2, 2, none⟩ = some (.slice A0_2 l0_2.length c0_2) := (blk_cell BK3.out 2).trans rfl; have hfzb1_2 := blk_frozen BK3.out 2; have BK65 := Aside0.mk hx_; have GQ66 := Aside0.mk (show w46.heap.size ≤ gb64 ∧ gb64 < w67.heap.size from ⟨Nat.le_of_eq hg2_.symm, blk_lt hx_⟩); clear hb hg_ hg2_ hx_; have hczb63_0 : w67.cell? ⟨gb64, 0, none⟩ = some (.slice none 0 0) := (blk_cell BK65.out 0).trans rfl; have hfzb63_0 := blk_frozen BK65.out 0; have hczb63_1 : w67.cell? ⟨gb64, 1, none⟩ = some (.slice none 0 0) := (blk_cell BK65.out 1).trans rfl; have hfzb63_1 := blk_frozen BK65.out 1; have hczb63_2 : w67.cell? ⟨gb64, 2, none⟩ = some (.slice none 0 0) := (blk_cell BK65.out 2).trans rfl; have hfzb63_2 := blk_frozen BK65.out 2) | ((with_reducible refine gate_store (t := 27) (p := 6) rfl ?_); refine store_event (t := 27) (p := 6) (v := ?vo_w69) (w1 := (((w67.setCell ⟨gb64, 0, none⟩ (.slice A55 t42.length c56)).setCell ⟨gb64, 1, none⟩ (.slice A58 t43.length c59)).setCell ⟨gb64, 2, none⟩ (.slice A61 t44.length c62))) ?hg ?ho ?hn ?hr ?_; (case ho => rfl); (case hg => rfl); (case hn => rfl); (case hr => first | (go_simp; done) | (go_simp; rfl)); intro w69 hw_; have hx_ : w69.heap[gb64]? = some (.cells #[(.slice A55 t42.length c56), (.slice A58 t43.length c59), (.slice A61 t44.length c62)] 27 (0, 0)) := (by rw [hw_]; exact Lk.filled (us := [(.slice A55 t42.length c56), (.slice A58 t43.length c59), (.slice A61 t44.length c62)]) BK65.out rfl); have hk2_ : Kept w67 w69 (fun k_ => k_ = gb64) := (by rw [hw_]; exact Lk.fill_kept [(.slice A55 t42.length c56), (.slice A58 t43.length c59), (.slice A61 t44.length c62)] 0 w67); have hB_ := Aside0.mk (show Below w.heap.size w w69 by rw [hw_]; exact Lk.fill_below [(.slice A55 t42.length c56), (.slice A58 t43.length c59), (.slice A61 t44.length c62)] 0 w w67 HB.out (by have := HZ6.out; have := HZ10.out; have := HZ22.out; have := HZ38.out; have := HZ53.out; have := HZ68.out; have := GQ66.out; omega)); clear HB; have HB := hB_; clear hB_; have HZ70 := Aside0.mk (show w67.heap.size ≤ w69.heap.size from hk2_.1); have hn_ := Aside0.mk (Kd.R_kept F23.out hk2_ (fun k_ h1_ h2_ => by have := HZ6.out; have := HZ10.out; have := HZ22.out; have := HZ38.out; have := HZ53.out; have := HZ68.out; have := GQ66.out; have h3_ := h1_.1; omega)); clear F23; have F23 := hn_; clear hn_; have hn_ := Aside0.mk (Kd.R_kept F26.out hk2_ (fun k_ h1_ h2_ => by have := HZ6.out; have := HZ10.out; have := HZ22.out; have := HZ38.out; have := HZ53.out; have := HZ68.out; have := GQ66.out; have h3_ := h1_.1; omega)); clear F26; have F26 := hn_; clear hn_; have hn_ := Aside0.mk (Kd.R_kept F29.out hk2_ (fun k_ h1_ h2_ => by have := HZ6.out; have := HZ10.out; have := HZ22.out; have := HZ38.out; have := HZ53.out; have := HZ68.out; have := GQ66.out; have h3_ := h1_.1; omega)); clear F29; have F29 := hn_; clear hn_; have hn_ := Aside0.mk (Kd.R_kept F39.out hk2_ (fun k_ h1_ h2_ => by have := HZ6.out; have := HZ10.out; have := HZ22.out; have := HZ38.out; have := HZ53.out; have := HZ68.out; have := GQ66.out; have h3_ := h1_.1; omega)); clear F39; have F39 := hn_; clear hn_; have hn_ := Aside0.mk (Kd.R_kept F54.out hk2_ (fun k_ h1_ h2_ => by have := HZ6.out; have := HZ10.out; have := HZ22.out; have := HZ38.out; have := HZ53.out; have := HZ68.out; have := GQ66.out; have h3_ := h1_.1; omega)); clear F54; have F54 := hn_; clear hn_; have hn_ := Aside0.mk (Kd.R_kept F57.out hk2_ (fun k_ h1_ h2_ => by have := HZ6.out; have := HZ10.out; have := HZ22.out; have := HZ38.out; have := HZ53.out; have := HZ68.out; have := GQ66.out; have h3_ := h1_.1; omega)); clear F57; have F57 := hn_; clear hn_; have hn_ := Aside0.mk (Kd.R_kept F60.out hk2_ (fun k_ h1_ h2_ => by have := HZ6.out; have := HZ10.out; have := HZ22.out; have := HZ38.out; have := HZ53.out; have := HZ68.out; have := GQ66.out; have h3_ := h1_.1; omega)); clear F60; have F60 := hn_; clear hn_; clear hczb1_0 hfzb1_0; clear hczb1_1 hfzb1_1; clear hczb1_2 hfzb1_2; have hn_ := Aside0.mk (blk_kept BK3.out hk2_ (fun h_ => by have := HZ6.out; have := HZ10.out; have := HZ22.out; have := HZ38.out; have := HZ53.out; have := HZ68.out; have := GQ66.out; have := GQ4.out; omega)); clear BK3; have BK3 := hn_; clear hn_; clear hczb63_0 hfzb63_0; clear hczb63_1 hfzb63_1; clear hczb63_2 hfzb63_2; clear BK65; have BK65 := Aside0.mk hx_; clear hk2_ hx_ hw_; have hczb1_0 : w69.cell? ⟨gb2, 0, none⟩ = some (.slice A0_0 l0_0.length c0_0) := (blk_cell BK3.out 0).trans rfl; have hfzb1_0 := blk_frozen BK3.out 0; have hczb1_1 : w69.cell? ⟨gb2, 1, none⟩ = some (.slice A0_1 l0_1.length c0_1) := (blk_cell BK3.out 1).trans rfl; have hfzb1_1 := blk_frozen BK3.out 1; have hczb1_2 : w69.cell? ⟨gb2, 2, none⟩ = some (.slice A0_2 l0_2.length c0_2) := (blk_cell BK3.out 2).trans rfl; have hfzb1_2 := blk_frozen BK3.out 2; have hczb63_0 : w69.cell? ⟨gb64, 0, none⟩ = some (.slice A55 t42.length c56) := (blk_cell BK65.out 0).trans rfl; have hfzb63_0 := blk_frozen BK65.out 0; have hczb63_1 : w69.cell? ⟨gb64, 1, none⟩ = some (.slice A58 t43.length c59) := (blk_cell BK65.out 1).trans rfl; have hfzb63_1 := blk_frozen BK65.out 1; have hczb63_2 : w69.cell? ⟨gb64, 2, none⟩ = some (.slice A61 t44.length c62) := (blk_cell BK65.out 2).trans rfl; have hfzb63_2 := blk_frozen BK65.out 2))
  refine (impl_EnterAt.calls _ _ t42 _ _ t43 _ _ t44 t71 t33 _ (Lk.Rr F54.out).2 (Lk.Rr F54.out).1 (Lk.Rr F57.out).2 (Lk.Rr F57.out).1 (Lk.Rr F60.out).2 (Lk.Rr F60.out).1 H73.out).mono ?_
  rintro e_ w74 ⟨v75, rfl, f76, hb⟩
  have hq_ : Below w69.heap.size w69 w74 := ⟨hb.os, hb.tape, hb.output, hb.size, hb.block⟩
  have HZ77 := Aside0.mk (show w69.heap.size ≤ w74.heap.size from hq_.size)
  have hn_ := Aside0.mk (below_then HB.out HB.out.size hq_)
  clear HB
  have HB := hn_
  clear hn_
  have hn_ := Aside0.mk (Kd.R_below F23.out hq_)
  clear F23
  have F23 := hn_
  clear hn_
  have hn_ := Aside0.mk (Kd.R_below F26.out hq_)
  clear F26
  have F26 := hn_
  clear hn_
  have hn_ := Aside0.mk (Kd.R_below F29.out hq_)
  clear F29
  have F29 := hn_
  clear hn_
  have hn_ := Aside0.mk (Kd.R_below F39.out hq_)
  clear F39
  have F39 := hn_
  clear hn_
  have hn_ := Aside0.mk (Kd.R_below F54.out hq_)
  clear F54
  have F54 := hn_
  clear hn_
  have hn_ := Aside0.mk (Kd.R_below F57.out hq_)
  clear F57
  have F57 := hn_
  clear hn_
  have hn_ := Aside0.mk (Kd.R_below F60.out hq_)
  clear F60
  have F60 := hn_
  clear hn_
  have hn_ := Aside0.mk (blk_below BK3.out hq_)
  clear hczb1_0 hfzb1_0; clear hczb1_1 hfzb1_1; clear hczb1_2 hfzb1_2
  clear BK3
  have BK3 := hn_
  clear hn_
  have hn_ := Aside0.mk (blk_below BK65.out hq_)
  clear hczb63_0 hfzb63_0; clear hczb63_1 hfzb63_1; clear hczb63_2 hfzb63_2
  clear BK65
  have BK65 := hn_
  clear hn_
  clear hq_
  have hczb1_0 : w74.cell? ⟨gb2, 0, none⟩ = some (.slice A0_0 l0_0.length c0_0) := (blk_cell BK3.out 0).trans rfl; have hfzb1_0 := blk_frozen BK3.out 0; have hczb1_1 : w74.cell? ⟨gb2, 1, none⟩ = some (.slice A0_1 l0_1.length c0_1) := (blk_cell BK3.out 1).trans rfl; have hfzb1_1 := blk_frozen BK3.out 1; have hczb1_2 : w74.cell? ⟨gb2, 2, none⟩ = some (.slice A0_2 l0_2.length c0_2) := (blk_cell BK3.out 2).trans rfl; have hfzb1_2 := blk_frozen BK3.out 2
  have hczb63_0 : w74.cell? ⟨gb64, 0, none⟩ = some (.slice A55 t42.length c56) := (blk_cell BK65.out 0).trans rfl; have hfzb63_0 := blk_frozen BK65.out 0; have hczb63_1 : w74.cell? ⟨gb64, 1, none⟩ = some (.slice A58 t43.length c59) := (blk_cell BK65.out 1).trans rfl; have hfzb63_1 := blk_frozen BK65.out 1; have hczb63_2 : w74.cell? ⟨gb64, 2, none⟩ = some (.slice A61 t44.length c62) := (blk_cell BK65.out 2).trans rfl; have hfzb63_2 := blk_frozen BK65.out 2
  clear hb
  have F78 := Aside0.mk (Lk.newR (b := w69.heap.size) (base := w.heap.size) (Sep := fun k_ => True) rfl f76 (by have := HZ6.out; have := HZ10.out; have := HZ22.out; have := HZ38.out; have := HZ53.out; have := HZ68.out; have := HZ70.out; have := HZ77.out; omega) (fun k_ hk_ => hk_))
  clear f76
  obtain ⟨A79, c80, e_⟩ := Kd.R_slice F78.out
  subst e_
  go_wp2_with fail
  refine (laws_eqIntS.calls k _ _ t71 _ _ t32 true _ (Lk.Rr F78.out).2 (Lk.Rr F78.out).1 (Lk.Rr F39.out).2 (Lk.Rr F39.out).1 H82.out).mono ?_
  rintro e_ w83 ⟨rfl, ⟨nd_, hd_⟩⟩
  have hb : Below w74.heap.size w74 w83 := by rw [hd_]; exact pw_below_drewN (Below.refl _ _) nd_
  clear hd_
  have hq_ : Below w74.heap.size w74 w83 := ⟨hb.os, hb.tape, hb.output, hb.size, hb.block⟩
  have HZ84 := Aside0.mk (show w74.heap.size ≤ w83.heap.size from hq_.size)
  have hn_ := Aside0.mk (below_then HB.out HB.out.size hq_)
  clear HB
  have HB := hn_
  clear hn_
  have hn_ := Aside0.mk (Kd.R_below F23.out hq_)
  clear F23
  have F23 := hn_
  clear hn_
  have hn_ := Aside0.mk (Kd.R_below F26.out hq_)
  clear F26
  have F26 := hn_
  clear hn_
  have hn_ := Aside0.mk (Kd.R_below F29.out hq_)
  clear F29
  have F29 := hn_
  clear hn_
  have hn_ := Aside0.mk (Kd.R_below F39.out hq_)
  clear F39
  have F39 := hn_
  clear hn_
  have hn_ := Aside0.mk (Kd.R_below F54.out hq_)
  clear F54
  have F54 := hn_
  clear hn_
  have hn_ := Aside0.mk (Kd.R_below F57.out hq_)
  clear F57
  have F57 := hn_
  clear hn_
  have hn_ := Aside0.mk (Kd.R_below F60.out hq_)
  clear F60
  have F60 := hn_
  clear hn_
  have hn_ := Aside0.mk (Kd.R_below F78.out hq_)
  clear F78
  have F78 := hn_
  clear hn_
  have hn_ := Aside0.mk (blk_below BK3.out hq_)
  clear hczb1_0 hfzb1_0; clear hczb1_1 hfzb1_1; clear hczb1_2 hfzb1_2
  clear BK3
  have BK3 := hn_
  clear hn_
  have hn_ := Aside0.mk (blk_below BK65.out hq_)
  clear hczb63_0 hfzb63_0; clear hczb63_1 hfzb63_1; clear hczb63_2 hfzb63_2
  clear BK65
  have BK65 := hn_
  clear hn_
  clear hq_
  have hczb1_0 : w83.cell? ⟨gb2, 0, none⟩ = some (.slice A0_0 l0_0.length c0_0) := (blk_cell BK3.out 0).trans rfl; have hfzb1_0 := blk_frozen BK3.out 0; have hczb1_1 : w83.cell? ⟨gb2, 1, none⟩ = some (.slice A0_1 l0_1.length c0_1) := (blk_cell BK3.out 1).trans rfl; have hfzb1_1 := blk_frozen BK3.out 1; have hczb1_2 : w83.cell? ⟨gb2, 2, none⟩ = some (.slice A0_2 l0_2.length c0_2) := (blk_cell BK3.out 2).trans rfl; have hfzb1_2 := blk_frozen BK3.out 2
  have hczb63_0 : w83.cell? ⟨gb64, 0, none⟩ = some (.slice A55 t42.length c56) := (blk_cell BK65.out 0).trans rfl; have hfzb63_0 := blk_frozen BK65.out 0; have hczb63_1 : w83.cell? ⟨gb64, 1, none⟩ = some (.slice A58 t43.length c59) := (blk_cell BK65.out 1).trans rfl; have hfzb63_1 := blk_frozen BK65.out 1; have hczb63_2 : w83.cell? ⟨gb64, 2, none⟩ = some (.slice A61 t44.length c62) := (blk_cell BK65.out 2).trans rfl; have hfzb63_2 := blk_frozen BK65.out 2
  clear hb
  go_wp2_with fail
  have hb : Below w83.heap.size w83 w83.drew := below_drew (Below.refl _ _)
  obtain ⟨w85, hw_⟩ : ∃ w85, w83.drew = w85 := ⟨_, rfl⟩
  rw [hw_] at hb
  have hq_ : Below w83.heap.size w83 w85 := ⟨hb.os, hb.tape, hb.output, hb.size, hb.block⟩
  have HZ86 := Aside0.mk (show w83.heap.size ≤ w85.heap.size from hq_.size)
  have hn_ := Aside0.mk (below_then HB.out HB.out.size hq_)
  clear HB
  have HB := hn_
  clear hn_
  have hn_ := Aside0.mk (Kd.R_below F23.out hq_)
  clear F23
  have F23 := hn_
  clear hn_
  have hn_ := Aside0.mk (Kd.R_below F26.out hq_)
  clear F26
  have F26 := hn_
  clear hn_
  have hn_ := Aside0.mk (Kd.R_below F29.out hq_)
  clear F29
  have F29 := hn_
  clear hn_
  have hn_ := Aside0.mk (Kd.R_below F39.out hq_)
  clear F39
  have F39 := hn_
  clear hn_
  have hn_ := Aside0.mk (Kd.R_below F54.out hq_)
  clear F54
  have F54 := hn_
  clear hn_
  have hn_ := Aside0.mk (Kd.R_below F57.out hq_)
  clear F57
  have F57 := hn_
  clear hn_
  have hn_ := Aside0.mk (Kd.R_below F60.out hq_)
  clear F60
  have F60 := hn_
  clear hn_
  have hn_ := Aside0.mk (Kd.R_below F78.out hq_)
  clear F78
  have F78 := hn_
  clear hn_
  have hn_ := Aside0.mk (blk_below BK3.out hq_)
  clear hczb1_0 hfzb1_0; clear hczb1_1 hfzb1_1; clear hczb1_2 hfzb1_2
  clear BK3
  have BK3 := hn_
  clear hn_
  have hn_ := Aside0.mk (blk_below BK65.out hq_)
  clear hczb63_0 hfzb63_0; clear hczb63_1 hfzb63_1; clear hczb63_2 hfzb63_2
  clear BK65
  have BK65 := hn_
  clear hn_
  clear hq_
  have hczb1_0 : w85.cell? ⟨gb2, 0, none⟩ = some (.slice A0_0 l0_0.length c0_0) := (blk_cell BK3.out 0).trans rfl; have hfzb1_0 := blk_frozen BK3.out 0; have hczb1_1 : w85.cell? ⟨gb2, 1, none⟩ = some (.slice A0_1 l0_1.length c0_1) := (blk_cell BK3.out 1).trans rfl; have hfzb1_1 := blk_frozen BK3.out 1; have hczb1_2 : w85.cell? ⟨gb2, 2, none⟩ = some (.slice A0_2 l0_2.length c0_2) := (blk_cell BK3.out 2).trans rfl; have hfzb1_2 := blk_frozen BK3.out 2
  have hczb63_0 : w85.cell? ⟨gb64, 0, none⟩ = some (.slice A55 t42.length c56) := (blk_cell BK65.out 0).trans rfl; have hfzb63_0 := blk_frozen BK65.out 0; have hczb63_1 : w85.cell? ⟨gb64, 1, none⟩ = some (.slice A58 t43.length c59) := (blk_cell BK65.out 1).trans rfl; have hfzb63_1 := blk_frozen BK65.out 1; have hczb63_2 : w85.cell? ⟨gb64, 2, none⟩ = some (.slice A61 t44.length c62) := (blk_cell BK65.out 2).trans rfl; have hfzb63_2 := blk_frozen BK65.out 2
  refine start_ (n := 5) (S := fun w' => w'.cell? ⟨gb64, 0, none⟩ = some (.slice A55 t42.length c56) ∧ w'.cell? ⟨gb64, 1, none⟩ = some (.slice A58 t43.length c59) ∧ w'.cell? ⟨gb64, 2, none⟩ = some (.slice A61 t44.length c62) ∧ w'.cell? ⟨gb2, 0, none⟩ = some (.slice A0_0 l0_0.length c0_0) ∧ w'.cell? ⟨gb2, 1, none⟩ = some (.slice A0_1 l0_1.length c0_1) ∧ w'.cell? ⟨gb2, 2, none⟩ = some (.slice A0_2 l0_2.length c0_2)) (ds := []) #[false, false, false, false, false] (by kernel_rfl) rfl rfl (by rw [hw_]; exact ⟨(blk_cell BK65.out 0).trans rfl, (blk_cell BK65.out 1).trans rfl, (blk_cell BK65.out 2).trans rfl, (blk_cell BK3.out 0).trans rfl, (blk_cell BK3.out 1).trans rfl, (blk_cell BK3.out 2).trans rfl⟩) (fun hHeld => ?_)
  rw [hw_] at hHeld ⊢
  clear hw_ hb
  refine take_ (i := 0) (N := some 41) (v := ?_) (a' := ?_) #[true, false, false, false, false] rfl rfl (by kernel_rfl) (fun _ _ _ h => h) (Or.inl ⟨by rfl, ?_⟩) hHeld ?_ ?_
  rotate_left
  · rintro w' ⟨s0, s1, s2, s3, s4, s5⟩
    go_simp
    with_reducible rfl
  rotate_left
  · simp only [Act.put, List.setIfInBounds_toArray, List.set_cons_zero, List.set_cons_succ, i64_w, i32_w]
    rfl
  refine take_ (i := 1) (N := some 42) (v := ?_) (a' := ?_) #[true, true, false, false, false] rfl rfl (by kernel_rfl) (fun _ _ _ h => h) (Or.inl ⟨by rfl, ?_⟩) hHeld ?_ ?_
  rotate_left
  · rintro w' ⟨s0, s1, s2, s3, s4, s5⟩
    go_simp
    with_reducible rfl
  rotate_left
  · simp only [Act.put, List.setIfInBounds_toArray, List.set_cons_zero, List.set_cons_succ, i64_w, i32_w]
    rfl
  refine one_ (i := 2) (N := some 43) #[true, true, true, false, false] rfl rfl (by kernel_rfl) (by decide) (fun K hK => ?_)
  refine goes_ Try.func10 (by kernel_rfl) rfl #[.agg #[.slice A0_0 l0_0.length c0_0, .slice A0_1 l0_1.length c0_1, .slice A0_2 l0_2.length c0_2]] (by rfl) rfl rfl (by (try simp only [List.map_toArray, List.map_cons, List.map_nil]); first | done | rfl | (simp only [List.length_drop, List.length_take]; rfl)) ?_
  refine (laws_toFrame.calls k _ _ l0_0 _ _ l0_1 _ _ l0_2 t87 t88 t89 _ (Kd.C_below HR0_0.out HB.out) HC0_0.out (Kd.C_below HR0_1.out HB.out) HC0_1.out (Kd.C_below HR0_2.out HB.out) HC0_2.out H90.out).mono ?_
  rintro e_ w91 ⟨v92, v93, v94, rfl, f95, f96, f97, hb⟩
  have hq_ : Below w85.heap.size w85 w91 := ⟨hb.os, hb.tape, hb.output, hb.size, hb.block⟩
  have HZ98 := Aside0.mk (show w85.heap.size ≤ w91.heap.size from hq_.size)
  have hn_ := Aside0.mk (below_then HB.out HB.out.size hq_)
  clear HB
  have HB := hn_
  clear hn_
  have hn_ := Aside0.mk (Kd.R_below F23.out hq_)
  clear F23
  have F23 := hn_
  clear hn_
  have hn_ := Aside0.mk (Kd.R_below F26.out hq_)
  clear F26
  have F26 := hn_
  clear hn_
  have hn_ := Aside0.mk (Kd.R_below F29.out hq_)
  clear F29
  have F29 := hn_
  clear hn_
  have hn_ := Aside0.mk (Kd.R_below F39.out hq_)
  clear F39
  have F39 := hn_
  clear hn_
  have hn_ := Aside0.mk (Kd.R_below F54.out hq_)
  clear F54
  have F54 := hn_
  clear hn_
  have hn_ := Aside0.mk (Kd.R_below F57.out hq_)
  clear F57
  have F57 := hn_
  clear hn_
  have hn_ := Aside0.mk (Kd.R_below F60.out hq_)
  clear F60
  have F60 := hn_
  clear hn_
  have hn_ := Aside0.mk (Kd.R_below F78.out hq_)
  clear F78
  have F78 := hn_
  clear hn_
  have hn_ := Aside0.mk (blk_below BK3.out hq_)
  clear hczb1_0 hfzb1_0; clear hczb1_1 hfzb1_1; clear hczb1_2 hfzb1_2
  clear BK3
  have BK3 := hn_
  clear hn_
  have hn_ := Aside0.mk (blk_below BK65.out hq_)
  clear hczb63_0 hfzb63_0; clear hczb63_1 hfzb63_1; clear hczb63_2 hfzb63_2
  clear BK65
  have BK65 := hn_
  clear hn_
  clear hq_
  have hczb1_0 : w91.cell? ⟨gb2, 0, none⟩ = some (.slice A0_0 l0_0.length c0_0) := (blk_cell BK3.out 0).trans rfl; have hfzb1_0 := blk_frozen BK3.out 0; have hczb1_1 : w91.cell? ⟨gb2, 1, none⟩ = some (.slice A0_1 l0_1.length c0_1) := (blk_cell BK3.out 1).trans rfl; have hfzb1_1 := blk_frozen BK3.out 1; have hczb1_2 : w91.cell? ⟨gb2, 2, none⟩ = some (.slice A0_2 l0_2.length c0_2) := (blk_cell BK3.out 2).trans rfl; have hfzb1_2 := blk_frozen BK3.out 2
  have hczb63_0 : w91.cell? ⟨gb64, 0, none⟩ = some (.slice A55 t42.length c56) := (blk_cell BK65.out 0).trans rfl; have hfzb63_0 := blk_frozen BK65.out 0; have hczb63_1 : w91.cell? ⟨gb64, 1, none⟩ = some (.slice A58 t43.length c59) := (blk_cell BK65.out 1).trans rfl; have hfzb63_1 := blk_frozen BK65.out 1; have hczb63_2 : w91.cell? ⟨gb64, 2, none⟩ = some (.slice A61 t44.length c62) := (blk_cell BK65.out 2).trans rfl; have hfzb63_2 := blk_frozen BK65.out 2
  clear hb
  refine ⟨_, rfl, ?_⟩
  have F99 := Aside0.mk (Lk.newR (b := w85.heap.size) (base := w.heap.size) (Sep := fun k_ => some k_ ≠ (v93 : Value).ownBlock ∧ some k_ ≠ (v94 : Value).ownBlock) rfl f95 (by have := HZ6.out; have := HZ10.out; have := HZ22.out; have := HZ38.out; have := HZ53.out; have := HZ68.out; have := HZ70.out; have := HZ77.out; have := HZ84.out; have := HZ86.out; have := HZ98.out; omega) (fun k_ hk_ => hk_))
  clear f95
  have F102 := Aside0.mk (Lk.newR (b := w85.heap.size) (base := w.heap.size) (Sep := fun k_ => some k_ ≠ (v92 : Value).ownBlock ∧ some k_ ≠ (v94 : Value).ownBlock) rfl f96 (by have := HZ6.out; have := HZ10.out; have := HZ22.out; have := HZ38.out; have := HZ53.out; have := HZ68.out; have := HZ70.out; have := HZ77.out; have := HZ84.out; have := HZ86.out; have := HZ98.out; omega) (fun k_ hk_ => hk_))
  clear f96
  have F105 := Aside0.mk (Lk.newR (b := w85.heap.size) (base := w.heap.size) (Sep := fun k_ => some k_ ≠ (v92 : Value).ownBlock ∧ some k_ ≠ (v93 : Value).ownBlock) rfl f97 (by have := HZ6.out; have := HZ10.out; have := HZ22.out; have := HZ38.out; have := HZ53.out; have := HZ68.out; have := HZ70.out; have := HZ77.out; have := HZ84.out; have := HZ86.out; have := HZ98.out; omega) (fun k_ hk_ => hk_))
  clear f97
  obtain ⟨A100, c101, e_⟩ := Kd.R_slice F99.out
  subst e_
  obtain ⟨A103, c104, e_⟩ := Kd.R_slice F102.out
  subst e_
  obtain ⟨A106, c107, e_⟩ := Kd.R_slice F105.out
  subst e_
  refine hK.out _ _ ⟨(blk_cell BK65.out 0).trans rfl, (blk_cell BK65.out 1).trans rfl, (blk_cell BK65.out 2).trans rfl, (blk_cell BK3.out 0).trans rfl, (blk_cell BK3.out 1).trans rfl, (blk_cell BK3.out 2).trans rfl⟩ (fun hHeld => ?_)
  clear hK K
  refine norm_ (a' := ?_) ?_ ?_
  rotate_left
  · show Act.put _ (some 43) _ = _
    simp only [Act.put, List.setIfInBounds_toArray, List.set_cons_zero, List.set_cons_succ, i64_w, i32_w]
    rfl
  refine one_ (i := 3) (N := some 44) #[true, true, true, true, false] rfl rfl (by kernel_rfl) (by decide) (fun K hK => ?_)
  refine goes_ Try.func12 (by kernel_rfl) rfl #[.agg #[.slice A55 t42.length c56, .slice A58 t43.length c59, .slice A61 t44.length c62], .agg #[.slice A100 t87.length c101, .slice A103 t88.length c104, .slice A106 t89.length c107]] (by rfl) rfl rfl (by (try simp only [List.map_toArray, List.map_cons, List.map_nil]); first | done | rfl | (simp only [List.length_drop, List.length_take]; rfl)) ?_
  refine (laws_eqFrame.calls k _ _ t42 _ _ t43 _ _ t44 _ _ t87 _ _ t88 _ _ t89 true _ (Lk.Rr F54.out).2 (Lk.Rr F54.out).1 (Lk.Rr F57.out).2 (Lk.Rr F57.out).1 (Lk.Rr F60.out).2 (Lk.Rr F60.out).1 (Lk.Rr F99.out).2 (Lk.Rr F99.out).1 (Lk.Rr F102.out).2 (Lk.Rr F102.out).1 (Lk.Rr F105.out).2 (Lk.Rr F105.out).1 H109.out).mono ?_
  rintro e_ w110 ⟨rfl, hb⟩
  have hq_ : Below w91.heap.size w91 w110 := ⟨hb.os, hb.tape, hb.output, hb.size, hb.block⟩
  have HZ111 := Aside0.mk (show w91.heap.size ≤ w110.heap.size from hq_.size)
  have hn_ := Aside0.mk (below_then HB.out HB.out.size hq_)
  clear HB
  have HB := hn_
  clear hn_
  have hn_ := Aside0.mk (Kd.R_below F23.out hq_)
  clear F23
  have F23 := hn_
  clear hn_
  have hn_ := Aside0.mk (Kd.R_below F26.out hq_)
  clear F26
  have F26 := hn_
  clear hn_
  have hn_ := Aside0.mk (Kd.R_below F29.out hq_)
  clear F29
  have F29 := hn_
  clear hn_
  have hn_ := Aside0.mk (Kd.R_below F39.out hq_)
  clear F39
  have F39 := hn_
  clear hn_
  have hn_ := Aside0.mk (Kd.R_below F54.out hq_)
  clear F54
  have F54 := hn_
  clear hn_
  have hn_ := Aside0.mk (Kd.R_below F57.out hq_)
  clear F57
  have F57 := hn_
  clear hn_
  have hn_ := Aside0.mk (Kd.R_below F60.out hq_)
  clear F60
  have F60 := hn_
  clear hn_
  have hn_ := Aside0.mk (Kd.R_below F78.out hq_)
  clear F78
  have F78 := hn_
  clear hn_
  have hn_ := Aside0.mk (Kd.R_below F99.out hq_)
  clear F99
  have F99 := hn_
  clear hn_
  have hn_ := Aside0.mk (Kd.R_below F102.out hq_)
  clear F102
  have F102 := hn_
  clear hn_
  have hn_ := Aside0.mk (Kd.R_below F105.out hq_)
  clear F105
  have F105 := hn_
  clear hn_
  have hn_ := Aside0.mk (blk_below BK3.out hq_)
  clear hczb1_0 hfzb1_0; clear hczb1_1 hfzb1_1; clear hczb1_2 hfzb1_2
  clear BK3
  have BK3 := hn_
  clear hn_
  have hn_ := Aside0.mk (blk_below BK65.out hq_)
  clear hczb63_0 hfzb63_0; clear hczb63_1 hfzb63_1; clear hczb63_2 hfzb63_2
  clear BK65
  have BK65 := hn_
  clear hn_
  clear hq_
  have hczb1_0 : w110.cell? ⟨gb2, 0, none⟩ = some (.slice A0_0 l0_0.length c0_0) := (blk_cell BK3.out 0).trans rfl; have hfzb1_0 := blk_frozen BK3.out 0; have hczb1_1 : w110.cell? ⟨gb2, 1, none⟩ = some (.slice A0_1 l0_1.length c0_1) := (blk_cell BK3.out 1).trans rfl; have hfzb1_1 := blk_frozen BK3.out 1; have hczb1_2 : w110.cell? ⟨gb2, 2, none⟩ = some (.slice A0_2 l0_2.length c0_2) := (blk_cell BK3.out 2).trans rfl; have hfzb1_2 := blk_frozen BK3.out 2
  have hczb63_0 : w110.cell? ⟨gb64, 0, none⟩ = some (.slice A55 t42.length c56) := (blk_cell BK65.out 0).trans rfl; have hfzb63_0 := blk_frozen BK65.out 0; have hczb63_1 : w110.cell? ⟨gb64, 1, none⟩ = some (.slice A58 t43.length c59) := (blk_cell BK65.out 1).trans rfl; have hfzb63_1 := blk_frozen BK65.out 1; have hczb63_2 : w110.cell? ⟨gb64, 2, none⟩ = some (.slice A61 t44.length c62) := (blk_cell BK65.out 2).trans rfl; have hfzb63_2 := blk_frozen BK65.out 2
  clear hb
  refine ⟨_, rfl, ?_⟩
  refine hK.out _ _ ⟨(blk_cell BK65.out 0).trans rfl, (blk_cell BK65.out 1).trans rfl, (blk_cell BK65.out 2).trans rfl, (blk_cell BK3.out 0).trans rfl, (blk_cell BK3.out 1).trans rfl, (blk_cell BK3.out 2).trans rfl⟩ (fun hHeld => ?_)
  clear hK K
  refine norm_ (a' := ?_) ?_ ?_
  rotate_left
  · show Act.put _ (some 44) _ = _
    simp only [Act.put, List.setIfInBounds_toArray, List.set_cons_zero, List.set_cons_succ, i64_w, i32_w]
    rfl
  refine pure_ (i := 4) (N := some 45) (v := ?_) (a' := ?_) #[true, true, true, true, true] rfl rfl (by kernel_rfl) (fun _ _ _ h => h) (Or.inl ⟨by rfl, ?_⟩) ?_ ?_
  rotate_left
  · intro w'
    go_simp
    with_reducible rfl
  rotate_left
  · simp only [Act.put, List.setIfInBounds_toArray, List.set_cons_zero, List.set_cons_succ, i64_w, i32_w]
    rfl
  refine done_ (by kernel_rfl) ?_
  go_wp2_with fail
  have hn_ := H113.out
  refine (laws_markFrame.calls (fun k_ => w35.heap.size ≤ k_ ∧ k_ < w46.heap.size) _ t42 _ t43 _ t44 1 w _ HB.out F54.out F57.out F60.out (by omega) hn_).mono ?_
  rintro e_ w112 ⟨rfl, f0_, f1_, f2_, hb0_, hk_⟩
  have hk2_ : Kept w110 w112 (fun k_ => w35.heap.size ≤ k_ ∧ k_ < w46.heap.size) := Kept.mono hk_ (fun k_ h_ => by first | exact h_ | exact h_.1)
  have HZ114 := Aside0.mk (show w110.heap.size ≤ w112.heap.size from hk2_.1)
  clear HB
  have HB := Aside0.mk hb0_
  have hn_ := Aside0.mk (Kd.R_kept F23.out hk2_ (fun k_ h1_ h2_ => by have := HZ6.out; have := HZ10.out; have := HZ22.out; have := HZ38.out; have := HZ53.out; have := HZ68.out; have := HZ70.out; have := HZ77.out; have := HZ84.out; have := HZ86.out; have := HZ98.out; have := HZ111.out; have h3_ := h1_.1; omega))
  clear F23
  have F23 := hn_
  clear hn_
  have hn_ := Aside0.mk (Kd.R_kept F26.out hk2_ (fun k_ h1_ h2_ => by have := HZ6.out; have := HZ10.out; have := HZ22.out; have := HZ38.out; have := HZ53.out; have := HZ68.out; have := HZ70.out; have := HZ77.out; have := HZ84.out; have := HZ86.out; have := HZ98.out; have := HZ111.out; have h3_ := h1_.1; omega))
  clear F26
  have F26 := hn_
  clear hn_
  have hn_ := Aside0.mk (Kd.R_kept F29.out hk2_ (fun k_ h1_ h2_ => by have := HZ6.out; have := HZ10.out; have := HZ22.out; have := HZ38.out; have := HZ53.out; have := HZ68.out; have := HZ70.out; have := HZ77.out; have := HZ84.out; have := HZ86.out; have := HZ98.out; have := HZ111.out; have h3_ := h1_.1; omega))
  clear F29
  have F29 := hn_
  clear hn_
  have hn_ := Aside0.mk (Kd.R_kept F39.out hk2_ (fun k_ h1_ h2_ => by have := HZ6.out; have := HZ10.out; have := HZ22.out; have := HZ38.out; have := HZ53.out; have := HZ68.out; have := HZ70.out; have := HZ77.out; have := HZ84.out; have := HZ86.out; have := HZ98.out; have := HZ111.out; have h3_ := h1_.1; omega))
  clear F39
  have F39 := hn_
  clear hn_
  have hn_ := Aside0.mk (Kd.R_kept F78.out hk2_ (fun k_ h1_ h2_ => by have := HZ6.out; have := HZ10.out; have := HZ22.out; have := HZ38.out; have := HZ53.out; have := HZ68.out; have := HZ70.out; have := HZ77.out; have := HZ84.out; have := HZ86.out; have := HZ98.out; have := HZ111.out; have h3_ := h1_.1; omega))
  clear F78
  have F78 := hn_
  clear hn_
  have hn_ := Aside0.mk (Kd.R_kept F99.out hk2_ (fun k_ h1_ h2_ => by have := HZ6.out; have := HZ10.out; have := HZ22.out; have := HZ38.out; have := HZ53.out; have := HZ68.out; have := HZ70.out; have := HZ77.out; have := HZ84.out; have := HZ86.out; have := HZ98.out; have := HZ111.out; have h3_ := h1_.1; omega))
  clear F99
  have F99 := hn_
  clear hn_
  have hn_ := Aside0.mk (Kd.R_kept F102.out hk2_ (fun k_ h1_ h2_ => by have := HZ6.out; have := HZ10.out; have := HZ22.out; have := HZ38.out; have := HZ53.out; have := HZ68.out; have := HZ70.out; have := HZ77.out; have := HZ84.out; have := HZ86.out; have := HZ98.out; have := HZ111.out; have h3_ := h1_.1; omega))
  clear F102
  have F102 := hn_
  clear hn_
  have hn_ := Aside0.mk (Kd.R_kept F105.out hk2_ (fun k_ h1_ h2_ => by have := HZ6.out; have := HZ10.out; have := HZ22.out; have := HZ38.out; have := HZ53.out; have := HZ68.out; have := HZ70.out; have := HZ77.out; have := HZ84.out; have := HZ86.out; have := HZ98.out; have := HZ111.out; have h3_ := h1_.1; omega))
  clear F105
  have F105 := hn_
  clear hn_
  have hn_ := Aside0.mk (f0_)
  have F54n := hn_
  clear hn_
  have hn_ := Aside0.mk (f1_)
  have F57n := hn_
  clear hn_
  have hn_ := Aside0.mk (f2_)
  have F60n := hn_
  clear hn_
  clear F54
  have F54 := F54n
  clear F54n
  clear F57
  have F57 := F57n
  clear F57n
  clear F60
  have F60 := F60n
  clear F60n
  have hn_ := Aside0.mk (blk_kept BK3.out hk2_ (fun h_ => by have := HZ6.out; have := HZ10.out; have := HZ22.out; have := HZ38.out; have := HZ53.out; have := HZ68.out; have := HZ70.out; have := HZ77.out; have := HZ84.out; have := HZ86.out; have := HZ98.out; have := HZ111.out; have := GQ4.out; omega))
  clear hczb1_0 hfzb1_0; clear hczb1_1 hfzb1_1; clear hczb1_2 hfzb1_2
  clear BK3
  have BK3 := hn_
  clear hn_
  have hn_ := Aside0.mk (blk_kept BK65.out hk2_ (fun h_ => by have := HZ6.out; have := HZ10.out; have := HZ22.out; have := HZ38.out; have := HZ53.out; have := HZ68.out; have := HZ70.out; have := HZ77.out; have := HZ84.out; have := HZ86.out; have := HZ98.out; have := HZ111.out; have := GQ66.out; omega))
  clear hczb63_0 hfzb63_0; clear hczb63_1 hfzb63_1; clear hczb63_2 hfzb63_2
  clear BK65
  have BK65 := hn_
  clear hn_
  clear hk2_ hk_ hb0_ f0_ f1_ f2_
  have hczb1_0 : w112.cell? ⟨gb2, 0, none⟩ = some (.slice A0_0 l0_0.length c0_0) := (blk_cell BK3.out 0).trans rfl; have hfzb1_0 := blk_frozen BK3.out 0; have hczb1_1 : w112.cell? ⟨gb2, 1, none⟩ = some (.slice A0_1 l0_1.length c0_1) := (blk_cell BK3.out 1).trans rfl; have hfzb1_1 := blk_frozen BK3.out 1; have hczb1_2 : w112.cell? ⟨gb2, 2, none⟩ = some (.slice A0_2 l0_2.length c0_2) := (blk_cell BK3.out 2).trans rfl; have hfzb1_2 := blk_frozen BK3.out 2
  have hczb63_0 : w112.cell? ⟨gb64, 0, none⟩ = some (.slice A55 t42.length c56) := (blk_cell BK65.out 0).trans rfl; have hfzb63_0 := blk_frozen BK65.out 0; have hczb63_1 : w112.cell? ⟨gb64, 1, none⟩ = some (.slice A58 t43.length c59) := (blk_cell BK65.out 1).trans rfl; have hfzb63_1 := blk_frozen BK65.out 1; have hczb63_2 : w112.cell? ⟨gb64, 2, none⟩ = some (.slice A61 t44.length c62) := (blk_cell BK65.out 2).trans rfl; have hfzb63_2 := blk_frozen BK65.out 2
  have hl115 := (Kd.R_reads' F54.out).1
  have HL115 := Aside0.mk hl115
  clear hl115
  have hl116 := (Kd.R_reads' F57.out).1
  have HL116 := Aside0.mk hl116
  clear hl116
  have hl117 := (Kd.R_reads' F60.out).1
  have HL117 := Aside0.mk hl117
  clear hl117
  have hn1_ : decide ((1 + (t42.length : Nat) + (t43.length : Nat) + (t44.length : Nat) : Int) < 0) = false := decide_eq_false (by omega)
  have hd118 := hn1_
  clear hn1_
  go_wp2_with fail
  refine (laws_eqIntS.calls k _ _ t71 _ _ t32 true _ (Lk.Rr F78.out).2 (Lk.Rr F78.out).1 (Lk.Rr F39.out).2 (Lk.Rr F39.out).1 H120.out).mono ?_
  rintro e_ w121 ⟨rfl, ⟨nd_, hd_⟩⟩
  have hb : Below w112.heap.size w112 w121 := by rw [hd_]; exact pw_below_drewN (Below.refl _ _) nd_
  clear hd_
  have hq_ : Below w112.heap.size w112 w121 := ⟨hb.os, hb.tape, hb.output, hb.size, hb.block⟩
  have HZ122 := Aside0.mk (show w112.heap.size ≤ w121.heap.size from hq_.size)
  have hn_ := Aside0.mk (below_then HB.out HB.out.size hq_)
  clear HB
  have HB := hn_
  clear hn_
  have hn_ := Aside0.mk (Kd.R_below F23.out hq_)
  clear F23
  have F23 := hn_
  clear hn_
  have hn_ := Aside0.mk (Kd.R_below F26.out hq_)
  clear F26
  have F26 := hn_
  clear hn_
  have hn_ := Aside0.mk (Kd.R_below F29.out hq_)
  clear F29
  have F29 := hn_
  clear hn_
  have hn_ := Aside0.mk (Kd.R_below F39.out hq_)
  clear F39
  have F39 := hn_
  clear hn_
  have hn_ := Aside0.mk (Kd.R_below F54.out hq_)
  clear F54
  have F54 := hn_
  clear hn_
  have hn_ := Aside0.mk (Kd.R_below F57.out hq_)
  clear F57
  have F57 := hn_
  clear hn_
  have hn_ := Aside0.mk (Kd.R_below F60.out hq_)
  clear F60
  have F60 := hn_
  clear hn_
  have hn_ := Aside0.mk (Kd.R_below F78.out hq_)
  clear F78
  have F78 := hn_
  clear hn_
  have hn_ := Aside0.mk (Kd.R_below F99.out hq_)
  clear F99
  have F99 := hn_
  clear hn_
  have hn_ := Aside0.mk (Kd.R_below F102.out hq_)
  clear F102
  have F102 := hn_
  clear hn_
  have hn_ := Aside0.mk (Kd.R_below F105.out hq_)
  clear F105
  have F105 := hn_
  clear hn_
  have hn_ := Aside0.mk (blk_below BK3.out hq_)
  clear hczb1_0 hfzb1_0; clear hczb1_1 hfzb1_1; clear hczb1_2 hfzb1_2
  clear BK3
  have BK3 := hn_
  clear hn_
  have hn_ := Aside0.mk (blk_below BK65.out hq_)
  clear hczb63_0 hfzb63_0; clear hczb63_1 hfzb63_1; clear hczb63_2 hfzb63_2
  clear BK65
  have BK65 := hn_
  clear hn_
  clear hq_
  have hczb1_0 : w121.cell? ⟨gb2, 0, none⟩ = some (.slice A0_0 l0_0.length c0_0) := (blk_cell BK3.out 0).trans rfl; have hfzb1_0 := blk_frozen BK3.out 0; have hczb1_1 : w121.cell? ⟨gb2, 1, none⟩ = some (.slice A0_1 l0_1.length c0_1) := (blk_cell BK3.out 1).trans rfl; have hfzb1_1 := blk_frozen BK3.out 1; have hczb1_2 : w121.cell? ⟨gb2, 2, none⟩ = some (.slice A0_2 l0_2.length c0_2) := (blk_cell BK3.out 2).trans rfl; have hfzb1_2 := blk_frozen BK3.out 2
  have hczb63_0 : w121.cell? ⟨gb64, 0, none⟩ = some (.slice A55 t42.length c56) := (blk_cell BK65.out 0).trans rfl; have hfzb63_0 := blk_frozen BK65.out 0; have hczb63_1 : w121.cell? ⟨gb64, 1, none⟩ = some (.slice A58 t43.length c59) := (blk_cell BK65.out 1).trans rfl; have hfzb63_1 := blk_frozen BK65.out 1; have hczb63_2 : w121.cell? ⟨gb64, 2, none⟩ = some (.slice A61 t44.length c62) := (blk_cell BK65.out 2).trans rfl; have hfzb63_2 := blk_frozen BK65.out 2
  clear hb
  go_wp2_with fail
  refine (laws_markIntS.calls k (fun k_ => (w69.heap.size ≤ k_ ∧ k_ < w74.heap.size) ∧ some k_ = (.slice A79 t71.length c80 : Value).ownBlock ∧ (True)) _ t71 1 t124 t125 w _ HB.out F78.out H126.out).mono ?_
  rintro e_ w123 ⟨rfl, f0_, hb0_, hk_⟩
  have hk2_ : Kept w121 w123 (fun k_ => w69.heap.size ≤ k_ ∧ k_ < w74.heap.size) := Kept.mono hk_ (fun k_ h_ => by first | exact h_ | exact h_.1)
  have HZ128 := Aside0.mk (show w121.heap.size ≤ w123.heap.size from hk2_.1)
  clear HB
  have HB := Aside0.mk hb0_
  have hn_ := Aside0.mk (Kd.R_kept F23.out hk2_ (fun k_ h1_ h2_ => by have := HZ6.out; have := HZ10.out; have := HZ22.out; have := HZ38.out; have := HZ53.out; have := HZ68.out; have := HZ70.out; have := HZ77.out; have := HZ84.out; have := HZ86.out; have := HZ98.out; have := HZ111.out; have := HZ114.out; have := HZ122.out; have h3_ := h1_.1; omega))
  clear F23
  have F23 := hn_
  clear hn_
  have hn_ := Aside0.mk (Kd.R_kept F26.out hk2_ (fun k_ h1_ h2_ => by have := HZ6.out; have := HZ10.out; have := HZ22.out; have := HZ38.out; have := HZ53.out; have := HZ68.out; have := HZ70.out; have := HZ77.out; have := HZ84.out; have := HZ86.out; have := HZ98.out; have := HZ111.out; have := HZ114.out; have := HZ122.out; have h3_ := h1_.1; omega))
  clear F26
  have F26 := hn_
  clear hn_
  have hn_ := Aside0.mk (Kd.R_kept F29.out hk2_ (fun k_ h1_ h2_ => by have := HZ6.out; have := HZ10.out; have := HZ22.out; have := HZ38.out; have := HZ53.out; have := HZ68.out; have := HZ70.out; have := HZ77.out; have := HZ84.out; have := HZ86.out; have := HZ98.out; have := HZ111.out; have := HZ114.out; have := HZ122.out; have h3_ := h1_.1; omega))
  clear F29
  have F29 := hn_
  clear hn_
  have hn_ := Aside0.mk (Kd.R_kept F39.out hk2_ (fun k_ h1_ h2_ => by have := HZ6.out; have := HZ10.out; have := HZ22.out; have := HZ38.out; have := HZ53.out; have := HZ68.out; have := HZ70.out; have := HZ77.out; have := HZ84.out; have := HZ86.out; have := HZ98.out; have := HZ111.out; have := HZ114.out; have := HZ122.out; have h3_ := h1_.1; omega))
  clear F39
  have F39 := hn_
  clear hn_
  have hn_ := Aside0.mk (Kd.R_kept F54.out hk2_ (fun k_ h1_ h2_ => by have := HZ6.out; have := HZ10.out; have := HZ22.out; have := HZ38.out; have := HZ53.out; have := HZ68.out; have := HZ70.out; have := HZ77.out; have := HZ84.out; have := HZ86.out; have := HZ98.out; have := HZ111.out; have := HZ114.out; have := HZ122.out; have h3_ := h1_.1; omega))
  clear F54
  have F54 := hn_
  clear hn_
  have hn_ := Aside0.mk (Kd.R_kept F57.out hk2_ (fun k_ h1_ h2_ => by have := HZ6.out; have := HZ10.out; have := HZ22.out; have := HZ38.out; have := HZ53.out; have := HZ68.out; have := HZ70.out; have := HZ77.out; have := HZ84.out; have := HZ86.out; have := HZ98.out; have := HZ111.out; have := HZ114.out; have := HZ122.out; have h3_ := h1_.1; omega))
  clear F57
  have F57 := hn_
  clear hn_
  have hn_ := Aside0.mk (Kd.R_kept F60.out hk2_ (fun k_ h1_ h2_ => by have := HZ6.out; have := HZ10.out; have := HZ22.out; have := HZ38.out; have := HZ53.out; have := HZ68.out; have := HZ70.out; have := HZ77.out; have := HZ84.out; have := HZ86.out; have := HZ98.out; have := HZ111.out; have := HZ114.out; have := HZ122.out; have h3_ := h1_.1; omega))
  clear F60
  have F60 := hn_
  clear hn_
  have hn_ := Aside0.mk (Kd.R_kept F99.out hk2_ (fun k_ h1_ h2_ => by have := HZ6.out; have := HZ10.out; have := HZ22.out; have := HZ38.out; have := HZ53.out; have := HZ68.out; have := HZ70.out; have := HZ77.out; have := HZ84.out; have := HZ86.out; have := HZ98.out; have := HZ111.out; have := HZ114.out; have := HZ122.out; have h3_ := h1_.1; omega))
  clear F99
  have F99 := hn_
  clear hn_
  have hn_ := Aside0.mk (Kd.R_kept F102.out hk2_ (fun k_ h1_ h2_ => by have := HZ6.out; have := HZ10.out; have := HZ22.out; have := HZ38.out; have := HZ53.out; have := HZ68.out; have := HZ70.out; have := HZ77.out; have := HZ84.out; have := HZ86.out; have := HZ98.out; have := HZ111.out; have := HZ114.out; have := HZ122.out; have h3_ := h1_.1; omega))
  clear F102
  have F102 := hn_
  clear hn_
  have hn_ := Aside0.mk (Kd.R_kept F105.out hk2_ (fun k_ h1_ h2_ => by have := HZ6.out; have := HZ10.out; have := HZ22.out; have := HZ38.out; have := HZ53.out; have := HZ68.out; have := HZ70.out; have := HZ77.out; have := HZ84.out; have := HZ86.out; have := HZ98.out; have := HZ111.out; have := HZ114.out; have := HZ122.out; have h3_ := h1_.1; omega))
  clear F105
  have F105 := hn_
  clear hn_
  have hn_ := Aside0.mk (Lk.markedR rfl f0_ (fun k_ e_ => (show (w69.heap.size ≤ k_ ∧ k_ < w74.heap.size) ∧ some k_ = (.slice A79 t71.length c80 : Value).ownBlock ∧ (True) from (F78.out.1 k_ e_.symm))))
  have F78n := hn_
  clear hn_
  clear F78
  have F78 := F78n
  clear F78n
  have hn_ := Aside0.mk (blk_kept BK3.out hk2_ (fun h_ => by have := HZ6.out; have := HZ10.out; have := HZ22.out; have := HZ38.out; have := HZ53.out; have := HZ68.out; have := HZ70.out; have := HZ77.out; have := HZ84.out; have := HZ86.out; have := HZ98.out; have := HZ111.out; have := HZ114.out; have := HZ122.out; have := GQ4.out; omega))
  clear hczb1_0 hfzb1_0; clear hczb1_1 hfzb1_1; clear hczb1_2 hfzb1_2
  clear BK3
  have BK3 := hn_
  clear hn_
  have hn_ := Aside0.mk (blk_kept BK65.out hk2_ (fun h_ => by have := HZ6.out; have := HZ10.out; have := HZ22.out; have := HZ38.out; have := HZ53.out; have := HZ68.out; have := HZ70.out; have := HZ77.out; have := HZ84.out; have := HZ86.out; have := HZ98.out; have := HZ111.out; have := HZ114.out; have := HZ122.out; have := GQ66.out; omega))
  clear hczb63_0 hfzb63_0; clear hczb63_1 hfzb63_1; clear hczb63_2 hfzb63_2
  clear BK65
  have BK65 := hn_
  clear hn_
  clear hk2_ hk_ hb0_ f0_
  have hczb1_0 : w123.cell? ⟨gb2, 0, none⟩ = some (.slice A0_0 l0_0.length c0_0) := (blk_cell BK3.out 0).trans rfl; have hfzb1_0 := blk_frozen BK3.out 0; have hczb1_1 : w123.cell? ⟨gb2, 1, none⟩ = some (.slice A0_1 l0_1.length c0_1) := (blk_cell BK3.out 1).trans rfl; have hfzb1_1 := blk_frozen BK3.out 1; have hczb1_2 : w123.cell? ⟨gb2, 2, none⟩ = some (.slice A0_2 l0_2.length c0_2) := (blk_cell BK3.out 2).trans rfl; have hfzb1_2 := blk_frozen BK3.out 2
  have hczb63_0 : w123.cell? ⟨gb64, 0, none⟩ = some (.slice A55 t42.length c56) := (blk_cell BK65.out 0).trans rfl; have hfzb63_0 := blk_frozen BK65.out 0; have hczb63_1 : w123.cell? ⟨gb64, 1, none⟩ = some (.slice A58 t43.length c59) := (blk_cell BK65.out 1).trans rfl; have hfzb63_1 := blk_frozen BK65.out 1; have hczb63_2 : w123.cell? ⟨gb64, 2, none⟩ = some (.slice A61 t44.length c62) := (blk_cell BK65.out 2).trans rfl; have hfzb63_2 := blk_frozen BK65.out 2
  have hl129 := (Kd.R_reads' F78.out).1
  have HL129 := Aside0.mk hl129
  clear hl129
  have hn1_ : decide (t124 < 0) = false := decide_eq_false (by have := H127.out; omega)
  have hd130 := hn1_
  clear hn1_
  go_wp2_with fail
  have hc_ := laws_heldIntS.calls k _ _ t125 1 t124 _ (Lk.Rr F78.out).2 (Lk.Rr F78.out).1 H132.out
  simp only [← HL129.out] at hc_
  refine hc_.mono ?_
  clear hc_
  rintro e_ w133 ⟨rfl, ⟨nd_, hd_⟩⟩
  have hb : Below w123.heap.size w123 w133 := by rw [hd_]; exact pw_below_drewN (Below.refl _ _) nd_
  clear hd_
  have hq_ : Below w123.heap.size w123 w133 := ⟨hb.os, hb.tape, hb.output, hb.size, hb.block⟩
  have HZ134 := Aside0.mk (show w123.heap.size ≤ w133.heap.size from hq_.size)
  have hn_ := Aside0.mk (below_then HB.out HB.out.size hq_)
  clear HB
  have HB := hn_
  clear hn_
  have hn_ := Aside0.mk (Kd.R_below F23.out hq_)
  clear F23
  have F23 := hn_
  clear hn_
  have hn_ := Aside0.mk (Kd.R_below F26.out hq_)
  clear F26
  have F26 := hn_
  clear hn_
  have hn_ := Aside0.mk (Kd.R_below F29.out hq_)
  clear F29
  have F29 := hn_
  clear hn_
  have hn_ := Aside0.mk (Kd.R_below F39.out hq_)
  clear F39
  have F39 := hn_
  clear hn_
  have hn_ := Aside0.mk (Kd.R_below F54.out hq_)
  clear F54
  have F54 := hn_
  clear hn_
  have hn_ := Aside0.mk (Kd.R_below F57.out hq_)
  clear F57
  have F57 := hn_
  clear hn_
  have hn_ := Aside0.mk (Kd.R_below F60.out hq_)
  clear F60
  have F60 := hn_
  clear hn_
  have hn_ := Aside0.mk (Kd.R_below F78.out hq_)
  clear F78
  have F78 := hn_
  clear hn_
  have hn_ := Aside0.mk (Kd.R_below F99.out hq_)
  clear F99
  have F99 := hn_
  clear hn_
  have hn_ := Aside0.mk (Kd.R_below F102.out hq_)
  clear F102
  have F102 := hn_
  clear hn_
  have hn_ := Aside0.mk (Kd.R_below F105.out hq_)
  clear F105
  have F105 := hn_
  clear hn_
  have hn_ := Aside0.mk (blk_below BK3.out hq_)
  clear hczb1_0 hfzb1_0; clear hczb1_1 hfzb1_1; clear hczb1_2 hfzb1_2
  clear BK3
  have BK3 := hn_
  clear hn_
  have hn_ := Aside0.mk (blk_below BK65.out hq_)
  clear hczb63_0 hfzb63_0; clear hczb63_1 hfzb63_1; clear hczb63_2 hfzb63_2
  clear BK65
  have BK65 := hn_
  clear hn_
  clear hq_
  have hczb1_0 : w133.cell? ⟨gb2, 0, none⟩ = some (.slice A0_0 l0_0.length c0_0) := (blk_cell BK3.out 0).trans rfl; have hfzb1_0 := blk_frozen BK3.out 0; have hczb1_1 : w133.cell? ⟨gb2, 1, none⟩ = some (.slice A0_1 l0_1.length c0_1) := (blk_cell BK3.out 1).trans rfl; have hfzb1_1 := blk_frozen BK3.out 1; have hczb1_2 : w133.cell? ⟨gb2, 2, none⟩ = some (.slice A0_2 l0_2.length c0_2) := (blk_cell BK3.out 2).trans rfl; have hfzb1_2 := blk_frozen BK3.out 2
  have hczb63_0 : w133.cell? ⟨gb64, 0, none⟩ = some (.slice A55 t42.length c56) := (blk_cell BK65.out 0).trans rfl; have hfzb63_0 := blk_frozen BK65.out 0; have hczb63_1 : w133.cell? ⟨gb64, 1, none⟩ = some (.slice A58 t43.length c59) := (blk_cell BK65.out 1).trans rfl; have hfzb63_1 := blk_frozen BK65.out 1; have hczb63_2 : w133.cell? ⟨gb64, 2, none⟩ = some (.slice A61 t44.length c62) := (blk_cell BK65.out 2).trans rfl; have hfzb63_2 := blk_frozen BK65.out 2
  clear hb
  go_wp2_with fail
  refine (laws_toFrame.calls k _ _ l0_0 _ _ l0_1 _ _ l0_2 t135 t136 t137 _ (Kd.C_below HR0_0.out HB.out) HC0_0.out (Kd.C_below HR0_1.out HB.out) HC0_1.out (Kd.C_below HR0_2.out HB.out) HC0_2.out H138.out).mono ?_
  rintro e_ w139 ⟨v140, v141, v142, rfl, f143, f144, f145, hb⟩
  have hq_ : Below w133.heap.size w133 w139 := ⟨hb.os, hb.tape, hb.output, hb.size, hb.block⟩
  have HZ146 := Aside0.mk (show w133.heap.size ≤ w139.heap.size from hq_.size)
  have hn_ := Aside0.mk (below_then HB.out HB.out.size hq_)
  clear HB
  have HB := hn_
  clear hn_
  have hn_ := Aside0.mk (Kd.R_below F23.out hq_)
  clear F23
  have F23 := hn_
  clear hn_
  have hn_ := Aside0.mk (Kd.R_below F26.out hq_)
  clear F26
  have F26 := hn_
  clear hn_
  have hn_ := Aside0.mk (Kd.R_below F29.out hq_)
  clear F29
  have F29 := hn_
  clear hn_
  have hn_ := Aside0.mk (Kd.R_below F39.out hq_)
  clear F39
  have F39 := hn_
  clear hn_
  have hn_ := Aside0.mk (Kd.R_below F54.out hq_)
  clear F54
  have F54 := hn_
  clear hn_
  have hn_ := Aside0.mk (Kd.R_below F57.out hq_)
  clear F57
  have F57 := hn_
  clear hn_
  have hn_ := Aside0.mk (Kd.R_below F60.out hq_)
  clear F60
  have F60 := hn_
  clear hn_
  have hn_ := Aside0.mk (Kd.R_below F78.out hq_)
  clear F78
  have F78 := hn_
  clear hn_
  have hn_ := Aside0.mk (Kd.R_below F99.out hq_)
  clear F99
  have F99 := hn_
  clear hn_
  have hn_ := Aside0.mk (Kd.R_below F102.out hq_)
  clear F102
  have F102 := hn_
  clear hn_
  have hn_ := Aside0.mk (Kd.R_below F105.out hq_)
  clear F105
  have F105 := hn_
  clear hn_
  have hn_ := Aside0.mk (blk_below BK3.out hq_)
  clear hczb1_0 hfzb1_0; clear hczb1_1 hfzb1_1; clear hczb1_2 hfzb1_2
  clear BK3
  have BK3 := hn_
  clear hn_
  have hn_ := Aside0.mk (blk_below BK65.out hq_)
  clear hczb63_0 hfzb63_0; clear hczb63_1 hfzb63_1; clear hczb63_2 hfzb63_2
  clear BK65
  have BK65 := hn_
  clear hn_
  clear hq_
  have hczb1_0 : w139.cell? ⟨gb2, 0, none⟩ = some (.slice A0_0 l0_0.length c0_0) := (blk_cell BK3.out 0).trans rfl; have hfzb1_0 := blk_frozen BK3.out 0; have hczb1_1 : w139.cell? ⟨gb2, 1, none⟩ = some (.slice A0_1 l0_1.length c0_1) := (blk_cell BK3.out 1).trans rfl; have hfzb1_1 := blk_frozen BK3.out 1; have hczb1_2 : w139.cell? ⟨gb2, 2, none⟩ = some (.slice A0_2 l0_2.length c0_2) := (blk_cell BK3.out 2).trans rfl; have hfzb1_2 := blk_frozen BK3.out 2
  have hczb63_0 : w139.cell? ⟨gb64, 0, none⟩ = some (.slice A55 t42.length c56) := (blk_cell BK65.out 0).trans rfl; have hfzb63_0 := blk_frozen BK65.out 0; have hczb63_1 : w139.cell? ⟨gb64, 1, none⟩ = some (.slice A58 t43.length c59) := (blk_cell BK65.out 1).trans rfl; have hfzb63_1 := blk_frozen BK65.out 1; have hczb63_2 : w139.cell? ⟨gb64, 2, none⟩ = some (.slice A61 t44.length c62) := (blk_cell BK65.out 2).trans rfl; have hfzb63_2 := blk_frozen BK65.out 2
  clear hb
  have F147 := Aside0.mk (Lk.newR (b := w133.heap.size) (base := w.heap.size) (Sep := fun k_ => some k_ ≠ (v141 : Value).ownBlock ∧ some k_ ≠ (v142 : Value).ownBlock) rfl f143 (by have := HZ6.out; have := HZ10.out; have := HZ22.out; have := HZ38.out; have := HZ53.out; have := HZ68.out; have := HZ70.out; have := HZ77.out; have := HZ84.out; have := HZ86.out; have := HZ98.out; have := HZ111.out; have := HZ114.out; have := HZ122.out; have := HZ128.out; have := HZ134.out; have := HZ146.out; omega) (fun k_ hk_ => hk_))
  clear f143
  have F150 := Aside0.mk (Lk.newR (b := w133.heap.size) (base := w.heap.size) (Sep := fun k_ => some k_ ≠ (v140 : Value).ownBlock ∧ some k_ ≠ (v142 : Value).ownBlock) rfl f144 (by have := HZ6.out; have := HZ10.out; have := HZ22.out; have := HZ38.out; have := HZ53.out; have := HZ68.out; have := HZ70.out; have := HZ77.out; have := HZ84.out; have := HZ86.out; have := HZ98.out; have := HZ111.out; have := HZ114.out; have := HZ122.out; have := HZ128.out; have := HZ134.out; have := HZ146.out; omega) (fun k_ hk_ => hk_))
  clear f144
  have F153 := Aside0.mk (Lk.newR (b := w133.heap.size) (base := w.heap.size) (Sep := fun k_ => some k_ ≠ (v140 : Value).ownBlock ∧ some k_ ≠ (v141 : Value).ownBlock) rfl f145 (by have := HZ6.out; have := HZ10.out; have := HZ22.out; have := HZ38.out; have := HZ53.out; have := HZ68.out; have := HZ70.out; have := HZ77.out; have := HZ84.out; have := HZ86.out; have := HZ98.out; have := HZ111.out; have := HZ114.out; have := HZ122.out; have := HZ128.out; have := HZ134.out; have := HZ146.out; omega) (fun k_ hk_ => hk_))
  clear f145
  obtain ⟨A148, c149, e_⟩ := Kd.R_slice F147.out
  subst e_
  obtain ⟨A151, c152, e_⟩ := Kd.R_slice F150.out
  subst e_
  obtain ⟨A154, c155, e_⟩ := Kd.R_slice F153.out
  subst e_
  go_wp2_with fail
  refine (impl_EnterAt.calls _ _ t135 _ _ t136 _ _ t137 t156 t33 _ (Lk.Rr F147.out).2 (Lk.Rr F147.out).1 (Lk.Rr F150.out).2 (Lk.Rr F150.out).1 (Lk.Rr F153.out).2 (Lk.Rr F153.out).1 H158.out).mono ?_
  rintro e_ w159 ⟨v160, rfl, f161, hb⟩
  have hq_ : Below w139.heap.size w139 w159 := ⟨hb.os, hb.tape, hb.output, hb.size, hb.block⟩
  have HZ162 := Aside0.mk (show w139.heap.size ≤ w159.heap.size from hq_.size)
  have hn_ := Aside0.mk (below_then HB.out HB.out.size hq_)
  clear HB
  have HB := hn_
  clear hn_
  have hn_ := Aside0.mk (Kd.R_below F23.out hq_)
  clear F23
  have F23 := hn_
  clear hn_
  have hn_ := Aside0.mk (Kd.R_below F26.out hq_)
  clear F26
  have F26 := hn_
  clear hn_
  have hn_ := Aside0.mk (Kd.R_below F29.out hq_)
  clear F29
  have F29 := hn_
  clear hn_
  have hn_ := Aside0.mk (Kd.R_below F39.out hq_)
  clear F39
  have F39 := hn_
  clear hn_
  have hn_ := Aside0.mk (Kd.R_below F54.out hq_)
  clear F54
  have F54 := hn_
  clear hn_
  have hn_ := Aside0.mk (Kd.R_below F57.out hq_)
  clear F57
  have F57 := hn_
  clear hn_
  have hn_ := Aside0.mk (Kd.R_below F60.out hq_)
  clear F60
  have F60 := hn_
  clear hn_
  have hn_ := Aside0.mk (Kd.R_below F78.out hq_)
  clear F78
  have F78 := hn_
  clear hn_
  have hn_ := Aside0.mk (Kd.R_below F99.out hq_)
  clear F99
  have F99 := hn_
  clear hn_
  have hn_ := Aside0.mk (Kd.R_below F102.out hq_)
  clear F102
  have F102 := hn_
  clear hn_
  have hn_ := Aside0.mk (Kd.R_below F105.out hq_)
  clear F105
  have F105 := hn_
  clear hn_
  have hn_ := Aside0.mk (Kd.R_below F147.out hq_)
  clear F147
  have F147 := hn_
  clear hn_
  have hn_ := Aside0.mk (Kd.R_below F150.out hq_)
  clear F150
  have F150 := hn_
  clear hn_
  have hn_ := Aside0.mk (Kd.R_below F153.out hq_)
  clear F153
  have F153 := hn_
  clear hn_
  have hn_ := Aside0.mk (blk_below BK3.out hq_)
  clear hczb1_0 hfzb1_0; clear hczb1_1 hfzb1_1; clear hczb1_2 hfzb1_2
  clear BK3
  have BK3 := hn_
  clear hn_
  have hn_ := Aside0.mk (blk_below BK65.out hq_)
  clear hczb63_0 hfzb63_0; clear hczb63_1 hfzb63_1; clear hczb63_2 hfzb63_2
  clear BK65
  have BK65 := hn_
  clear hn_
  clear hq_
  have hczb1_0 : w159.cell? ⟨gb2, 0, none⟩ = some (.slice A0_0 l0_0.length c0_0) := (blk_cell BK3.out 0).trans rfl; have hfzb1_0 := blk_frozen BK3.out 0; have hczb1_1 : w159.cell? ⟨gb2, 1, none⟩ = some (.slice A0_1 l0_1.length c0_1) := (blk_cell BK3.out 1).trans rfl; have hfzb1_1 := blk_frozen BK3.out 1; have hczb1_2 : w159.cell? ⟨gb2, 2, none⟩ = some (.slice A0_2 l0_2.length c0_2) := (blk_cell BK3.out 2).trans rfl; have hfzb1_2 := blk_frozen BK3.out 2
  have hczb63_0 : w159.cell? ⟨gb64, 0, none⟩ = some (.slice A55 t42.length c56) := (blk_cell BK65.out 0).trans rfl; have hfzb63_0 := blk_frozen BK65.out 0; have hczb63_1 : w159.cell? ⟨gb64, 1, none⟩ = some (.slice A58 t43.length c59) := (blk_cell BK65.out 1).trans rfl; have hfzb63_1 := blk_frozen BK65.out 1; have hczb63_2 : w159.cell? ⟨gb64, 2, none⟩ = some (.slice A61 t44.length c62) := (blk_cell BK65.out 2).trans rfl; have hfzb63_2 := blk_frozen BK65.out 2
  clear hb
  have F163 := Aside0.mk (Lk.newR (b := w139.heap.size) (base := w.heap.size) (Sep := fun k_ => True) rfl f161 (by have := HZ6.out; have := HZ10.out; have := HZ22.out; have := HZ38.out; have := HZ53.out; have := HZ68.out; have := HZ70.out; have := HZ77.out; have := HZ84.out; have := HZ86.out; have := HZ98.out; have := HZ111.out; have := HZ114.out; have := HZ122.out; have := HZ128.out; have := HZ134.out; have := HZ146.out; have := HZ162.out; omega) (fun k_ hk_ => hk_))
  clear f161
  obtain ⟨A164, c165, e_⟩ := Kd.R_slice F163.out
  subst e_
  go_wp2_with fail
  refine (laws_eqIntS.calls k _ _ t156 _ _ t32 true _ (Lk.Rr F163.out).2 (Lk.Rr F163.out).1 (Lk.Rr F39.out).2 (Lk.Rr F39.out).1 H167.out).mono ?_
  rintro e_ w168 ⟨rfl, ⟨nd_, hd_⟩⟩
  have hb : Below w159.heap.size w159 w168 := by rw [hd_]; exact pw_below_drewN (Below.refl _ _) nd_
  clear hd_
  have hq_ : Below w159.heap.size w159 w168 := ⟨hb.os, hb.tape, hb.output, hb.size, hb.block⟩
  have HZ169 := Aside0.mk (show w159.heap.size ≤ w168.heap.size from hq_.size)
  have hn_ := Aside0.mk (below_then HB.out HB.out.size hq_)
  clear HB
  have HB := hn_
  clear hn_
  have hn_ := Aside0.mk (Kd.R_below F23.out hq_)
  clear F23
  have F23 := hn_
  clear hn_
  have hn_ := Aside0.mk (Kd.R_below F26.out hq_)
  clear F26
  have F26 := hn_
  clear hn_
  have hn_ := Aside0.mk (Kd.R_below F29.out hq_)
  clear F29
  have F29 := hn_
  clear hn_
  have hn_ := Aside0.mk (Kd.R_below F39.out hq_)
  clear F39
  have F39 := hn_
  clear hn_
  have hn_ := Aside0.mk (Kd.R_below F54.out hq_)
  clear F54
  have F54 := hn_
  clear hn_
  have hn_ := Aside0.mk (Kd.R_below F57.out hq_)
  clear F57
  have F57 := hn_
  clear hn_
  have hn_ := Aside0.mk (Kd.R_below F60.out hq_)
  clear F60
  have F60 := hn_
  clear hn_
  have hn_ := Aside0.mk (Kd.R_below F78.out hq_)
  clear F78
  have F78 := hn_
  clear hn_
  have hn_ := Aside0.mk (Kd.R_below F99.out hq_)
  clear F99
  have F99 := hn_
  clear hn_
  have hn_ := Aside0.mk (Kd.R_below F102.out hq_)
  clear F102
  have F102 := hn_
  clear hn_
  have hn_ := Aside0.mk (Kd.R_below F105.out hq_)
  clear F105
  have F105 := hn_
  clear hn_
  have hn_ := Aside0.mk (Kd.R_below F147.out hq_)
  clear F147
  have F147 := hn_
  clear hn_
  have hn_ := Aside0.mk (Kd.R_below F150.out hq_)
  clear F150
  have F150 := hn_
  clear hn_
  have hn_ := Aside0.mk (Kd.R_below F153.out hq_)
  clear F153
  have F153 := hn_
  clear hn_
  have hn_ := Aside0.mk (Kd.R_below F163.out hq_)
  clear F163
  have F163 := hn_
  clear hn_
  have hn_ := Aside0.mk (blk_below BK3.out hq_)
  clear hczb1_0 hfzb1_0; clear hczb1_1 hfzb1_1; clear hczb1_2 hfzb1_2
  clear BK3
  have BK3 := hn_
  clear hn_
  have hn_ := Aside0.mk (blk_below BK65.out hq_)
  clear hczb63_0 hfzb63_0; clear hczb63_1 hfzb63_1; clear hczb63_2 hfzb63_2
  clear BK65
  have BK65 := hn_
  clear hn_
  clear hq_
  have hczb1_0 : w168.cell? ⟨gb2, 0, none⟩ = some (.slice A0_0 l0_0.length c0_0) := (blk_cell BK3.out 0).trans rfl; have hfzb1_0 := blk_frozen BK3.out 0; have hczb1_1 : w168.cell? ⟨gb2, 1, none⟩ = some (.slice A0_1 l0_1.length c0_1) := (blk_cell BK3.out 1).trans rfl; have hfzb1_1 := blk_frozen BK3.out 1; have hczb1_2 : w168.cell? ⟨gb2, 2, none⟩ = some (.slice A0_2 l0_2.length c0_2) := (blk_cell BK3.out 2).trans rfl; have hfzb1_2 := blk_frozen BK3.out 2
  have hczb63_0 : w168.cell? ⟨gb64, 0, none⟩ = some (.slice A55 t42.length c56) := (blk_cell BK65.out 0).trans rfl; have hfzb63_0 := blk_frozen BK65.out 0; have hczb63_1 : w168.cell? ⟨gb64, 1, none⟩ = some (.slice A58 t43.length c59) := (blk_cell BK65.out 1).trans rfl; have hfzb63_1 := blk_frozen BK65.out 1; have hczb63_2 : w168.cell? ⟨gb64, 2, none⟩ = some (.slice A61 t44.length c62) := (blk_cell BK65.out 2).trans rfl; have hfzb63_2 := blk_frozen BK65.out 2
  clear hb
  go_wp2_with fail
  have hc_ := laws_heldIntS.calls k _ _ t125 1 t124 _ (Lk.Rr F78.out).2 (Lk.Rr F78.out).1 H171.out
  simp only [← HL129.out] at hc_
  refine hc_.mono ?_
  clear hc_
  rintro e_ w172 ⟨rfl, ⟨nd_, hd_⟩⟩
  have hb : Below w168.heap.size w168 w172 := by rw [hd_]; exact pw_below_drewN (Below.refl _ _) nd_
  clear hd_
  have hq_ : Below w168.heap.size w168 w172 := ⟨hb.os, hb.tape, hb.output, hb.size, hb.block⟩
  have HZ173 := Aside0.mk (show w168.heap.size ≤ w172.heap.size from hq_.size)
  have hn_ := Aside0.mk (below_then HB.out HB.out.size hq_)
  clear HB
  have HB := hn_
  clear hn_
  have hn_ := Aside0.mk (Kd.R_below F23.out hq_)
  clear F23
  have F23 := hn_
  clear hn_
  have hn_ := Aside0.mk (Kd.R_below F26.out hq_)
  clear F26
  have F26 := hn_
  clear hn_
  have hn_ := Aside0.mk (Kd.R_below F29.out hq_)
  clear F29
  have F29 := hn_
  clear hn_
  have hn_ := Aside0.mk (Kd.R_below F39.out hq_)
  clear F39
  have F39 := hn_
  clear hn_
  have hn_ := Aside0.mk (Kd.R_below F54.out hq_)
  clear F54
  have F54 := hn_
  clear hn_
  have hn_ := Aside0.mk (Kd.R_below F57.out hq_)
  clear F57
  have F57 := hn_
  clear hn_
  have hn_ := Aside0.mk (Kd.R_below F60.out hq_)
  clear F60
  have F60 := hn_
  clear hn_
  have hn_ := Aside0.mk (Kd.R_below F78.out hq_)
  clear F78
  have F78 := hn_
  clear hn_
  have hn_ := Aside0.mk (Kd.R_below F99.out hq_)
  clear F99
  have F99 := hn_
  clear hn_
  have hn_ := Aside0.mk (Kd.R_below F102.out hq_)
  clear F102
  have F102 := hn_
  clear hn_
  have hn_ := Aside0.mk (Kd.R_below F105.out hq_)
  clear F105
  have F105 := hn_
  clear hn_
  have hn_ := Aside0.mk (Kd.R_below F147.out hq_)
  clear F147
  have F147 := hn_
  clear hn_
  have hn_ := Aside0.mk (Kd.R_below F150.out hq_)
  clear F150
  have F150 := hn_
  clear hn_
  have hn_ := Aside0.mk (Kd.R_below F153.out hq_)
  clear F153
  have F153 := hn_
  clear hn_
  have hn_ := Aside0.mk (Kd.R_below F163.out hq_)
  clear F163
  have F163 := hn_
  clear hn_
  have hn_ := Aside0.mk (blk_below BK3.out hq_)
  clear hczb1_0 hfzb1_0; clear hczb1_1 hfzb1_1; clear hczb1_2 hfzb1_2
  clear BK3
  have BK3 := hn_
  clear hn_
  have hn_ := Aside0.mk (blk_below BK65.out hq_)
  clear hczb63_0 hfzb63_0; clear hczb63_1 hfzb63_1; clear hczb63_2 hfzb63_2
  clear BK65
  have BK65 := hn_
  clear hn_
  clear hq_
  have hczb1_0 : w172.cell? ⟨gb2, 0, none⟩ = some (.slice A0_0 l0_0.length c0_0) := (blk_cell BK3.out 0).trans rfl; have hfzb1_0 := blk_frozen BK3.out 0; have hczb1_1 : w172.cell? ⟨gb2, 1, none⟩ = some (.slice A0_1 l0_1.length c0_1) := (blk_cell BK3.out 1).trans rfl; have hfzb1_1 := blk_frozen BK3.out 1; have hczb1_2 : w172.cell? ⟨gb2, 2, none⟩ = some (.slice A0_2 l0_2.length c0_2) := (blk_cell BK3.out 2).trans rfl; have hfzb1_2 := blk_frozen BK3.out 2
  have hczb63_0 : w172.cell? ⟨gb64, 0, none⟩ = some (.slice A55 t42.length c56) := (blk_cell BK65.out 0).trans rfl; have hfzb63_0 := blk_frozen BK65.out 0; have hczb63_1 : w172.cell? ⟨gb64, 1, none⟩ = some (.slice A58 t43.length c59) := (blk_cell BK65.out 1).trans rfl; have hfzb63_1 := blk_frozen BK65.out 1; have hczb63_2 : w172.cell? ⟨gb64, 2, none⟩ = some (.slice A61 t44.length c62) := (blk_cell BK65.out 2).trans rfl; have hfzb63_2 := blk_frozen BK65.out 2
  clear hb
  go_wp2_with fail
  go_ret
  exact ⟨rfl, HB.out⟩
end Go.Proofs.Ytpoddnhfnphdcaa.Q
