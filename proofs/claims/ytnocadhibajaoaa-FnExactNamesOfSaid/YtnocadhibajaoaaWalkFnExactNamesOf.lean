/- The law FnExactNamesOf of this seat: the walk along its one way. Conditions: none. -/
import Derived.Test.YtnocadhibajaoaaQx0
import Derived.Test.YtnocadhibajaoaaQx1
import Derived.Test.YtnocadhibajaoaaQx2
import Derived.Test.YtnocadhibajaoaaQx5
import Derived.Test.YtnocadhibajaoaaQx7
import Derived.Test.YtnocadhibajaoaaGoodFnExactNamesOf
import Derived.Test.YtnocadhibajaoaaLk
namespace Go.Proofs.Ytnocadhibajaoaa.Q
open Go.RowKit Go.Proofs.YtnocadhibajaoaaW.PrintWords Go.Proofs.YtnocadhibajaoaaW.PrintLast Go.Proofs.YtnocadhibajaoaaW.PrintMore
set_option linter.unusedVariables false
set_option linter.unusedSimpArgs false
open Lk in
set_option maxHeartbeats 8000000 in
set_option maxRecDepth 100000 in
theorem laws_FnExactNamesOf.calls (k : Nat) (A0_0 : Option Addr) (c0_0 : Nat) (l0_0 : List (S59)) (A0_1 : Option Addr) (c0_1 : Nat) (l0_1 : List Int) (A0_2 : Option Addr) (c0_2 : Nat) (l0_2 : List Int) (a0_3 : Int) (r : Bool) (w : World) (hr0_0 : Kd.C k59 w A0_0 l0_0.length l0_0) (hc0_0 : l0_0.length ≤ c0_0) (hr0_1 : Kd.C (Kd.int .i64) w A0_1 l0_1.length l0_1) (hc0_1 : l0_1.length ≤ c0_1) (hr0_2 : Kd.C (Kd.int .i64) w A0_2 l0_2.length l0_2) (hc0_2 : l0_2.length ≤ c0_2) (h : laws_FnExactNamesOf.f k l0_0 l0_1 l0_2 a0_3 = some r) :
    Calls Try.prog 5 #[.agg #[.slice A0_0 l0_0.length c0_0, .slice A0_1 l0_1.length c0_1, .slice A0_2 l0_2.length c0_2, .int .i64 a0_3]] w fun e w' => e = .returned (.bool r) ∧ Below w.heap.size w w' := by
  unfold laws_FnExactNamesOf.f at h
  split at h
  case isFalse => cases h
  rename_i hg
  obtain rfl := Option.some.inj h
  clear h
  have HR0_0 := Aside0.mk hr0_0
  have HC0_0 := Aside0.mk hc0_0
  clear hr0_0 hc0_0
  have HR0_1 := Aside0.mk hr0_1
  have HC0_1 := Aside0.mk hc0_1
  clear hr0_1 hc0_1
  have HR0_2 := Aside0.mk hr0_2
  have HC0_2 := Aside0.mk hc0_2
  clear hr0_2 hc0_2
  have HB := Aside0.mk (Below.refl w.heap.size w)
  unfold laws_FnExactNamesOf.good at hg
  obtain ⟨t7, H80, hg⟩ := hg
  have H8 := Aside0.mk H80
  clear H80
  rcases hg with hs | ⟨hs, hg⟩
  · have hs1_ : decide (t7 < 0) = true := decide_eq_true hs
    clear hs
    go_enter Try.func5, Try.ntmps5
    go_wp2_with (first | ((with_reducible refine gate_dst (N := 1) rfl ?_); refine box_event ?hg (N := 1) ?hd (cs := #[.slice A0_0 l0_0.length c0_0, .slice A0_1 l0_1.length c0_1, .slice A0_2 l0_2.length c0_2, .int .i64 a0_3]) (t := 32) ?hr ?_; (case hd => rfl); (case hg => rfl); (case hr => first | (go_simp; done) | (go_simp; rfl)); intro gb2 hg_ w5 hx_ hb; have hg2_ : gb2 = w.heap.size := hg_; have hq_ : Below w.heap.size w w5 := ⟨hb.os, hb.tape, hb.output, hb.size, hb.block⟩; have HZ6 := Aside0.mk (show w.heap.size ≤ w5.heap.size from hq_.size); have hn_ := Aside0.mk (below_then HB.out HB.out.size hq_); clear HB; have HB := hn_; clear hn_; clear hq_; have BK3 := Aside0.mk hx_; have GQ4 := Aside0.mk (show w.heap.size ≤ gb2 ∧ gb2 < w5.heap.size from ⟨Nat.le_of_eq hg2_.symm, blk_lt hx_⟩); clear hb hg_ hg2_ hx_; have hczb1_0 : w5.cell? ⟨gb2, 0, none⟩ = some (.slice A0_0 l0_0.length c0_0) := (blk_cell BK3.out 0).trans rfl; have hfzb1_0 := blk_frozen BK3.out 0; have hczb1_1 : w5.cell? ⟨gb2, 1, none⟩ = some (.slice A0_1 l0_1.length c0_1) := (blk_cell BK3.out 1).trans rfl; have hfzb1_1 := blk_frozen BK3.out 1; have hczb1_2 : w5.cell? ⟨gb2, 2, none⟩ = some (.slice A0_2 l0_2.length c0_2) := (blk_cell BK3.out 2).trans rfl; have hfzb1_2 := blk_frozen BK3.out 2; have hczb1_3 : w5.cell? ⟨gb2, 3, none⟩ = some (.int .i64 a0_3) := (blk_cell BK3.out 3).trans rfl; have hfzb1_3 := blk_frozen BK3.out 3))
    refine (laws_szHeap.calls k _ _ l0_0 _ _ l0_1 _ _ l0_2 a0_3 1048576 t7 _ (Kd.C_below HR0_0.out HB.out) HC0_0.out (Kd.C_below HR0_1.out HB.out) HC0_1.out (Kd.C_below HR0_2.out HB.out) HC0_2.out H8.out).mono ?_
    rintro e_ w9 ⟨rfl, hb⟩
    have hq_ : Below w5.heap.size w5 w9 := ⟨hb.os, hb.tape, hb.output, hb.size, hb.block⟩
    have HZ10 := Aside0.mk (show w5.heap.size ≤ w9.heap.size from hq_.size)
    have hn_ := Aside0.mk (below_then HB.out HB.out.size hq_)
    clear HB
    have HB := hn_
    clear hn_
    have hn_ := Aside0.mk (blk_below BK3.out hq_)
    clear hczb1_0 hfzb1_0; clear hczb1_1 hfzb1_1; clear hczb1_2 hfzb1_2; clear hczb1_3 hfzb1_3
    clear BK3
    have BK3 := hn_
    clear hn_
    clear hq_
    have hczb1_0 : w9.cell? ⟨gb2, 0, none⟩ = some (.slice A0_0 l0_0.length c0_0) := (blk_cell BK3.out 0).trans rfl; have hfzb1_0 := blk_frozen BK3.out 0; have hczb1_1 : w9.cell? ⟨gb2, 1, none⟩ = some (.slice A0_1 l0_1.length c0_1) := (blk_cell BK3.out 1).trans rfl; have hfzb1_1 := blk_frozen BK3.out 1; have hczb1_2 : w9.cell? ⟨gb2, 2, none⟩ = some (.slice A0_2 l0_2.length c0_2) := (blk_cell BK3.out 2).trans rfl; have hfzb1_2 := blk_frozen BK3.out 2; have hczb1_3 : w9.cell? ⟨gb2, 3, none⟩ = some (.int .i64 a0_3) := (blk_cell BK3.out 3).trans rfl; have hfzb1_3 := blk_frozen BK3.out 3
    clear hb
    go_wp2_with fail
    go_ret
    exact ⟨rfl, HB.out⟩
  have hs2_ : decide (t7 < 0) = false := decide_eq_false hs
  clear hs
  obtain ⟨t11, t12, t13, t14, H150, t33, t34, H350, t43, t44, t45, t46, H470, t73, H750, H840, t89, t90, t91, t92, H930, H1120, H1160, H1230, t127, t128, H1290, H1300, H1350, t138, t139, t140, t141, H1420, t160, H1620, H1710, H1750, hg⟩ := hg
  have H15 := Aside0.mk H150
  clear H150
  have H35 := Aside0.mk H350
  clear H350
  have H47 := Aside0.mk H470
  clear H470
  have H75 := Aside0.mk H750
  clear H750
  have H84 := Aside0.mk H840
  clear H840
  have H93 := Aside0.mk H930
  clear H930
  have H112 := Aside0.mk H1120
  clear H1120
  have H116 := Aside0.mk H1160
  clear H1160
  have H123 := Aside0.mk H1230
  clear H1230
  have H129 := Aside0.mk H1290
  clear H1290
  have H130 := Aside0.mk H1300
  clear H1300
  have H135 := Aside0.mk H1350
  clear H1350
  have H142 := Aside0.mk H1420
  clear H1420
  have H162 := Aside0.mk H1620
  clear H1620
  have H171 := Aside0.mk H1710
  clear H1710
  have H175 := Aside0.mk H1750
  clear H1750
  clear hg
  go_enter Try.func5, Try.ntmps5
  go_wp2_with (first | ((with_reducible refine gate_dst (N := 1) rfl ?_); refine box_event ?hg (N := 1) ?hd (cs := #[.slice A0_0 l0_0.length c0_0, .slice A0_1 l0_1.length c0_1, .slice A0_2 l0_2.length c0_2, .int .i64 a0_3]) (t := 32) ?hr ?_; (case hd => rfl); (case hg => rfl); (case hr => first | (go_simp; done) | (go_simp; rfl)); intro gb2 hg_ w5 hx_ hb; have hg2_ : gb2 = w.heap.size := hg_; have hq_ : Below w.heap.size w w5 := ⟨hb.os, hb.tape, hb.output, hb.size, hb.block⟩; have HZ6 := Aside0.mk (show w.heap.size ≤ w5.heap.size from hq_.size); have hn_ := Aside0.mk (below_then HB.out HB.out.size hq_); clear HB; have HB := hn_; clear hn_; clear hq_; have BK3 := Aside0.mk hx_; have GQ4 := Aside0.mk (show w.heap.size ≤ gb2 ∧ gb2 < w5.heap.size from ⟨Nat.le_of_eq hg2_.symm, blk_lt hx_⟩); clear hb hg_ hg2_ hx_; have hczb1_0 : w5.cell? ⟨gb2, 0, none⟩ = some (.slice A0_0 l0_0.length c0_0) := (blk_cell BK3.out 0).trans rfl; have hfzb1_0 := blk_frozen BK3.out 0; have hczb1_1 : w5.cell? ⟨gb2, 1, none⟩ = some (.slice A0_1 l0_1.length c0_1) := (blk_cell BK3.out 1).trans rfl; have hfzb1_1 := blk_frozen BK3.out 1; have hczb1_2 : w5.cell? ⟨gb2, 2, none⟩ = some (.slice A0_2 l0_2.length c0_2) := (blk_cell BK3.out 2).trans rfl; have hfzb1_2 := blk_frozen BK3.out 2; have hczb1_3 : w5.cell? ⟨gb2, 3, none⟩ = some (.int .i64 a0_3) := (blk_cell BK3.out 3).trans rfl; have hfzb1_3 := blk_frozen BK3.out 3))
  refine (laws_szHeap.calls k _ _ l0_0 _ _ l0_1 _ _ l0_2 a0_3 1048576 t7 _ (Kd.C_below HR0_0.out HB.out) HC0_0.out (Kd.C_below HR0_1.out HB.out) HC0_1.out (Kd.C_below HR0_2.out HB.out) HC0_2.out H8.out).mono ?_
  rintro e_ w9 ⟨rfl, hb⟩
  have hq_ : Below w5.heap.size w5 w9 := ⟨hb.os, hb.tape, hb.output, hb.size, hb.block⟩
  have HZ10 := Aside0.mk (show w5.heap.size ≤ w9.heap.size from hq_.size)
  have hn_ := Aside0.mk (below_then HB.out HB.out.size hq_)
  clear HB
  have HB := hn_
  clear hn_
  have hn_ := Aside0.mk (blk_below BK3.out hq_)
  clear hczb1_0 hfzb1_0; clear hczb1_1 hfzb1_1; clear hczb1_2 hfzb1_2; clear hczb1_3 hfzb1_3
  clear BK3
  have BK3 := hn_
  clear hn_
  clear hq_
  have hczb1_0 : w9.cell? ⟨gb2, 0, none⟩ = some (.slice A0_0 l0_0.length c0_0) := (blk_cell BK3.out 0).trans rfl; have hfzb1_0 := blk_frozen BK3.out 0; have hczb1_1 : w9.cell? ⟨gb2, 1, none⟩ = some (.slice A0_1 l0_1.length c0_1) := (blk_cell BK3.out 1).trans rfl; have hfzb1_1 := blk_frozen BK3.out 1; have hczb1_2 : w9.cell? ⟨gb2, 2, none⟩ = some (.slice A0_2 l0_2.length c0_2) := (blk_cell BK3.out 2).trans rfl; have hfzb1_2 := blk_frozen BK3.out 2; have hczb1_3 : w9.cell? ⟨gb2, 3, none⟩ = some (.int .i64 a0_3) := (blk_cell BK3.out 3).trans rfl; have hfzb1_3 := blk_frozen BK3.out 3
  clear hb
  go_wp2_with fail
  refine (laws_toHeap.calls k _ _ l0_0 _ _ l0_1 _ _ l0_2 a0_3 t11 t12 t13 t14 _ (Kd.C_below HR0_0.out HB.out) HC0_0.out (Kd.C_below HR0_1.out HB.out) HC0_1.out (Kd.C_below HR0_2.out HB.out) HC0_2.out H15.out).mono ?_
  rintro e_ w16 ⟨v17, v18, v19, rfl, f20, f21, f22, hb⟩
  have hq_ : Below w9.heap.size w9 w16 := ⟨hb.os, hb.tape, hb.output, hb.size, hb.block⟩
  have HZ23 := Aside0.mk (show w9.heap.size ≤ w16.heap.size from hq_.size)
  have hn_ := Aside0.mk (below_then HB.out HB.out.size hq_)
  clear HB
  have HB := hn_
  clear hn_
  have hn_ := Aside0.mk (blk_below BK3.out hq_)
  clear hczb1_0 hfzb1_0; clear hczb1_1 hfzb1_1; clear hczb1_2 hfzb1_2; clear hczb1_3 hfzb1_3
  clear BK3
  have BK3 := hn_
  clear hn_
  clear hq_
  have hczb1_0 : w16.cell? ⟨gb2, 0, none⟩ = some (.slice A0_0 l0_0.length c0_0) := (blk_cell BK3.out 0).trans rfl; have hfzb1_0 := blk_frozen BK3.out 0; have hczb1_1 : w16.cell? ⟨gb2, 1, none⟩ = some (.slice A0_1 l0_1.length c0_1) := (blk_cell BK3.out 1).trans rfl; have hfzb1_1 := blk_frozen BK3.out 1; have hczb1_2 : w16.cell? ⟨gb2, 2, none⟩ = some (.slice A0_2 l0_2.length c0_2) := (blk_cell BK3.out 2).trans rfl; have hfzb1_2 := blk_frozen BK3.out 2; have hczb1_3 : w16.cell? ⟨gb2, 3, none⟩ = some (.int .i64 a0_3) := (blk_cell BK3.out 3).trans rfl; have hfzb1_3 := blk_frozen BK3.out 3
  clear hb
  have F24 := Aside0.mk (Lk.newS (b := w9.heap.size) (base := w.heap.size) (Sep := fun k_ => some k_ ≠ (v18 : Value).ownBlock ∧ some k_ ≠ (v19 : Value).ownBlock) f20 (by have := HZ6.out; have := HZ10.out; have := HZ23.out; omega) (fun k_ hk_ => hk_))
  clear f20
  have F27 := Aside0.mk (Lk.newR (b := w9.heap.size) (base := w.heap.size) (Sep := fun k_ => some k_ ≠ (v19 : Value).ownBlock) rfl f21 (by have := HZ6.out; have := HZ10.out; have := HZ23.out; omega) (fun k_ hk_ => hk_))
  clear f21
  have F30 := Aside0.mk (Lk.newR (b := w9.heap.size) (base := w.heap.size) (Sep := fun k_ => some k_ ≠ (v18 : Value).ownBlock) rfl f22 (by have := HZ6.out; have := HZ10.out; have := HZ23.out; omega) (fun k_ hk_ => hk_))
  clear f22
  obtain ⟨A25, c26, e_⟩ := Kd.S_slice F24.out
  subst e_
  obtain ⟨A28, c29, e_⟩ := Kd.R_slice F27.out
  subst e_
  obtain ⟨A31, c32, e_⟩ := Kd.R_slice F30.out
  subst e_
  go_wp2_with fail
  refine (spec_NamesOf.calls k _ _ t11 _ _ t12 _ _ t13 t14 t33 t34 _ (Lk.Sr F24.out).2 (Lk.Sr F24.out).1 (Lk.Rr F27.out).2 (Lk.Rr F27.out).1 (Lk.Rr F30.out).2 (Lk.Rr F30.out).1 H35.out).mono ?_
  rintro e_ w36 ⟨v37, rfl, f38, hb⟩
  have hq_ : Below w16.heap.size w16 w36 := ⟨hb.os, hb.tape, hb.output, hb.size, hb.block⟩
  have HZ39 := Aside0.mk (show w16.heap.size ≤ w36.heap.size from hq_.size)
  have hn_ := Aside0.mk (below_then HB.out HB.out.size hq_)
  clear HB
  have HB := hn_
  clear hn_
  have hn_ := Aside0.mk (Kd.S_below F24.out hq_)
  clear F24
  have F24 := hn_
  clear hn_
  have hn_ := Aside0.mk (Kd.R_below F27.out hq_)
  clear F27
  have F27 := hn_
  clear hn_
  have hn_ := Aside0.mk (Kd.R_below F30.out hq_)
  clear F30
  have F30 := hn_
  clear hn_
  have hn_ := Aside0.mk (blk_below BK3.out hq_)
  clear hczb1_0 hfzb1_0; clear hczb1_1 hfzb1_1; clear hczb1_2 hfzb1_2; clear hczb1_3 hfzb1_3
  clear BK3
  have BK3 := hn_
  clear hn_
  clear hq_
  have hczb1_0 : w36.cell? ⟨gb2, 0, none⟩ = some (.slice A0_0 l0_0.length c0_0) := (blk_cell BK3.out 0).trans rfl; have hfzb1_0 := blk_frozen BK3.out 0; have hczb1_1 : w36.cell? ⟨gb2, 1, none⟩ = some (.slice A0_1 l0_1.length c0_1) := (blk_cell BK3.out 1).trans rfl; have hfzb1_1 := blk_frozen BK3.out 1; have hczb1_2 : w36.cell? ⟨gb2, 2, none⟩ = some (.slice A0_2 l0_2.length c0_2) := (blk_cell BK3.out 2).trans rfl; have hfzb1_2 := blk_frozen BK3.out 2; have hczb1_3 : w36.cell? ⟨gb2, 3, none⟩ = some (.int .i64 a0_3) := (blk_cell BK3.out 3).trans rfl; have hfzb1_3 := blk_frozen BK3.out 3
  clear hb
  have F40 := Aside0.mk (Lk.newR (b := w16.heap.size) (base := w.heap.size) (Sep := fun k_ => True) rfl f38 (by have := HZ6.out; have := HZ10.out; have := HZ23.out; have := HZ39.out; omega) (fun k_ hk_ => hk_))
  clear f38
  obtain ⟨A41, c42, e_⟩ := Kd.R_slice F40.out
  subst e_
  go_wp2_with fail
  refine (laws_toHeap.calls k _ _ l0_0 _ _ l0_1 _ _ l0_2 a0_3 t43 t44 t45 t46 _ (Kd.C_below HR0_0.out HB.out) HC0_0.out (Kd.C_below HR0_1.out HB.out) HC0_1.out (Kd.C_below HR0_2.out HB.out) HC0_2.out H47.out).mono ?_
  rintro e_ w48 ⟨v49, v50, v51, rfl, f52, f53, f54, hb⟩
  have hq_ : Below w36.heap.size w36 w48 := ⟨hb.os, hb.tape, hb.output, hb.size, hb.block⟩
  have HZ55 := Aside0.mk (show w36.heap.size ≤ w48.heap.size from hq_.size)
  have hn_ := Aside0.mk (below_then HB.out HB.out.size hq_)
  clear HB
  have HB := hn_
  clear hn_
  have hn_ := Aside0.mk (Kd.S_below F24.out hq_)
  clear F24
  have F24 := hn_
  clear hn_
  have hn_ := Aside0.mk (Kd.R_below F27.out hq_)
  clear F27
  have F27 := hn_
  clear hn_
  have hn_ := Aside0.mk (Kd.R_below F30.out hq_)
  clear F30
  have F30 := hn_
  clear hn_
  have hn_ := Aside0.mk (Kd.R_below F40.out hq_)
  clear F40
  have F40 := hn_
  clear hn_
  have hn_ := Aside0.mk (blk_below BK3.out hq_)
  clear hczb1_0 hfzb1_0; clear hczb1_1 hfzb1_1; clear hczb1_2 hfzb1_2; clear hczb1_3 hfzb1_3
  clear BK3
  have BK3 := hn_
  clear hn_
  clear hq_
  have hczb1_0 : w48.cell? ⟨gb2, 0, none⟩ = some (.slice A0_0 l0_0.length c0_0) := (blk_cell BK3.out 0).trans rfl; have hfzb1_0 := blk_frozen BK3.out 0; have hczb1_1 : w48.cell? ⟨gb2, 1, none⟩ = some (.slice A0_1 l0_1.length c0_1) := (blk_cell BK3.out 1).trans rfl; have hfzb1_1 := blk_frozen BK3.out 1; have hczb1_2 : w48.cell? ⟨gb2, 2, none⟩ = some (.slice A0_2 l0_2.length c0_2) := (blk_cell BK3.out 2).trans rfl; have hfzb1_2 := blk_frozen BK3.out 2; have hczb1_3 : w48.cell? ⟨gb2, 3, none⟩ = some (.int .i64 a0_3) := (blk_cell BK3.out 3).trans rfl; have hfzb1_3 := blk_frozen BK3.out 3
  clear hb
  have F56 := Aside0.mk (Lk.newS (b := w36.heap.size) (base := w.heap.size) (Sep := fun k_ => some k_ ≠ (v50 : Value).ownBlock ∧ some k_ ≠ (v51 : Value).ownBlock) f52 (by have := HZ6.out; have := HZ10.out; have := HZ23.out; have := HZ39.out; have := HZ55.out; omega) (fun k_ hk_ => hk_))
  clear f52
  have F59 := Aside0.mk (Lk.newR (b := w36.heap.size) (base := w.heap.size) (Sep := fun k_ => some k_ ≠ (v51 : Value).ownBlock) rfl f53 (by have := HZ6.out; have := HZ10.out; have := HZ23.out; have := HZ39.out; have := HZ55.out; omega) (fun k_ hk_ => hk_))
  clear f53
  have F62 := Aside0.mk (Lk.newR (b := w36.heap.size) (base := w.heap.size) (Sep := fun k_ => some k_ ≠ (v50 : Value).ownBlock) rfl f54 (by have := HZ6.out; have := HZ10.out; have := HZ23.out; have := HZ39.out; have := HZ55.out; omega) (fun k_ hk_ => hk_))
  clear f54
  obtain ⟨A57, c58, e_⟩ := Kd.S_slice F56.out
  subst e_
  obtain ⟨A60, c61, e_⟩ := Kd.R_slice F59.out
  subst e_
  obtain ⟨A63, c64, e_⟩ := Kd.R_slice F62.out
  subst e_
  go_wp2_with (first | ((with_reducible refine gate_dst (N := 6) rfl ?_); refine box_event ?hg (N := 6) ?hd (cs := #[.slice none 0 0, .slice none 0 0, .slice none 0 0, .int .i64 0]) (t := 25) ?hr ?_; (case hd => rfl); (case hg => rfl); (case hr => first | (go_simp; done) | (go_simp; rfl)); intro gb66 hg_ w69 hx_ hb; have hg2_ : gb66 = w48.heap.size := hg_; have hq_ : Below w48.heap.size w48 w69 := ⟨hb.os, hb.tape, hb.output, hb.size, hb.block⟩; have HZ70 := Aside0.mk (show w48.heap.size ≤ w69.heap.size from hq_.size); have hn_ := Aside0.mk (below_then HB.out HB.out.size hq_); clear HB; have HB := hn_; clear hn_; have hn_ := Aside0.mk (Kd.S_below F24.out hq_); clear F24; have F24 := hn_; clear hn_; have hn_ := Aside0.mk (Kd.R_below F27.out hq_); clear F27; have F27 := hn_; clear hn_; have hn_ := Aside0.mk (Kd.R_below F30.out hq_); clear F30; have F30 := hn_; clear hn_; have hn_ := Aside0.mk (Kd.R_below F40.out hq_); clear F40; have F40 := hn_; clear hn_; have hn_ := Aside0.mk (Kd.S_below F56.out hq_); clear F56; have F56 := hn_; clear hn_; have hn_ := Aside0.mk (Kd.R_below F59.out hq_); clear F59; have F59 := hn_; clear hn_; have hn_ := Aside0.mk (Kd.R_below F62.out hq_); clear F62; have F62 := hn_; clear hn_; have hn_ := Aside0.mk (blk_below BK3.out hq_); clear hczb1_0 hfzb1_0; clear hczb1_1 hfzb1_1; clear hczb1_2 hfzb1_2; clear hczb1_3 hfzb1_3; clear BK3; have BK3 := hn_; clear hn_; clear hq_; have hczb1_0 : w69.cell? ⟨gb2, 0, none⟩ = some (.slice A0_0 l0_0.length c0_0) := (blk_cell BK3.out 0).trans rfl; have hfzb1_0 := blk_frozen BK3.out 0; have hczb1_1 : w69.cell? ⟨gb2, 1, none⟩ = some (.slice A0_1 l0_1.length c0_1) := (blk_cell BK3.out 1).trans rfl; have hfzb1_1 := blk_frozen BK3.out 1; have hczb1_2 : w69.cell? ⟨gb2, 2, none⟩ = some (.slice A0_2 l0_2.length c0_2) := (blk_cell BK3.out 2).trans rfl; have hfzb1_2 := blk_frozen BK3.out 2; have hczb1_3 : w69.cell? ⟨gb2, 3, none⟩ = some (.int .i64 a0_3) := (blk_cell BK3.out 3).trans rfl; have hfzb1_3 := blk_frozen BK3.out 3; have BK67 := Aside0.mk hx_; have GQ68 := Aside0.mk (show w48.heap.size ≤ gb66 ∧ gb66 < w69.heap.size from ⟨Nat.le_of_eq hg2_.symm, blk_lt hx_⟩); clear hb hg_ hg2_ hx_; have hczb65_0 : w69.cell? ⟨gb66, 0, none⟩ = some (.slice none 0 0) := (blk_cell BK67.out 0).trans rfl; have hfzb65_0 := blk_frozen BK67.out 0; have hczb65_1 : w69.cell? ⟨gb66, 1, none⟩ = some (.slice none 0 0) := (blk_cell BK67.out 1).trans rfl; have hfzb65_1 := blk_frozen BK67.out 1; have hczb65_2 : w69.cell? ⟨gb66, 2, none⟩ = some (.slice none 0 0) := (blk_cell BK67.out 2).trans rfl; have hfzb65_2 := blk_frozen BK67.out 2; have hczb65_3 : w69.cell? ⟨gb66, 3, none⟩ = some (.int .i64 0) := (blk_cell BK67.out 3).trans rfl; have hfzb65_3 := blk_frozen BK67.out 3) | ((with_reducible refine gate_store (t := 25) (p := 6) rfl ?_); refine store_event (t := 25) (p := 6) (v := ?vo_w71) (w1 := ((((w69.setCell ⟨gb66, 0, none⟩ (.slice A57 t43.length c58)).setCell ⟨gb66, 1, none⟩ (.slice A60 t44.length c61)).setCell ⟨gb66, 2, none⟩ (.slice A63 t45.length c64)).setCell ⟨gb66, 3, none⟩ (.int .i64 t46))) ?hg ?ho ?hn ?hr ?_; (case ho => rfl); (case hg => rfl); (case hn => rfl); (case hr => first | (go_simp; done) | (go_simp; rfl)); intro w71 hw_; have hx_ : w71.heap[gb66]? = some (.cells #[(.slice A57 t43.length c58), (.slice A60 t44.length c61), (.slice A63 t45.length c64), (.int .i64 t46)] 25 (0, 0)) := (by rw [hw_]; exact Lk.filled (us := [(.slice A57 t43.length c58), (.slice A60 t44.length c61), (.slice A63 t45.length c64), (.int .i64 t46)]) BK67.out rfl); have hk2_ : Kept w69 w71 (fun k_ => k_ = gb66) := (by rw [hw_]; exact Lk.fill_kept [(.slice A57 t43.length c58), (.slice A60 t44.length c61), (.slice A63 t45.length c64), (.int .i64 t46)] 0 w69); have hB_ := Aside0.mk (show Below w.heap.size w w71 by rw [hw_]; exact Lk.fill_below [(.slice A57 t43.length c58), (.slice A60 t44.length c61), (.slice A63 t45.length c64), (.int .i64 t46)] 0 w w69 HB.out (by have := HZ6.out; have := HZ10.out; have := HZ23.out; have := HZ39.out; have := HZ55.out; have := HZ70.out; have := GQ68.out; omega)); clear HB; have HB := hB_; clear hB_; have HZ72 := Aside0.mk (show w69.heap.size ≤ w71.heap.size from hk2_.1); have hn_ := Aside0.mk (Kd.S_kept F24.out hk2_ (fun k_ h1_ h2_ => by have := HZ6.out; have := HZ10.out; have := HZ23.out; have := HZ39.out; have := HZ55.out; have := HZ70.out; have := GQ68.out; have h3_ := h1_.1; omega)); clear F24; have F24 := hn_; clear hn_; have hn_ := Aside0.mk (Kd.R_kept F27.out hk2_ (fun k_ h1_ h2_ => by have := HZ6.out; have := HZ10.out; have := HZ23.out; have := HZ39.out; have := HZ55.out; have := HZ70.out; have := GQ68.out; have h3_ := h1_.1; omega)); clear F27; have F27 := hn_; clear hn_; have hn_ := Aside0.mk (Kd.R_kept F30.out hk2_ (fun k_ h1_ h2_ => by have := HZ6.out; have := HZ10.out; have := HZ23.out; have := HZ39.out; have := HZ55.out; have := HZ70.out; have := GQ68.out; have h3_ := h1_.1; omega)); clear F30; have F30 := hn_; clear hn_; have hn_ := Aside0.mk (Kd.R_kept F40.out hk2_ (fun k_ h1_ h2_ => by have := HZ6.out; have := HZ10.out; have := HZ23.out; have := HZ39.out; have := HZ55.out; have := HZ70.out; have := GQ68.out; have h3_ := h1_.1; omega)); clear F40; have F40 := hn_; clear hn_; have hn_ := Aside0.mk (Kd.S_kept F56.out hk2_ (fun k_ h1_ h2_ => by have := HZ6.out; have := HZ10.out; have := HZ23.out; have := HZ39.out; have := HZ55.out; have := HZ70.out; have := GQ68.out; have h3_ := h1_.1; omega)); clear F56; have F56 := hn_; clear hn_; have hn_ := Aside0.mk (Kd.R_kept F59.out hk2_ (fun k_ h1_ h2_ => by have := HZ6.out; have := HZ10.out; have := HZ23.out; have := HZ39.out; have := HZ55.out; have := HZ70.out; have := GQ68.out; have h3_ := h1_.1; omega)); clear F59; have F59 := hn_; clear hn_; have hn_ := Aside0.mk (Kd.R_kept F62.out hk2_ (fun k_ h1_ h2_ => by have := HZ6.out; have := HZ10.out; have := HZ23.out; have := HZ39.out; have := HZ55.out; have := HZ70.out; have := GQ68.out; have h3_ := h1_.1; omega)); clear F62; have F62 := hn_; clear hn_; clear hczb1_0 hfzb1_0; clear hczb1_1 hfzb1_1; clear hczb1_2 hfzb1_2; clear hczb1_3 hfzb1_3; have hn_ := Aside0.mk (blk_kept BK3.out hk2_ (fun h_ => by have := HZ6.out; have := HZ10.out; have := HZ23.out; have := HZ39.out; have := HZ55.out; have := HZ70.out; have := GQ68.out; have := GQ4.out; omega)); clear BK3; have BK3 := hn_; clear hn_; clear hczb65_0 hfzb65_0; clear hczb65_1 hfzb65_1; clear hczb65_2 hfzb65_2; clear hczb65_3 hfzb65_3; clear BK67; have BK67 := Aside0.mk hx_; clear hk2_ hx_ hw_; have hczb1_0 : w71.cell? ⟨gb2, 0, none⟩ = some (.slice A0_0 l0_0.length c0_0) := (blk_cell BK3.out 0).trans rfl; have hfzb1_0 := blk_frozen BK3.out 0; have hczb1_1 : w71.cell? ⟨gb2, 1, none⟩ = some (.slice A0_1 l0_1.length c0_1) := (blk_cell BK3.out 1).trans rfl; have hfzb1_1 := blk_frozen BK3.out 1; have hczb1_2 : w71.cell? ⟨gb2, 2, none⟩ = some (.slice A0_2 l0_2.length c0_2) := (blk_cell BK3.out 2).trans rfl; have hfzb1_2 := blk_frozen BK3.out 2; have hczb1_3 : w71.cell? ⟨gb2, 3, none⟩ = some (.int .i64 a0_3) := (blk_cell BK3.out 3).trans rfl; have hfzb1_3 := blk_frozen BK3.out 3; have hczb65_0 : w71.cell? ⟨gb66, 0, none⟩ = some (.slice A57 t43.length c58) := (blk_cell BK67.out 0).trans rfl; have hfzb65_0 := blk_frozen BK67.out 0; have hczb65_1 : w71.cell? ⟨gb66, 1, none⟩ = some (.slice A60 t44.length c61) := (blk_cell BK67.out 1).trans rfl; have hfzb65_1 := blk_frozen BK67.out 1; have hczb65_2 : w71.cell? ⟨gb66, 2, none⟩ = some (.slice A63 t45.length c64) := (blk_cell BK67.out 2).trans rfl; have hfzb65_2 := blk_frozen BK67.out 2; have hczb65_3 : w71.cell? ⟨gb66, 3, none⟩ = some (.int .i64 t46) := (blk_cell BK67.out 3).trans rfl; have hfzb65_3 := blk_frozen BK67.out 3))
  refine (impl_NamesOf.calls k _ _ t43 _ _ t44 _ _ t45 t46 t73 t34 _ (Lk.Sr F56.out).2 (Lk.Sr F56.out).1 (Lk.Rr F59.out).2 (Lk.Rr F59.out).1 (Lk.Rr F62.out).2 (Lk.Rr F62.out).1 H75.out).mono ?_
  rintro e_ w76 ⟨v77, rfl, f78, hb⟩
  have hq_ : Below w71.heap.size w71 w76 := ⟨hb.os, hb.tape, hb.output, hb.size, hb.block⟩
  have HZ79 := Aside0.mk (show w71.heap.size ≤ w76.heap.size from hq_.size)
  have hn_ := Aside0.mk (below_then HB.out HB.out.size hq_)
  clear HB
  have HB := hn_
  clear hn_
  have hn_ := Aside0.mk (Kd.S_below F24.out hq_)
  clear F24
  have F24 := hn_
  clear hn_
  have hn_ := Aside0.mk (Kd.R_below F27.out hq_)
  clear F27
  have F27 := hn_
  clear hn_
  have hn_ := Aside0.mk (Kd.R_below F30.out hq_)
  clear F30
  have F30 := hn_
  clear hn_
  have hn_ := Aside0.mk (Kd.R_below F40.out hq_)
  clear F40
  have F40 := hn_
  clear hn_
  have hn_ := Aside0.mk (Kd.S_below F56.out hq_)
  clear F56
  have F56 := hn_
  clear hn_
  have hn_ := Aside0.mk (Kd.R_below F59.out hq_)
  clear F59
  have F59 := hn_
  clear hn_
  have hn_ := Aside0.mk (Kd.R_below F62.out hq_)
  clear F62
  have F62 := hn_
  clear hn_
  have hn_ := Aside0.mk (blk_below BK3.out hq_)
  clear hczb1_0 hfzb1_0; clear hczb1_1 hfzb1_1; clear hczb1_2 hfzb1_2; clear hczb1_3 hfzb1_3
  clear BK3
  have BK3 := hn_
  clear hn_
  have hn_ := Aside0.mk (blk_below BK67.out hq_)
  clear hczb65_0 hfzb65_0; clear hczb65_1 hfzb65_1; clear hczb65_2 hfzb65_2; clear hczb65_3 hfzb65_3
  clear BK67
  have BK67 := hn_
  clear hn_
  clear hq_
  have hczb1_0 : w76.cell? ⟨gb2, 0, none⟩ = some (.slice A0_0 l0_0.length c0_0) := (blk_cell BK3.out 0).trans rfl; have hfzb1_0 := blk_frozen BK3.out 0; have hczb1_1 : w76.cell? ⟨gb2, 1, none⟩ = some (.slice A0_1 l0_1.length c0_1) := (blk_cell BK3.out 1).trans rfl; have hfzb1_1 := blk_frozen BK3.out 1; have hczb1_2 : w76.cell? ⟨gb2, 2, none⟩ = some (.slice A0_2 l0_2.length c0_2) := (blk_cell BK3.out 2).trans rfl; have hfzb1_2 := blk_frozen BK3.out 2; have hczb1_3 : w76.cell? ⟨gb2, 3, none⟩ = some (.int .i64 a0_3) := (blk_cell BK3.out 3).trans rfl; have hfzb1_3 := blk_frozen BK3.out 3
  have hczb65_0 : w76.cell? ⟨gb66, 0, none⟩ = some (.slice A57 t43.length c58) := (blk_cell BK67.out 0).trans rfl; have hfzb65_0 := blk_frozen BK67.out 0; have hczb65_1 : w76.cell? ⟨gb66, 1, none⟩ = some (.slice A60 t44.length c61) := (blk_cell BK67.out 1).trans rfl; have hfzb65_1 := blk_frozen BK67.out 1; have hczb65_2 : w76.cell? ⟨gb66, 2, none⟩ = some (.slice A63 t45.length c64) := (blk_cell BK67.out 2).trans rfl; have hfzb65_2 := blk_frozen BK67.out 2; have hczb65_3 : w76.cell? ⟨gb66, 3, none⟩ = some (.int .i64 t46) := (blk_cell BK67.out 3).trans rfl; have hfzb65_3 := blk_frozen BK67.out 3
  clear hb
  have F80 := Aside0.mk (Lk.newR (b := w71.heap.size) (base := w.heap.size) (Sep := fun k_ => True) rfl f78 (by have := HZ6.out; have := HZ10.out; have := HZ23.out; have := HZ39.out; have := HZ55.out; have := HZ70.out; have := HZ72.out; have := HZ79.out; omega) (fun k_ hk_ => hk_))
  clear f78
  obtain ⟨A81, c82, e_⟩ := Kd.R_slice F80.out
  subst e_
  go_wp2_with fail
  refine (laws_eqIntS.calls k _ _ t73 _ _ t33 true _ (Lk.Rr F80.out).2 (Lk.Rr F80.out).1 (Lk.Rr F40.out).2 (Lk.Rr F40.out).1 H84.out).mono ?_
  rintro e_ w85 ⟨rfl, ⟨nd_, hd_⟩⟩
  have hb : Below w76.heap.size w76 w85 := by rw [hd_]; exact pw_below_drewN (Below.refl _ _) nd_
  clear hd_
  have hq_ : Below w76.heap.size w76 w85 := ⟨hb.os, hb.tape, hb.output, hb.size, hb.block⟩
  have HZ86 := Aside0.mk (show w76.heap.size ≤ w85.heap.size from hq_.size)
  have hn_ := Aside0.mk (below_then HB.out HB.out.size hq_)
  clear HB
  have HB := hn_
  clear hn_
  have hn_ := Aside0.mk (Kd.S_below F24.out hq_)
  clear F24
  have F24 := hn_
  clear hn_
  have hn_ := Aside0.mk (Kd.R_below F27.out hq_)
  clear F27
  have F27 := hn_
  clear hn_
  have hn_ := Aside0.mk (Kd.R_below F30.out hq_)
  clear F30
  have F30 := hn_
  clear hn_
  have hn_ := Aside0.mk (Kd.R_below F40.out hq_)
  clear F40
  have F40 := hn_
  clear hn_
  have hn_ := Aside0.mk (Kd.S_below F56.out hq_)
  clear F56
  have F56 := hn_
  clear hn_
  have hn_ := Aside0.mk (Kd.R_below F59.out hq_)
  clear F59
  have F59 := hn_
  clear hn_
  have hn_ := Aside0.mk (Kd.R_below F62.out hq_)
  clear F62
  have F62 := hn_
  clear hn_
  have hn_ := Aside0.mk (Kd.R_below F80.out hq_)
  clear F80
  have F80 := hn_
  clear hn_
  have hn_ := Aside0.mk (blk_below BK3.out hq_)
  clear hczb1_0 hfzb1_0; clear hczb1_1 hfzb1_1; clear hczb1_2 hfzb1_2; clear hczb1_3 hfzb1_3
  clear BK3
  have BK3 := hn_
  clear hn_
  have hn_ := Aside0.mk (blk_below BK67.out hq_)
  clear hczb65_0 hfzb65_0; clear hczb65_1 hfzb65_1; clear hczb65_2 hfzb65_2; clear hczb65_3 hfzb65_3
  clear BK67
  have BK67 := hn_
  clear hn_
  clear hq_
  have hczb1_0 : w85.cell? ⟨gb2, 0, none⟩ = some (.slice A0_0 l0_0.length c0_0) := (blk_cell BK3.out 0).trans rfl; have hfzb1_0 := blk_frozen BK3.out 0; have hczb1_1 : w85.cell? ⟨gb2, 1, none⟩ = some (.slice A0_1 l0_1.length c0_1) := (blk_cell BK3.out 1).trans rfl; have hfzb1_1 := blk_frozen BK3.out 1; have hczb1_2 : w85.cell? ⟨gb2, 2, none⟩ = some (.slice A0_2 l0_2.length c0_2) := (blk_cell BK3.out 2).trans rfl; have hfzb1_2 := blk_frozen BK3.out 2; have hczb1_3 : w85.cell? ⟨gb2, 3, none⟩ = some (.int .i64 a0_3) := (blk_cell BK3.out 3).trans rfl; have hfzb1_3 := blk_frozen BK3.out 3
  have hczb65_0 : w85.cell? ⟨gb66, 0, none⟩ = some (.slice A57 t43.length c58) := (blk_cell BK67.out 0).trans rfl; have hfzb65_0 := blk_frozen BK67.out 0; have hczb65_1 : w85.cell? ⟨gb66, 1, none⟩ = some (.slice A60 t44.length c61) := (blk_cell BK67.out 1).trans rfl; have hfzb65_1 := blk_frozen BK67.out 1; have hczb65_2 : w85.cell? ⟨gb66, 2, none⟩ = some (.slice A63 t45.length c64) := (blk_cell BK67.out 2).trans rfl; have hfzb65_2 := blk_frozen BK67.out 2; have hczb65_3 : w85.cell? ⟨gb66, 3, none⟩ = some (.int .i64 t46) := (blk_cell BK67.out 3).trans rfl; have hfzb65_3 := blk_frozen BK67.out 3
  clear hb
  go_wp2_with fail
  have hb : Below w85.heap.size w85 w85.drew := below_drew (Below.refl _ _)
  obtain ⟨w87, hw_⟩ : ∃ w87, w85.drew = w87 := ⟨_, rfl⟩
  rw [hw_] at hb
  have hq_ : Below w85.heap.size w85 w87 := ⟨hb.os, hb.tape, hb.output, hb.size, hb.block⟩
  have HZ88 := Aside0.mk (show w85.heap.size ≤ w87.heap.size from hq_.size)
  have hn_ := Aside0.mk (below_then HB.out HB.out.size hq_)
  clear HB
  have HB := hn_
  clear hn_
  have hn_ := Aside0.mk (Kd.S_below F24.out hq_)
  clear F24
  have F24 := hn_
  clear hn_
  have hn_ := Aside0.mk (Kd.R_below F27.out hq_)
  clear F27
  have F27 := hn_
  clear hn_
  have hn_ := Aside0.mk (Kd.R_below F30.out hq_)
  clear F30
  have F30 := hn_
  clear hn_
  have hn_ := Aside0.mk (Kd.R_below F40.out hq_)
  clear F40
  have F40 := hn_
  clear hn_
  have hn_ := Aside0.mk (Kd.S_below F56.out hq_)
  clear F56
  have F56 := hn_
  clear hn_
  have hn_ := Aside0.mk (Kd.R_below F59.out hq_)
  clear F59
  have F59 := hn_
  clear hn_
  have hn_ := Aside0.mk (Kd.R_below F62.out hq_)
  clear F62
  have F62 := hn_
  clear hn_
  have hn_ := Aside0.mk (Kd.R_below F80.out hq_)
  clear F80
  have F80 := hn_
  clear hn_
  have hn_ := Aside0.mk (blk_below BK3.out hq_)
  clear hczb1_0 hfzb1_0; clear hczb1_1 hfzb1_1; clear hczb1_2 hfzb1_2; clear hczb1_3 hfzb1_3
  clear BK3
  have BK3 := hn_
  clear hn_
  have hn_ := Aside0.mk (blk_below BK67.out hq_)
  clear hczb65_0 hfzb65_0; clear hczb65_1 hfzb65_1; clear hczb65_2 hfzb65_2; clear hczb65_3 hfzb65_3
  clear BK67
  have BK67 := hn_
  clear hn_
  clear hq_
  have hczb1_0 : w87.cell? ⟨gb2, 0, none⟩ = some (.slice A0_0 l0_0.length c0_0) := (blk_cell BK3.out 0).trans rfl; have hfzb1_0 := blk_frozen BK3.out 0; have hczb1_1 : w87.cell? ⟨gb2, 1, none⟩ = some (.slice A0_1 l0_1.length c0_1) := (blk_cell BK3.out 1).trans rfl; have hfzb1_1 := blk_frozen BK3.out 1; have hczb1_2 : w87.cell? ⟨gb2, 2, none⟩ = some (.slice A0_2 l0_2.length c0_2) := (blk_cell BK3.out 2).trans rfl; have hfzb1_2 := blk_frozen BK3.out 2; have hczb1_3 : w87.cell? ⟨gb2, 3, none⟩ = some (.int .i64 a0_3) := (blk_cell BK3.out 3).trans rfl; have hfzb1_3 := blk_frozen BK3.out 3
  have hczb65_0 : w87.cell? ⟨gb66, 0, none⟩ = some (.slice A57 t43.length c58) := (blk_cell BK67.out 0).trans rfl; have hfzb65_0 := blk_frozen BK67.out 0; have hczb65_1 : w87.cell? ⟨gb66, 1, none⟩ = some (.slice A60 t44.length c61) := (blk_cell BK67.out 1).trans rfl; have hfzb65_1 := blk_frozen BK67.out 1; have hczb65_2 : w87.cell? ⟨gb66, 2, none⟩ = some (.slice A63 t45.length c64) := (blk_cell BK67.out 2).trans rfl; have hfzb65_2 := blk_frozen BK67.out 2; have hczb65_3 : w87.cell? ⟨gb66, 3, none⟩ = some (.int .i64 t46) := (blk_cell BK67.out 3).trans rfl; have hfzb65_3 := blk_frozen BK67.out 3
  refine start_ (n := 5) (S := fun w' => w'.cell? ⟨gb66, 0, none⟩ = some (.slice A57 t43.length c58) ∧ w'.cell? ⟨gb66, 1, none⟩ = some (.slice A60 t44.length c61) ∧ w'.cell? ⟨gb66, 2, none⟩ = some (.slice A63 t45.length c64) ∧ w'.cell? ⟨gb66, 3, none⟩ = some (.int .i64 t46) ∧ w'.cell? ⟨gb2, 0, none⟩ = some (.slice A0_0 l0_0.length c0_0) ∧ w'.cell? ⟨gb2, 1, none⟩ = some (.slice A0_1 l0_1.length c0_1) ∧ w'.cell? ⟨gb2, 2, none⟩ = some (.slice A0_2 l0_2.length c0_2) ∧ w'.cell? ⟨gb2, 3, none⟩ = some (.int .i64 a0_3)) (ds := []) #[false, false, false, false, false] (by kernel_rfl) rfl rfl (by rw [hw_]; exact ⟨(blk_cell BK67.out 0).trans rfl, (blk_cell BK67.out 1).trans rfl, (blk_cell BK67.out 2).trans rfl, (blk_cell BK67.out 3).trans rfl, (blk_cell BK3.out 0).trans rfl, (blk_cell BK3.out 1).trans rfl, (blk_cell BK3.out 2).trans rfl, (blk_cell BK3.out 3).trans rfl⟩) (fun hHeld => ?_)
  rw [hw_] at hHeld ⊢
  clear hw_ hb
  refine take_ (i := 0) (N := some 41) (v := ?_) (a' := ?_) #[true, false, false, false, false] rfl rfl (by kernel_rfl) (fun _ _ _ h => h) (Or.inl ⟨by rfl, ?_⟩) hHeld ?_ ?_
  rotate_left
  · rintro w' ⟨s0, s1, s2, s3, s4, s5, s6, s7⟩
    go_simp
    with_reducible rfl
  rotate_left
  · simp only [Act.put, List.setIfInBounds_toArray, List.set_cons_zero, List.set_cons_succ, i64_w, i32_w]
    rfl
  refine take_ (i := 1) (N := some 42) (v := ?_) (a' := ?_) #[true, true, false, false, false] rfl rfl (by kernel_rfl) (fun _ _ _ h => h) (Or.inl ⟨by rfl, ?_⟩) hHeld ?_ ?_
  rotate_left
  · rintro w' ⟨s0, s1, s2, s3, s4, s5, s6, s7⟩
    go_simp
    with_reducible rfl
  rotate_left
  · simp only [Act.put, List.setIfInBounds_toArray, List.set_cons_zero, List.set_cons_succ, i64_w, i32_w]
    rfl
  refine one_ (i := 2) (N := some 43) #[true, true, true, false, false] rfl rfl (by kernel_rfl) (by decide) (fun K hK => ?_)
  refine goes_ Try.func16 (by kernel_rfl) rfl #[.agg #[.slice A0_0 l0_0.length c0_0, .slice A0_1 l0_1.length c0_1, .slice A0_2 l0_2.length c0_2, .int .i64 a0_3]] (by rfl) rfl rfl (by (try simp only [List.map_toArray, List.map_cons, List.map_nil]); first | done | rfl | (simp only [List.length_drop, List.length_take]; rfl)) ?_
  refine (laws_toHeap.calls k _ _ l0_0 _ _ l0_1 _ _ l0_2 a0_3 t89 t90 t91 t92 _ (Kd.C_below HR0_0.out HB.out) HC0_0.out (Kd.C_below HR0_1.out HB.out) HC0_1.out (Kd.C_below HR0_2.out HB.out) HC0_2.out H93.out).mono ?_
  rintro e_ w94 ⟨v95, v96, v97, rfl, f98, f99, f100, hb⟩
  have hq_ : Below w87.heap.size w87 w94 := ⟨hb.os, hb.tape, hb.output, hb.size, hb.block⟩
  have HZ101 := Aside0.mk (show w87.heap.size ≤ w94.heap.size from hq_.size)
  have hn_ := Aside0.mk (below_then HB.out HB.out.size hq_)
  clear HB
  have HB := hn_
  clear hn_
  have hn_ := Aside0.mk (Kd.S_below F24.out hq_)
  clear F24
  have F24 := hn_
  clear hn_
  have hn_ := Aside0.mk (Kd.R_below F27.out hq_)
  clear F27
  have F27 := hn_
  clear hn_
  have hn_ := Aside0.mk (Kd.R_below F30.out hq_)
  clear F30
  have F30 := hn_
  clear hn_
  have hn_ := Aside0.mk (Kd.R_below F40.out hq_)
  clear F40
  have F40 := hn_
  clear hn_
  have hn_ := Aside0.mk (Kd.S_below F56.out hq_)
  clear F56
  have F56 := hn_
  clear hn_
  have hn_ := Aside0.mk (Kd.R_below F59.out hq_)
  clear F59
  have F59 := hn_
  clear hn_
  have hn_ := Aside0.mk (Kd.R_below F62.out hq_)
  clear F62
  have F62 := hn_
  clear hn_
  have hn_ := Aside0.mk (Kd.R_below F80.out hq_)
  clear F80
  have F80 := hn_
  clear hn_
  have hn_ := Aside0.mk (blk_below BK3.out hq_)
  clear hczb1_0 hfzb1_0; clear hczb1_1 hfzb1_1; clear hczb1_2 hfzb1_2; clear hczb1_3 hfzb1_3
  clear BK3
  have BK3 := hn_
  clear hn_
  have hn_ := Aside0.mk (blk_below BK67.out hq_)
  clear hczb65_0 hfzb65_0; clear hczb65_1 hfzb65_1; clear hczb65_2 hfzb65_2; clear hczb65_3 hfzb65_3
  clear BK67
  have BK67 := hn_
  clear hn_
  clear hq_
  have hczb1_0 : w94.cell? ⟨gb2, 0, none⟩ = some (.slice A0_0 l0_0.length c0_0) := (blk_cell BK3.out 0).trans rfl; have hfzb1_0 := blk_frozen BK3.out 0; have hczb1_1 : w94.cell? ⟨gb2, 1, none⟩ = some (.slice A0_1 l0_1.length c0_1) := (blk_cell BK3.out 1).trans rfl; have hfzb1_1 := blk_frozen BK3.out 1; have hczb1_2 : w94.cell? ⟨gb2, 2, none⟩ = some (.slice A0_2 l0_2.length c0_2) := (blk_cell BK3.out 2).trans rfl; have hfzb1_2 := blk_frozen BK3.out 2; have hczb1_3 : w94.cell? ⟨gb2, 3, none⟩ = some (.int .i64 a0_3) := (blk_cell BK3.out 3).trans rfl; have hfzb1_3 := blk_frozen BK3.out 3
  have hczb65_0 : w94.cell? ⟨gb66, 0, none⟩ = some (.slice A57 t43.length c58) := (blk_cell BK67.out 0).trans rfl; have hfzb65_0 := blk_frozen BK67.out 0; have hczb65_1 : w94.cell? ⟨gb66, 1, none⟩ = some (.slice A60 t44.length c61) := (blk_cell BK67.out 1).trans rfl; have hfzb65_1 := blk_frozen BK67.out 1; have hczb65_2 : w94.cell? ⟨gb66, 2, none⟩ = some (.slice A63 t45.length c64) := (blk_cell BK67.out 2).trans rfl; have hfzb65_2 := blk_frozen BK67.out 2; have hczb65_3 : w94.cell? ⟨gb66, 3, none⟩ = some (.int .i64 t46) := (blk_cell BK67.out 3).trans rfl; have hfzb65_3 := blk_frozen BK67.out 3
  clear hb
  refine ⟨_, rfl, ?_⟩
  have F102 := Aside0.mk (Lk.newS (b := w87.heap.size) (base := w.heap.size) (Sep := fun k_ => some k_ ≠ (v96 : Value).ownBlock ∧ some k_ ≠ (v97 : Value).ownBlock) f98 (by have := HZ6.out; have := HZ10.out; have := HZ23.out; have := HZ39.out; have := HZ55.out; have := HZ70.out; have := HZ72.out; have := HZ79.out; have := HZ86.out; have := HZ88.out; have := HZ101.out; omega) (fun k_ hk_ => hk_))
  clear f98
  have F105 := Aside0.mk (Lk.newR (b := w87.heap.size) (base := w.heap.size) (Sep := fun k_ => some k_ ≠ (v97 : Value).ownBlock) rfl f99 (by have := HZ6.out; have := HZ10.out; have := HZ23.out; have := HZ39.out; have := HZ55.out; have := HZ70.out; have := HZ72.out; have := HZ79.out; have := HZ86.out; have := HZ88.out; have := HZ101.out; omega) (fun k_ hk_ => hk_))
  clear f99
  have F108 := Aside0.mk (Lk.newR (b := w87.heap.size) (base := w.heap.size) (Sep := fun k_ => some k_ ≠ (v96 : Value).ownBlock) rfl f100 (by have := HZ6.out; have := HZ10.out; have := HZ23.out; have := HZ39.out; have := HZ55.out; have := HZ70.out; have := HZ72.out; have := HZ79.out; have := HZ86.out; have := HZ88.out; have := HZ101.out; omega) (fun k_ hk_ => hk_))
  clear f100
  obtain ⟨A103, c104, e_⟩ := Kd.S_slice F102.out
  subst e_
  obtain ⟨A106, c107, e_⟩ := Kd.R_slice F105.out
  subst e_
  obtain ⟨A109, c110, e_⟩ := Kd.R_slice F108.out
  subst e_
  refine hK.out _ _ ⟨(blk_cell BK67.out 0).trans rfl, (blk_cell BK67.out 1).trans rfl, (blk_cell BK67.out 2).trans rfl, (blk_cell BK67.out 3).trans rfl, (blk_cell BK3.out 0).trans rfl, (blk_cell BK3.out 1).trans rfl, (blk_cell BK3.out 2).trans rfl, (blk_cell BK3.out 3).trans rfl⟩ (fun hHeld => ?_)
  clear hK K
  refine norm_ (a' := ?_) ?_ ?_
  rotate_left
  · show Act.put _ (some 43) _ = _
    simp only [Act.put, List.setIfInBounds_toArray, List.set_cons_zero, List.set_cons_succ, i64_w, i32_w]
    rfl
  refine one_ (i := 3) (N := some 44) #[true, true, true, true, false] rfl rfl (by kernel_rfl) (by decide) (fun K hK => ?_)
  refine goes_ Try.func11 (by kernel_rfl) rfl #[.agg #[.slice A57 t43.length c58, .slice A60 t44.length c61, .slice A63 t45.length c64, .int .i64 t46], .agg #[.slice A103 t89.length c104, .slice A106 t90.length c107, .slice A109 t91.length c110, .int .i64 t92]] (by rfl) rfl rfl (by (try simp only [List.map_toArray, List.map_cons, List.map_nil]); first | done | rfl | (simp only [List.length_drop, List.length_take]; rfl)) ?_
  refine (laws_eqHeap.calls k _ _ t43 _ _ t44 _ _ t45 t46 _ _ t89 _ _ t90 _ _ t91 t92 true _ (Lk.Sr F56.out).2 (Lk.Sr F56.out).1 (Lk.Rr F59.out).2 (Lk.Rr F59.out).1 (Lk.Rr F62.out).2 (Lk.Rr F62.out).1 (Lk.Sr F102.out).2 (Lk.Sr F102.out).1 (Lk.Rr F105.out).2 (Lk.Rr F105.out).1 (Lk.Rr F108.out).2 (Lk.Rr F108.out).1 H112.out).mono ?_
  rintro e_ w113 ⟨rfl, hb⟩
  have hq_ : Below w94.heap.size w94 w113 := ⟨hb.os, hb.tape, hb.output, hb.size, hb.block⟩
  have HZ114 := Aside0.mk (show w94.heap.size ≤ w113.heap.size from hq_.size)
  have hn_ := Aside0.mk (below_then HB.out HB.out.size hq_)
  clear HB
  have HB := hn_
  clear hn_
  have hn_ := Aside0.mk (Kd.S_below F24.out hq_)
  clear F24
  have F24 := hn_
  clear hn_
  have hn_ := Aside0.mk (Kd.R_below F27.out hq_)
  clear F27
  have F27 := hn_
  clear hn_
  have hn_ := Aside0.mk (Kd.R_below F30.out hq_)
  clear F30
  have F30 := hn_
  clear hn_
  have hn_ := Aside0.mk (Kd.R_below F40.out hq_)
  clear F40
  have F40 := hn_
  clear hn_
  have hn_ := Aside0.mk (Kd.S_below F56.out hq_)
  clear F56
  have F56 := hn_
  clear hn_
  have hn_ := Aside0.mk (Kd.R_below F59.out hq_)
  clear F59
  have F59 := hn_
  clear hn_
  have hn_ := Aside0.mk (Kd.R_below F62.out hq_)
  clear F62
  have F62 := hn_
  clear hn_
  have hn_ := Aside0.mk (Kd.R_below F80.out hq_)
  clear F80
  have F80 := hn_
  clear hn_
  have hn_ := Aside0.mk (Kd.S_below F102.out hq_)
  clear F102
  have F102 := hn_
  clear hn_
  have hn_ := Aside0.mk (Kd.R_below F105.out hq_)
  clear F105
  have F105 := hn_
  clear hn_
  have hn_ := Aside0.mk (Kd.R_below F108.out hq_)
  clear F108
  have F108 := hn_
  clear hn_
  have hn_ := Aside0.mk (blk_below BK3.out hq_)
  clear hczb1_0 hfzb1_0; clear hczb1_1 hfzb1_1; clear hczb1_2 hfzb1_2; clear hczb1_3 hfzb1_3
  clear BK3
  have BK3 := hn_
  clear hn_
  have hn_ := Aside0.mk (blk_below BK67.out hq_)
  clear hczb65_0 hfzb65_0; clear hczb65_1 hfzb65_1; clear hczb65_2 hfzb65_2; clear hczb65_3 hfzb65_3
  clear BK67
  have BK67 := hn_
  clear hn_
  clear hq_
  have hczb1_0 : w113.cell? ⟨gb2, 0, none⟩ = some (.slice A0_0 l0_0.length c0_0) := (blk_cell BK3.out 0).trans rfl; have hfzb1_0 := blk_frozen BK3.out 0; have hczb1_1 : w113.cell? ⟨gb2, 1, none⟩ = some (.slice A0_1 l0_1.length c0_1) := (blk_cell BK3.out 1).trans rfl; have hfzb1_1 := blk_frozen BK3.out 1; have hczb1_2 : w113.cell? ⟨gb2, 2, none⟩ = some (.slice A0_2 l0_2.length c0_2) := (blk_cell BK3.out 2).trans rfl; have hfzb1_2 := blk_frozen BK3.out 2; have hczb1_3 : w113.cell? ⟨gb2, 3, none⟩ = some (.int .i64 a0_3) := (blk_cell BK3.out 3).trans rfl; have hfzb1_3 := blk_frozen BK3.out 3
  have hczb65_0 : w113.cell? ⟨gb66, 0, none⟩ = some (.slice A57 t43.length c58) := (blk_cell BK67.out 0).trans rfl; have hfzb65_0 := blk_frozen BK67.out 0; have hczb65_1 : w113.cell? ⟨gb66, 1, none⟩ = some (.slice A60 t44.length c61) := (blk_cell BK67.out 1).trans rfl; have hfzb65_1 := blk_frozen BK67.out 1; have hczb65_2 : w113.cell? ⟨gb66, 2, none⟩ = some (.slice A63 t45.length c64) := (blk_cell BK67.out 2).trans rfl; have hfzb65_2 := blk_frozen BK67.out 2; have hczb65_3 : w113.cell? ⟨gb66, 3, none⟩ = some (.int .i64 t46) := (blk_cell BK67.out 3).trans rfl; have hfzb65_3 := blk_frozen BK67.out 3
  clear hb
  refine ⟨_, rfl, ?_⟩
  refine hK.out _ _ ⟨(blk_cell BK67.out 0).trans rfl, (blk_cell BK67.out 1).trans rfl, (blk_cell BK67.out 2).trans rfl, (blk_cell BK67.out 3).trans rfl, (blk_cell BK3.out 0).trans rfl, (blk_cell BK3.out 1).trans rfl, (blk_cell BK3.out 2).trans rfl, (blk_cell BK3.out 3).trans rfl⟩ (fun hHeld => ?_)
  clear hK K
  refine norm_ (a' := ?_) ?_ ?_
  rotate_left
  · show Act.put _ (some 44) _ = _
    simp only [Act.put, List.setIfInBounds_toArray, List.set_cons_zero, List.set_cons_succ, i64_w, i32_w]
    rfl
  refine pure_ (i := 4) (N := some 45) (v := ?_) (a' := ?_) #[true, true, true, true, true] rfl rfl (by kernel_rfl) (fun _ _ _ h => h) (Or.inl ⟨by rfl, ?_⟩) ?_ ?_
  rotate_left
  · intro w'
    go_simp
    with_reducible rfl
  rotate_left
  · simp only [Act.put, List.setIfInBounds_toArray, List.set_cons_zero, List.set_cons_succ, i64_w, i32_w]
    rfl
  refine done_ (by kernel_rfl) ?_
  go_wp2_with fail
  have hn_ := H116.out
  refine (laws_markHeap.calls (fun k_ => w36.heap.size ≤ k_ ∧ k_ < w48.heap.size) _ t43 _ t44 _ t45 t46 1 w _ HB.out F56.out F59.out F62.out (by omega) hn_).mono ?_
  rintro e_ w115 ⟨rfl, f0_, f1_, f2_, hb0_, hk_⟩
  have hk2_ : Kept w113 w115 (fun k_ => w36.heap.size ≤ k_ ∧ k_ < w48.heap.size) := Kept.mono hk_ (fun k_ h_ => by first | exact h_ | exact h_.1)
  have HZ117 := Aside0.mk (show w113.heap.size ≤ w115.heap.size from hk2_.1)
  clear HB
  have HB := Aside0.mk hb0_
  have hn_ := Aside0.mk (Kd.S_kept F24.out hk2_ (fun k_ h1_ h2_ => by have := HZ6.out; have := HZ10.out; have := HZ23.out; have := HZ39.out; have := HZ55.out; have := HZ70.out; have := HZ72.out; have := HZ79.out; have := HZ86.out; have := HZ88.out; have := HZ101.out; have := HZ114.out; have h3_ := h1_.1; omega))
  clear F24
  have F24 := hn_
  clear hn_
  have hn_ := Aside0.mk (Kd.R_kept F27.out hk2_ (fun k_ h1_ h2_ => by have := HZ6.out; have := HZ10.out; have := HZ23.out; have := HZ39.out; have := HZ55.out; have := HZ70.out; have := HZ72.out; have := HZ79.out; have := HZ86.out; have := HZ88.out; have := HZ101.out; have := HZ114.out; have h3_ := h1_.1; omega))
  clear F27
  have F27 := hn_
  clear hn_
  have hn_ := Aside0.mk (Kd.R_kept F30.out hk2_ (fun k_ h1_ h2_ => by have := HZ6.out; have := HZ10.out; have := HZ23.out; have := HZ39.out; have := HZ55.out; have := HZ70.out; have := HZ72.out; have := HZ79.out; have := HZ86.out; have := HZ88.out; have := HZ101.out; have := HZ114.out; have h3_ := h1_.1; omega))
  clear F30
  have F30 := hn_
  clear hn_
  have hn_ := Aside0.mk (Kd.R_kept F40.out hk2_ (fun k_ h1_ h2_ => by have := HZ6.out; have := HZ10.out; have := HZ23.out; have := HZ39.out; have := HZ55.out; have := HZ70.out; have := HZ72.out; have := HZ79.out; have := HZ86.out; have := HZ88.out; have := HZ101.out; have := HZ114.out; have h3_ := h1_.1; omega))
  clear F40
  have F40 := hn_
  clear hn_
  have hn_ := Aside0.mk (Kd.R_kept F80.out hk2_ (fun k_ h1_ h2_ => by have := HZ6.out; have := HZ10.out; have := HZ23.out; have := HZ39.out; have := HZ55.out; have := HZ70.out; have := HZ72.out; have := HZ79.out; have := HZ86.out; have := HZ88.out; have := HZ101.out; have := HZ114.out; have h3_ := h1_.1; omega))
  clear F80
  have F80 := hn_
  clear hn_
  have hn_ := Aside0.mk (Kd.S_kept F102.out hk2_ (fun k_ h1_ h2_ => by have := HZ6.out; have := HZ10.out; have := HZ23.out; have := HZ39.out; have := HZ55.out; have := HZ70.out; have := HZ72.out; have := HZ79.out; have := HZ86.out; have := HZ88.out; have := HZ101.out; have := HZ114.out; have h3_ := h1_.1; omega))
  clear F102
  have F102 := hn_
  clear hn_
  have hn_ := Aside0.mk (Kd.R_kept F105.out hk2_ (fun k_ h1_ h2_ => by have := HZ6.out; have := HZ10.out; have := HZ23.out; have := HZ39.out; have := HZ55.out; have := HZ70.out; have := HZ72.out; have := HZ79.out; have := HZ86.out; have := HZ88.out; have := HZ101.out; have := HZ114.out; have h3_ := h1_.1; omega))
  clear F105
  have F105 := hn_
  clear hn_
  have hn_ := Aside0.mk (Kd.R_kept F108.out hk2_ (fun k_ h1_ h2_ => by have := HZ6.out; have := HZ10.out; have := HZ23.out; have := HZ39.out; have := HZ55.out; have := HZ70.out; have := HZ72.out; have := HZ79.out; have := HZ86.out; have := HZ88.out; have := HZ101.out; have := HZ114.out; have h3_ := h1_.1; omega))
  clear F108
  have F108 := hn_
  clear hn_
  have hn_ := Aside0.mk (f0_)
  have F56n := hn_
  clear hn_
  have hn_ := Aside0.mk (f1_)
  have F59n := hn_
  clear hn_
  have hn_ := Aside0.mk (f2_)
  have F62n := hn_
  clear hn_
  clear F56
  have F56 := F56n
  clear F56n
  clear F59
  have F59 := F59n
  clear F59n
  clear F62
  have F62 := F62n
  clear F62n
  have hn_ := Aside0.mk (blk_kept BK3.out hk2_ (fun h_ => by have := HZ6.out; have := HZ10.out; have := HZ23.out; have := HZ39.out; have := HZ55.out; have := HZ70.out; have := HZ72.out; have := HZ79.out; have := HZ86.out; have := HZ88.out; have := HZ101.out; have := HZ114.out; have := GQ4.out; omega))
  clear hczb1_0 hfzb1_0; clear hczb1_1 hfzb1_1; clear hczb1_2 hfzb1_2; clear hczb1_3 hfzb1_3
  clear BK3
  have BK3 := hn_
  clear hn_
  have hn_ := Aside0.mk (blk_kept BK67.out hk2_ (fun h_ => by have := HZ6.out; have := HZ10.out; have := HZ23.out; have := HZ39.out; have := HZ55.out; have := HZ70.out; have := HZ72.out; have := HZ79.out; have := HZ86.out; have := HZ88.out; have := HZ101.out; have := HZ114.out; have := GQ68.out; omega))
  clear hczb65_0 hfzb65_0; clear hczb65_1 hfzb65_1; clear hczb65_2 hfzb65_2; clear hczb65_3 hfzb65_3
  clear BK67
  have BK67 := hn_
  clear hn_
  clear hk2_ hk_ hb0_ f0_ f1_ f2_
  have hczb1_0 : w115.cell? ⟨gb2, 0, none⟩ = some (.slice A0_0 l0_0.length c0_0) := (blk_cell BK3.out 0).trans rfl; have hfzb1_0 := blk_frozen BK3.out 0; have hczb1_1 : w115.cell? ⟨gb2, 1, none⟩ = some (.slice A0_1 l0_1.length c0_1) := (blk_cell BK3.out 1).trans rfl; have hfzb1_1 := blk_frozen BK3.out 1; have hczb1_2 : w115.cell? ⟨gb2, 2, none⟩ = some (.slice A0_2 l0_2.length c0_2) := (blk_cell BK3.out 2).trans rfl; have hfzb1_2 := blk_frozen BK3.out 2; have hczb1_3 : w115.cell? ⟨gb2, 3, none⟩ = some (.int .i64 a0_3) := (blk_cell BK3.out 3).trans rfl; have hfzb1_3 := blk_frozen BK3.out 3
  have hczb65_0 : w115.cell? ⟨gb66, 0, none⟩ = some (.slice A57 t43.length c58) := (blk_cell BK67.out 0).trans rfl; have hfzb65_0 := blk_frozen BK67.out 0; have hczb65_1 : w115.cell? ⟨gb66, 1, none⟩ = some (.slice A60 t44.length c61) := (blk_cell BK67.out 1).trans rfl; have hfzb65_1 := blk_frozen BK67.out 1; have hczb65_2 : w115.cell? ⟨gb66, 2, none⟩ = some (.slice A63 t45.length c64) := (blk_cell BK67.out 2).trans rfl; have hfzb65_2 := blk_frozen BK67.out 2; have hczb65_3 : w115.cell? ⟨gb66, 3, none⟩ = some (.int .i64 t46) := (blk_cell BK67.out 3).trans rfl; have hfzb65_3 := blk_frozen BK67.out 3
  have hl118 := (Kd.S_reads' F56.out).1
  have HL118 := Aside0.mk hl118
  clear hl118
  have hl119 := (Kd.R_reads' F59.out).1
  have HL119 := Aside0.mk hl119
  clear hl119
  have hl120 := (Kd.R_reads' F62.out).1
  have HL120 := Aside0.mk hl120
  clear hl120
  have hn1_ : decide ((1 + (markObjectS_cnt t43 : Nat) + (t44.length : Nat) + (t45.length : Nat) : Int) < 0) = false := decide_eq_false (by omega)
  have hd121 := hn1_
  clear hn1_
  go_wp2_with fail
  refine (laws_eqIntS.calls k _ _ t73 _ _ t33 true _ (Lk.Rr F80.out).2 (Lk.Rr F80.out).1 (Lk.Rr F40.out).2 (Lk.Rr F40.out).1 H123.out).mono ?_
  rintro e_ w124 ⟨rfl, ⟨nd_, hd_⟩⟩
  have hb : Below w115.heap.size w115 w124 := by rw [hd_]; exact pw_below_drewN (Below.refl _ _) nd_
  clear hd_
  have hq_ : Below w115.heap.size w115 w124 := ⟨hb.os, hb.tape, hb.output, hb.size, hb.block⟩
  have HZ125 := Aside0.mk (show w115.heap.size ≤ w124.heap.size from hq_.size)
  have hn_ := Aside0.mk (below_then HB.out HB.out.size hq_)
  clear HB
  have HB := hn_
  clear hn_
  have hn_ := Aside0.mk (Kd.S_below F24.out hq_)
  clear F24
  have F24 := hn_
  clear hn_
  have hn_ := Aside0.mk (Kd.R_below F27.out hq_)
  clear F27
  have F27 := hn_
  clear hn_
  have hn_ := Aside0.mk (Kd.R_below F30.out hq_)
  clear F30
  have F30 := hn_
  clear hn_
  have hn_ := Aside0.mk (Kd.R_below F40.out hq_)
  clear F40
  have F40 := hn_
  clear hn_
  have hn_ := Aside0.mk (Kd.S_below F56.out hq_)
  clear F56
  have F56 := hn_
  clear hn_
  have hn_ := Aside0.mk (Kd.R_below F59.out hq_)
  clear F59
  have F59 := hn_
  clear hn_
  have hn_ := Aside0.mk (Kd.R_below F62.out hq_)
  clear F62
  have F62 := hn_
  clear hn_
  have hn_ := Aside0.mk (Kd.R_below F80.out hq_)
  clear F80
  have F80 := hn_
  clear hn_
  have hn_ := Aside0.mk (Kd.S_below F102.out hq_)
  clear F102
  have F102 := hn_
  clear hn_
  have hn_ := Aside0.mk (Kd.R_below F105.out hq_)
  clear F105
  have F105 := hn_
  clear hn_
  have hn_ := Aside0.mk (Kd.R_below F108.out hq_)
  clear F108
  have F108 := hn_
  clear hn_
  have hn_ := Aside0.mk (blk_below BK3.out hq_)
  clear hczb1_0 hfzb1_0; clear hczb1_1 hfzb1_1; clear hczb1_2 hfzb1_2; clear hczb1_3 hfzb1_3
  clear BK3
  have BK3 := hn_
  clear hn_
  have hn_ := Aside0.mk (blk_below BK67.out hq_)
  clear hczb65_0 hfzb65_0; clear hczb65_1 hfzb65_1; clear hczb65_2 hfzb65_2; clear hczb65_3 hfzb65_3
  clear BK67
  have BK67 := hn_
  clear hn_
  clear hq_
  have hczb1_0 : w124.cell? ⟨gb2, 0, none⟩ = some (.slice A0_0 l0_0.length c0_0) := (blk_cell BK3.out 0).trans rfl; have hfzb1_0 := blk_frozen BK3.out 0; have hczb1_1 : w124.cell? ⟨gb2, 1, none⟩ = some (.slice A0_1 l0_1.length c0_1) := (blk_cell BK3.out 1).trans rfl; have hfzb1_1 := blk_frozen BK3.out 1; have hczb1_2 : w124.cell? ⟨gb2, 2, none⟩ = some (.slice A0_2 l0_2.length c0_2) := (blk_cell BK3.out 2).trans rfl; have hfzb1_2 := blk_frozen BK3.out 2; have hczb1_3 : w124.cell? ⟨gb2, 3, none⟩ = some (.int .i64 a0_3) := (blk_cell BK3.out 3).trans rfl; have hfzb1_3 := blk_frozen BK3.out 3
  have hczb65_0 : w124.cell? ⟨gb66, 0, none⟩ = some (.slice A57 t43.length c58) := (blk_cell BK67.out 0).trans rfl; have hfzb65_0 := blk_frozen BK67.out 0; have hczb65_1 : w124.cell? ⟨gb66, 1, none⟩ = some (.slice A60 t44.length c61) := (blk_cell BK67.out 1).trans rfl; have hfzb65_1 := blk_frozen BK67.out 1; have hczb65_2 : w124.cell? ⟨gb66, 2, none⟩ = some (.slice A63 t45.length c64) := (blk_cell BK67.out 2).trans rfl; have hfzb65_2 := blk_frozen BK67.out 2; have hczb65_3 : w124.cell? ⟨gb66, 3, none⟩ = some (.int .i64 t46) := (blk_cell BK67.out 3).trans rfl; have hfzb65_3 := blk_frozen BK67.out 3
  clear hb
  go_wp2_with fail
  refine (laws_markIntS.calls k (fun k_ => (w71.heap.size ≤ k_ ∧ k_ < w76.heap.size) ∧ some k_ = (.slice A81 t73.length c82 : Value).ownBlock ∧ (True)) _ t73 1 t127 t128 w _ HB.out F80.out H129.out).mono ?_
  rintro e_ w126 ⟨rfl, f0_, hb0_, hk_⟩
  have hk2_ : Kept w124 w126 (fun k_ => w71.heap.size ≤ k_ ∧ k_ < w76.heap.size) := Kept.mono hk_ (fun k_ h_ => by first | exact h_ | exact h_.1)
  have HZ131 := Aside0.mk (show w124.heap.size ≤ w126.heap.size from hk2_.1)
  clear HB
  have HB := Aside0.mk hb0_
  have hn_ := Aside0.mk (Kd.S_kept F24.out hk2_ (fun k_ h1_ h2_ => by have := HZ6.out; have := HZ10.out; have := HZ23.out; have := HZ39.out; have := HZ55.out; have := HZ70.out; have := HZ72.out; have := HZ79.out; have := HZ86.out; have := HZ88.out; have := HZ101.out; have := HZ114.out; have := HZ117.out; have := HZ125.out; have h3_ := h1_.1; omega))
  clear F24
  have F24 := hn_
  clear hn_
  have hn_ := Aside0.mk (Kd.R_kept F27.out hk2_ (fun k_ h1_ h2_ => by have := HZ6.out; have := HZ10.out; have := HZ23.out; have := HZ39.out; have := HZ55.out; have := HZ70.out; have := HZ72.out; have := HZ79.out; have := HZ86.out; have := HZ88.out; have := HZ101.out; have := HZ114.out; have := HZ117.out; have := HZ125.out; have h3_ := h1_.1; omega))
  clear F27
  have F27 := hn_
  clear hn_
  have hn_ := Aside0.mk (Kd.R_kept F30.out hk2_ (fun k_ h1_ h2_ => by have := HZ6.out; have := HZ10.out; have := HZ23.out; have := HZ39.out; have := HZ55.out; have := HZ70.out; have := HZ72.out; have := HZ79.out; have := HZ86.out; have := HZ88.out; have := HZ101.out; have := HZ114.out; have := HZ117.out; have := HZ125.out; have h3_ := h1_.1; omega))
  clear F30
  have F30 := hn_
  clear hn_
  have hn_ := Aside0.mk (Kd.R_kept F40.out hk2_ (fun k_ h1_ h2_ => by have := HZ6.out; have := HZ10.out; have := HZ23.out; have := HZ39.out; have := HZ55.out; have := HZ70.out; have := HZ72.out; have := HZ79.out; have := HZ86.out; have := HZ88.out; have := HZ101.out; have := HZ114.out; have := HZ117.out; have := HZ125.out; have h3_ := h1_.1; omega))
  clear F40
  have F40 := hn_
  clear hn_
  have hn_ := Aside0.mk (Kd.S_kept F56.out hk2_ (fun k_ h1_ h2_ => by have := HZ6.out; have := HZ10.out; have := HZ23.out; have := HZ39.out; have := HZ55.out; have := HZ70.out; have := HZ72.out; have := HZ79.out; have := HZ86.out; have := HZ88.out; have := HZ101.out; have := HZ114.out; have := HZ117.out; have := HZ125.out; have h3_ := h1_.1; omega))
  clear F56
  have F56 := hn_
  clear hn_
  have hn_ := Aside0.mk (Kd.R_kept F59.out hk2_ (fun k_ h1_ h2_ => by have := HZ6.out; have := HZ10.out; have := HZ23.out; have := HZ39.out; have := HZ55.out; have := HZ70.out; have := HZ72.out; have := HZ79.out; have := HZ86.out; have := HZ88.out; have := HZ101.out; have := HZ114.out; have := HZ117.out; have := HZ125.out; have h3_ := h1_.1; omega))
  clear F59
  have F59 := hn_
  clear hn_
  have hn_ := Aside0.mk (Kd.R_kept F62.out hk2_ (fun k_ h1_ h2_ => by have := HZ6.out; have := HZ10.out; have := HZ23.out; have := HZ39.out; have := HZ55.out; have := HZ70.out; have := HZ72.out; have := HZ79.out; have := HZ86.out; have := HZ88.out; have := HZ101.out; have := HZ114.out; have := HZ117.out; have := HZ125.out; have h3_ := h1_.1; omega))
  clear F62
  have F62 := hn_
  clear hn_
  have hn_ := Aside0.mk (Kd.S_kept F102.out hk2_ (fun k_ h1_ h2_ => by have := HZ6.out; have := HZ10.out; have := HZ23.out; have := HZ39.out; have := HZ55.out; have := HZ70.out; have := HZ72.out; have := HZ79.out; have := HZ86.out; have := HZ88.out; have := HZ101.out; have := HZ114.out; have := HZ117.out; have := HZ125.out; have h3_ := h1_.1; omega))
  clear F102
  have F102 := hn_
  clear hn_
  have hn_ := Aside0.mk (Kd.R_kept F105.out hk2_ (fun k_ h1_ h2_ => by have := HZ6.out; have := HZ10.out; have := HZ23.out; have := HZ39.out; have := HZ55.out; have := HZ70.out; have := HZ72.out; have := HZ79.out; have := HZ86.out; have := HZ88.out; have := HZ101.out; have := HZ114.out; have := HZ117.out; have := HZ125.out; have h3_ := h1_.1; omega))
  clear F105
  have F105 := hn_
  clear hn_
  have hn_ := Aside0.mk (Kd.R_kept F108.out hk2_ (fun k_ h1_ h2_ => by have := HZ6.out; have := HZ10.out; have := HZ23.out; have := HZ39.out; have := HZ55.out; have := HZ70.out; have := HZ72.out; have := HZ79.out; have := HZ86.out; have := HZ88.out; have := HZ101.out; have := HZ114.out; have := HZ117.out; have := HZ125.out; have h3_ := h1_.1; omega))
  clear F108
  have F108 := hn_
  clear hn_
  have hn_ := Aside0.mk (Lk.markedR rfl f0_ (fun k_ e_ => (show (w71.heap.size ≤ k_ ∧ k_ < w76.heap.size) ∧ some k_ = (.slice A81 t73.length c82 : Value).ownBlock ∧ (True) from (F80.out.1 k_ e_.symm))))
  have F80n := hn_
  clear hn_
  clear F80
  have F80 := F80n
  clear F80n
  have hn_ := Aside0.mk (blk_kept BK3.out hk2_ (fun h_ => by have := HZ6.out; have := HZ10.out; have := HZ23.out; have := HZ39.out; have := HZ55.out; have := HZ70.out; have := HZ72.out; have := HZ79.out; have := HZ86.out; have := HZ88.out; have := HZ101.out; have := HZ114.out; have := HZ117.out; have := HZ125.out; have := GQ4.out; omega))
  clear hczb1_0 hfzb1_0; clear hczb1_1 hfzb1_1; clear hczb1_2 hfzb1_2; clear hczb1_3 hfzb1_3
  clear BK3
  have BK3 := hn_
  clear hn_
  have hn_ := Aside0.mk (blk_kept BK67.out hk2_ (fun h_ => by have := HZ6.out; have := HZ10.out; have := HZ23.out; have := HZ39.out; have := HZ55.out; have := HZ70.out; have := HZ72.out; have := HZ79.out; have := HZ86.out; have := HZ88.out; have := HZ101.out; have := HZ114.out; have := HZ117.out; have := HZ125.out; have := GQ68.out; omega))
  clear hczb65_0 hfzb65_0; clear hczb65_1 hfzb65_1; clear hczb65_2 hfzb65_2; clear hczb65_3 hfzb65_3
  clear BK67
  have BK67 := hn_
  clear hn_
  clear hk2_ hk_ hb0_ f0_
  have hczb1_0 : w126.cell? ⟨gb2, 0, none⟩ = some (.slice A0_0 l0_0.length c0_0) := (blk_cell BK3.out 0).trans rfl; have hfzb1_0 := blk_frozen BK3.out 0; have hczb1_1 : w126.cell? ⟨gb2, 1, none⟩ = some (.slice A0_1 l0_1.length c0_1) := (blk_cell BK3.out 1).trans rfl; have hfzb1_1 := blk_frozen BK3.out 1; have hczb1_2 : w126.cell? ⟨gb2, 2, none⟩ = some (.slice A0_2 l0_2.length c0_2) := (blk_cell BK3.out 2).trans rfl; have hfzb1_2 := blk_frozen BK3.out 2; have hczb1_3 : w126.cell? ⟨gb2, 3, none⟩ = some (.int .i64 a0_3) := (blk_cell BK3.out 3).trans rfl; have hfzb1_3 := blk_frozen BK3.out 3
  have hczb65_0 : w126.cell? ⟨gb66, 0, none⟩ = some (.slice A57 t43.length c58) := (blk_cell BK67.out 0).trans rfl; have hfzb65_0 := blk_frozen BK67.out 0; have hczb65_1 : w126.cell? ⟨gb66, 1, none⟩ = some (.slice A60 t44.length c61) := (blk_cell BK67.out 1).trans rfl; have hfzb65_1 := blk_frozen BK67.out 1; have hczb65_2 : w126.cell? ⟨gb66, 2, none⟩ = some (.slice A63 t45.length c64) := (blk_cell BK67.out 2).trans rfl; have hfzb65_2 := blk_frozen BK67.out 2; have hczb65_3 : w126.cell? ⟨gb66, 3, none⟩ = some (.int .i64 t46) := (blk_cell BK67.out 3).trans rfl; have hfzb65_3 := blk_frozen BK67.out 3
  have hl132 := (Kd.R_reads' F80.out).1
  have HL132 := Aside0.mk hl132
  clear hl132
  have hn1_ : decide (t127 < 0) = false := decide_eq_false (by have := H130.out; omega)
  have hd133 := hn1_
  clear hn1_
  go_wp2_with fail
  have hc_ := laws_heldIntS.calls k _ _ t128 1 t127 _ (Lk.Rr F80.out).2 (Lk.Rr F80.out).1 H135.out
  simp only [← HL132.out] at hc_
  refine hc_.mono ?_
  clear hc_
  rintro e_ w136 ⟨rfl, ⟨nd_, hd_⟩⟩
  have hb : Below w126.heap.size w126 w136 := by rw [hd_]; exact pw_below_drewN (Below.refl _ _) nd_
  clear hd_
  have hq_ : Below w126.heap.size w126 w136 := ⟨hb.os, hb.tape, hb.output, hb.size, hb.block⟩
  have HZ137 := Aside0.mk (show w126.heap.size ≤ w136.heap.size from hq_.size)
  have hn_ := Aside0.mk (below_then HB.out HB.out.size hq_)
  clear HB
  have HB := hn_
  clear hn_
  have hn_ := Aside0.mk (Kd.S_below F24.out hq_)
  clear F24
  have F24 := hn_
  clear hn_
  have hn_ := Aside0.mk (Kd.R_below F27.out hq_)
  clear F27
  have F27 := hn_
  clear hn_
  have hn_ := Aside0.mk (Kd.R_below F30.out hq_)
  clear F30
  have F30 := hn_
  clear hn_
  have hn_ := Aside0.mk (Kd.R_below F40.out hq_)
  clear F40
  have F40 := hn_
  clear hn_
  have hn_ := Aside0.mk (Kd.S_below F56.out hq_)
  clear F56
  have F56 := hn_
  clear hn_
  have hn_ := Aside0.mk (Kd.R_below F59.out hq_)
  clear F59
  have F59 := hn_
  clear hn_
  have hn_ := Aside0.mk (Kd.R_below F62.out hq_)
  clear F62
  have F62 := hn_
  clear hn_
  have hn_ := Aside0.mk (Kd.R_below F80.out hq_)
  clear F80
  have F80 := hn_
  clear hn_
  have hn_ := Aside0.mk (Kd.S_below F102.out hq_)
  clear F102
  have F102 := hn_
  clear hn_
  have hn_ := Aside0.mk (Kd.R_below F105.out hq_)
  clear F105
  have F105 := hn_
  clear hn_
  have hn_ := Aside0.mk (Kd.R_below F108.out hq_)
  clear F108
  have F108 := hn_
  clear hn_
  have hn_ := Aside0.mk (blk_below BK3.out hq_)
  clear hczb1_0 hfzb1_0; clear hczb1_1 hfzb1_1; clear hczb1_2 hfzb1_2; clear hczb1_3 hfzb1_3
  clear BK3
  have BK3 := hn_
  clear hn_
  have hn_ := Aside0.mk (blk_below BK67.out hq_)
  clear hczb65_0 hfzb65_0; clear hczb65_1 hfzb65_1; clear hczb65_2 hfzb65_2; clear hczb65_3 hfzb65_3
  clear BK67
  have BK67 := hn_
  clear hn_
  clear hq_
  have hczb1_0 : w136.cell? ⟨gb2, 0, none⟩ = some (.slice A0_0 l0_0.length c0_0) := (blk_cell BK3.out 0).trans rfl; have hfzb1_0 := blk_frozen BK3.out 0; have hczb1_1 : w136.cell? ⟨gb2, 1, none⟩ = some (.slice A0_1 l0_1.length c0_1) := (blk_cell BK3.out 1).trans rfl; have hfzb1_1 := blk_frozen BK3.out 1; have hczb1_2 : w136.cell? ⟨gb2, 2, none⟩ = some (.slice A0_2 l0_2.length c0_2) := (blk_cell BK3.out 2).trans rfl; have hfzb1_2 := blk_frozen BK3.out 2; have hczb1_3 : w136.cell? ⟨gb2, 3, none⟩ = some (.int .i64 a0_3) := (blk_cell BK3.out 3).trans rfl; have hfzb1_3 := blk_frozen BK3.out 3
  have hczb65_0 : w136.cell? ⟨gb66, 0, none⟩ = some (.slice A57 t43.length c58) := (blk_cell BK67.out 0).trans rfl; have hfzb65_0 := blk_frozen BK67.out 0; have hczb65_1 : w136.cell? ⟨gb66, 1, none⟩ = some (.slice A60 t44.length c61) := (blk_cell BK67.out 1).trans rfl; have hfzb65_1 := blk_frozen BK67.out 1; have hczb65_2 : w136.cell? ⟨gb66, 2, none⟩ = some (.slice A63 t45.length c64) := (blk_cell BK67.out 2).trans rfl; have hfzb65_2 := blk_frozen BK67.out 2; have hczb65_3 : w136.cell? ⟨gb66, 3, none⟩ = some (.int .i64 t46) := (blk_cell BK67.out 3).trans rfl; have hfzb65_3 := blk_frozen BK67.out 3
  clear hb
  go_wp2_with fail
  refine (laws_toHeap.calls k _ _ l0_0 _ _ l0_1 _ _ l0_2 a0_3 t138 t139 t140 t141 _ (Kd.C_below HR0_0.out HB.out) HC0_0.out (Kd.C_below HR0_1.out HB.out) HC0_1.out (Kd.C_below HR0_2.out HB.out) HC0_2.out H142.out).mono ?_
  rintro e_ w143 ⟨v144, v145, v146, rfl, f147, f148, f149, hb⟩
  have hq_ : Below w136.heap.size w136 w143 := ⟨hb.os, hb.tape, hb.output, hb.size, hb.block⟩
  have HZ150 := Aside0.mk (show w136.heap.size ≤ w143.heap.size from hq_.size)
  have hn_ := Aside0.mk (below_then HB.out HB.out.size hq_)
  clear HB
  have HB := hn_
  clear hn_
  have hn_ := Aside0.mk (Kd.S_below F24.out hq_)
  clear F24
  have F24 := hn_
  clear hn_
  have hn_ := Aside0.mk (Kd.R_below F27.out hq_)
  clear F27
  have F27 := hn_
  clear hn_
  have hn_ := Aside0.mk (Kd.R_below F30.out hq_)
  clear F30
  have F30 := hn_
  clear hn_
  have hn_ := Aside0.mk (Kd.R_below F40.out hq_)
  clear F40
  have F40 := hn_
  clear hn_
  have hn_ := Aside0.mk (Kd.S_below F56.out hq_)
  clear F56
  have F56 := hn_
  clear hn_
  have hn_ := Aside0.mk (Kd.R_below F59.out hq_)
  clear F59
  have F59 := hn_
  clear hn_
  have hn_ := Aside0.mk (Kd.R_below F62.out hq_)
  clear F62
  have F62 := hn_
  clear hn_
  have hn_ := Aside0.mk (Kd.R_below F80.out hq_)
  clear F80
  have F80 := hn_
  clear hn_
  have hn_ := Aside0.mk (Kd.S_below F102.out hq_)
  clear F102
  have F102 := hn_
  clear hn_
  have hn_ := Aside0.mk (Kd.R_below F105.out hq_)
  clear F105
  have F105 := hn_
  clear hn_
  have hn_ := Aside0.mk (Kd.R_below F108.out hq_)
  clear F108
  have F108 := hn_
  clear hn_
  have hn_ := Aside0.mk (blk_below BK3.out hq_)
  clear hczb1_0 hfzb1_0; clear hczb1_1 hfzb1_1; clear hczb1_2 hfzb1_2; clear hczb1_3 hfzb1_3
  clear BK3
  have BK3 := hn_
  clear hn_
  have hn_ := Aside0.mk (blk_below BK67.out hq_)
  clear hczb65_0 hfzb65_0; clear hczb65_1 hfzb65_1; clear hczb65_2 hfzb65_2; clear hczb65_3 hfzb65_3
  clear BK67
  have BK67 := hn_
  clear hn_
  clear hq_
  have hczb1_0 : w143.cell? ⟨gb2, 0, none⟩ = some (.slice A0_0 l0_0.length c0_0) := (blk_cell BK3.out 0).trans rfl; have hfzb1_0 := blk_frozen BK3.out 0; have hczb1_1 : w143.cell? ⟨gb2, 1, none⟩ = some (.slice A0_1 l0_1.length c0_1) := (blk_cell BK3.out 1).trans rfl; have hfzb1_1 := blk_frozen BK3.out 1; have hczb1_2 : w143.cell? ⟨gb2, 2, none⟩ = some (.slice A0_2 l0_2.length c0_2) := (blk_cell BK3.out 2).trans rfl; have hfzb1_2 := blk_frozen BK3.out 2; have hczb1_3 : w143.cell? ⟨gb2, 3, none⟩ = some (.int .i64 a0_3) := (blk_cell BK3.out 3).trans rfl; have hfzb1_3 := blk_frozen BK3.out 3
  have hczb65_0 : w143.cell? ⟨gb66, 0, none⟩ = some (.slice A57 t43.length c58) := (blk_cell BK67.out 0).trans rfl; have hfzb65_0 := blk_frozen BK67.out 0; have hczb65_1 : w143.cell? ⟨gb66, 1, none⟩ = some (.slice A60 t44.length c61) := (blk_cell BK67.out 1).trans rfl; have hfzb65_1 := blk_frozen BK67.out 1; have hczb65_2 : w143.cell? ⟨gb66, 2, none⟩ = some (.slice A63 t45.length c64) := (blk_cell BK67.out 2).trans rfl; have hfzb65_2 := blk_frozen BK67.out 2; have hczb65_3 : w143.cell? ⟨gb66, 3, none⟩ = some (.int .i64 t46) := (blk_cell BK67.out 3).trans rfl; have hfzb65_3 := blk_frozen BK67.out 3
  clear hb
  have F151 := Aside0.mk (Lk.newS (b := w136.heap.size) (base := w.heap.size) (Sep := fun k_ => some k_ ≠ (v145 : Value).ownBlock ∧ some k_ ≠ (v146 : Value).ownBlock) f147 (by have := HZ6.out; have := HZ10.out; have := HZ23.out; have := HZ39.out; have := HZ55.out; have := HZ70.out; have := HZ72.out; have := HZ79.out; have := HZ86.out; have := HZ88.out; have := HZ101.out; have := HZ114.out; have := HZ117.out; have := HZ125.out; have := HZ131.out; have := HZ137.out; have := HZ150.out; omega) (fun k_ hk_ => hk_))
  clear f147
  have F154 := Aside0.mk (Lk.newR (b := w136.heap.size) (base := w.heap.size) (Sep := fun k_ => some k_ ≠ (v146 : Value).ownBlock) rfl f148 (by have := HZ6.out; have := HZ10.out; have := HZ23.out; have := HZ39.out; have := HZ55.out; have := HZ70.out; have := HZ72.out; have := HZ79.out; have := HZ86.out; have := HZ88.out; have := HZ101.out; have := HZ114.out; have := HZ117.out; have := HZ125.out; have := HZ131.out; have := HZ137.out; have := HZ150.out; omega) (fun k_ hk_ => hk_))
  clear f148
  have F157 := Aside0.mk (Lk.newR (b := w136.heap.size) (base := w.heap.size) (Sep := fun k_ => some k_ ≠ (v145 : Value).ownBlock) rfl f149 (by have := HZ6.out; have := HZ10.out; have := HZ23.out; have := HZ39.out; have := HZ55.out; have := HZ70.out; have := HZ72.out; have := HZ79.out; have := HZ86.out; have := HZ88.out; have := HZ101.out; have := HZ114.out; have := HZ117.out; have := HZ125.out; have := HZ131.out; have := HZ137.out; have := HZ150.out; omega) (fun k_ hk_ => hk_))
  clear f149
  obtain ⟨A152, c153, e_⟩ := Kd.S_slice F151.out
  subst e_
  obtain ⟨A155, c156, e_⟩ := Kd.R_slice F154.out
  subst e_
  obtain ⟨A158, c159, e_⟩ := Kd.R_slice F157.out
  subst e_
  go_wp2_with fail
  refine (impl_NamesOf.calls k _ _ t138 _ _ t139 _ _ t140 t141 t160 t34 _ (Lk.Sr F151.out).2 (Lk.Sr F151.out).1 (Lk.Rr F154.out).2 (Lk.Rr F154.out).1 (Lk.Rr F157.out).2 (Lk.Rr F157.out).1 H162.out).mono ?_
  rintro e_ w163 ⟨v164, rfl, f165, hb⟩
  have hq_ : Below w143.heap.size w143 w163 := ⟨hb.os, hb.tape, hb.output, hb.size, hb.block⟩
  have HZ166 := Aside0.mk (show w143.heap.size ≤ w163.heap.size from hq_.size)
  have hn_ := Aside0.mk (below_then HB.out HB.out.size hq_)
  clear HB
  have HB := hn_
  clear hn_
  have hn_ := Aside0.mk (Kd.S_below F24.out hq_)
  clear F24
  have F24 := hn_
  clear hn_
  have hn_ := Aside0.mk (Kd.R_below F27.out hq_)
  clear F27
  have F27 := hn_
  clear hn_
  have hn_ := Aside0.mk (Kd.R_below F30.out hq_)
  clear F30
  have F30 := hn_
  clear hn_
  have hn_ := Aside0.mk (Kd.R_below F40.out hq_)
  clear F40
  have F40 := hn_
  clear hn_
  have hn_ := Aside0.mk (Kd.S_below F56.out hq_)
  clear F56
  have F56 := hn_
  clear hn_
  have hn_ := Aside0.mk (Kd.R_below F59.out hq_)
  clear F59
  have F59 := hn_
  clear hn_
  have hn_ := Aside0.mk (Kd.R_below F62.out hq_)
  clear F62
  have F62 := hn_
  clear hn_
  have hn_ := Aside0.mk (Kd.R_below F80.out hq_)
  clear F80
  have F80 := hn_
  clear hn_
  have hn_ := Aside0.mk (Kd.S_below F102.out hq_)
  clear F102
  have F102 := hn_
  clear hn_
  have hn_ := Aside0.mk (Kd.R_below F105.out hq_)
  clear F105
  have F105 := hn_
  clear hn_
  have hn_ := Aside0.mk (Kd.R_below F108.out hq_)
  clear F108
  have F108 := hn_
  clear hn_
  have hn_ := Aside0.mk (Kd.S_below F151.out hq_)
  clear F151
  have F151 := hn_
  clear hn_
  have hn_ := Aside0.mk (Kd.R_below F154.out hq_)
  clear F154
  have F154 := hn_
  clear hn_
  have hn_ := Aside0.mk (Kd.R_below F157.out hq_)
  clear F157
  have F157 := hn_
  clear hn_
  have hn_ := Aside0.mk (blk_below BK3.out hq_)
  clear hczb1_0 hfzb1_0; clear hczb1_1 hfzb1_1; clear hczb1_2 hfzb1_2; clear hczb1_3 hfzb1_3
  clear BK3
  have BK3 := hn_
  clear hn_
  have hn_ := Aside0.mk (blk_below BK67.out hq_)
  clear hczb65_0 hfzb65_0; clear hczb65_1 hfzb65_1; clear hczb65_2 hfzb65_2; clear hczb65_3 hfzb65_3
  clear BK67
  have BK67 := hn_
  clear hn_
  clear hq_
  have hczb1_0 : w163.cell? ⟨gb2, 0, none⟩ = some (.slice A0_0 l0_0.length c0_0) := (blk_cell BK3.out 0).trans rfl; have hfzb1_0 := blk_frozen BK3.out 0; have hczb1_1 : w163.cell? ⟨gb2, 1, none⟩ = some (.slice A0_1 l0_1.length c0_1) := (blk_cell BK3.out 1).trans rfl; have hfzb1_1 := blk_frozen BK3.out 1; have hczb1_2 : w163.cell? ⟨gb2, 2, none⟩ = some (.slice A0_2 l0_2.length c0_2) := (blk_cell BK3.out 2).trans rfl; have hfzb1_2 := blk_frozen BK3.out 2; have hczb1_3 : w163.cell? ⟨gb2, 3, none⟩ = some (.int .i64 a0_3) := (blk_cell BK3.out 3).trans rfl; have hfzb1_3 := blk_frozen BK3.out 3
  have hczb65_0 : w163.cell? ⟨gb66, 0, none⟩ = some (.slice A57 t43.length c58) := (blk_cell BK67.out 0).trans rfl; have hfzb65_0 := blk_frozen BK67.out 0; have hczb65_1 : w163.cell? ⟨gb66, 1, none⟩ = some (.slice A60 t44.length c61) := (blk_cell BK67.out 1).trans rfl; have hfzb65_1 := blk_frozen BK67.out 1; have hczb65_2 : w163.cell? ⟨gb66, 2, none⟩ = some (.slice A63 t45.length c64) := (blk_cell BK67.out 2).trans rfl; have hfzb65_2 := blk_frozen BK67.out 2; have hczb65_3 : w163.cell? ⟨gb66, 3, none⟩ = some (.int .i64 t46) := (blk_cell BK67.out 3).trans rfl; have hfzb65_3 := blk_frozen BK67.out 3
  clear hb
  have F167 := Aside0.mk (Lk.newR (b := w143.heap.size) (base := w.heap.size) (Sep := fun k_ => True) rfl f165 (by have := HZ6.out; have := HZ10.out; have := HZ23.out; have := HZ39.out; have := HZ55.out; have := HZ70.out; have := HZ72.out; have := HZ79.out; have := HZ86.out; have := HZ88.out; have := HZ101.out; have := HZ114.out; have := HZ117.out; have := HZ125.out; have := HZ131.out; have := HZ137.out; have := HZ150.out; have := HZ166.out; omega) (fun k_ hk_ => hk_))
  clear f165
  obtain ⟨A168, c169, e_⟩ := Kd.R_slice F167.out
  subst e_
  go_wp2_with fail
  refine (laws_eqIntS.calls k _ _ t160 _ _ t33 true _ (Lk.Rr F167.out).2 (Lk.Rr F167.out).1 (Lk.Rr F40.out).2 (Lk.Rr F40.out).1 H171.out).mono ?_
  rintro e_ w172 ⟨rfl, ⟨nd_, hd_⟩⟩
  have hb : Below w163.heap.size w163 w172 := by rw [hd_]; exact pw_below_drewN (Below.refl _ _) nd_
  clear hd_
  have hq_ : Below w163.heap.size w163 w172 := ⟨hb.os, hb.tape, hb.output, hb.size, hb.block⟩
  have HZ173 := Aside0.mk (show w163.heap.size ≤ w172.heap.size from hq_.size)
  have hn_ := Aside0.mk (below_then HB.out HB.out.size hq_)
  clear HB
  have HB := hn_
  clear hn_
  have hn_ := Aside0.mk (Kd.S_below F24.out hq_)
  clear F24
  have F24 := hn_
  clear hn_
  have hn_ := Aside0.mk (Kd.R_below F27.out hq_)
  clear F27
  have F27 := hn_
  clear hn_
  have hn_ := Aside0.mk (Kd.R_below F30.out hq_)
  clear F30
  have F30 := hn_
  clear hn_
  have hn_ := Aside0.mk (Kd.R_below F40.out hq_)
  clear F40
  have F40 := hn_
  clear hn_
  have hn_ := Aside0.mk (Kd.S_below F56.out hq_)
  clear F56
  have F56 := hn_
  clear hn_
  have hn_ := Aside0.mk (Kd.R_below F59.out hq_)
  clear F59
  have F59 := hn_
  clear hn_
  have hn_ := Aside0.mk (Kd.R_below F62.out hq_)
  clear F62
  have F62 := hn_
  clear hn_
  have hn_ := Aside0.mk (Kd.R_below F80.out hq_)
  clear F80
  have F80 := hn_
  clear hn_
  have hn_ := Aside0.mk (Kd.S_below F102.out hq_)
  clear F102
  have F102 := hn_
  clear hn_
  have hn_ := Aside0.mk (Kd.R_below F105.out hq_)
  clear F105
  have F105 := hn_
  clear hn_
  have hn_ := Aside0.mk (Kd.R_below F108.out hq_)
  clear F108
  have F108 := hn_
  clear hn_
  have hn_ := Aside0.mk (Kd.S_below F151.out hq_)
  clear F151
  have F151 := hn_
  clear hn_
  have hn_ := Aside0.mk (Kd.R_below F154.out hq_)
  clear F154
  have F154 := hn_
  clear hn_
  have hn_ := Aside0.mk (Kd.R_below F157.out hq_)
  clear F157
  have F157 := hn_
  clear hn_
  have hn_ := Aside0.mk (Kd.R_below F167.out hq_)
  clear F167
  have F167 := hn_
  clear hn_
  have hn_ := Aside0.mk (blk_below BK3.out hq_)
  clear hczb1_0 hfzb1_0; clear hczb1_1 hfzb1_1; clear hczb1_2 hfzb1_2; clear hczb1_3 hfzb1_3
  clear BK3
  have BK3 := hn_
  clear hn_
  have hn_ := Aside0.mk (blk_below BK67.out hq_)
  clear hczb65_0 hfzb65_0; clear hczb65_1 hfzb65_1; clear hczb65_2 hfzb65_2; clear hczb65_3 hfzb65_3
  clear BK67
  have BK67 := hn_
  clear hn_
  clear hq_
  have hczb1_0 : w172.cell? ⟨gb2, 0, none⟩ = some (.slice A0_0 l0_0.length c0_0) := (blk_cell BK3.out 0).trans rfl; have hfzb1_0 := blk_frozen BK3.out 0; have hczb1_1 : w172.cell? ⟨gb2, 1, none⟩ = some (.slice A0_1 l0_1.length c0_1) := (blk_cell BK3.out 1).trans rfl; have hfzb1_1 := blk_frozen BK3.out 1; have hczb1_2 : w172.cell? ⟨gb2, 2, none⟩ = some (.slice A0_2 l0_2.length c0_2) := (blk_cell BK3.out 2).trans rfl; have hfzb1_2 := blk_frozen BK3.out 2; have hczb1_3 : w172.cell? ⟨gb2, 3, none⟩ = some (.int .i64 a0_3) := (blk_cell BK3.out 3).trans rfl; have hfzb1_3 := blk_frozen BK3.out 3
  have hczb65_0 : w172.cell? ⟨gb66, 0, none⟩ = some (.slice A57 t43.length c58) := (blk_cell BK67.out 0).trans rfl; have hfzb65_0 := blk_frozen BK67.out 0; have hczb65_1 : w172.cell? ⟨gb66, 1, none⟩ = some (.slice A60 t44.length c61) := (blk_cell BK67.out 1).trans rfl; have hfzb65_1 := blk_frozen BK67.out 1; have hczb65_2 : w172.cell? ⟨gb66, 2, none⟩ = some (.slice A63 t45.length c64) := (blk_cell BK67.out 2).trans rfl; have hfzb65_2 := blk_frozen BK67.out 2; have hczb65_3 : w172.cell? ⟨gb66, 3, none⟩ = some (.int .i64 t46) := (blk_cell BK67.out 3).trans rfl; have hfzb65_3 := blk_frozen BK67.out 3
  clear hb
  go_wp2_with fail
  have hc_ := laws_heldIntS.calls k _ _ t128 1 t127 _ (Lk.Rr F80.out).2 (Lk.Rr F80.out).1 H175.out
  simp only [← HL132.out] at hc_
  refine hc_.mono ?_
  clear hc_
  rintro e_ w176 ⟨rfl, ⟨nd_, hd_⟩⟩
  have hb : Below w172.heap.size w172 w176 := by rw [hd_]; exact pw_below_drewN (Below.refl _ _) nd_
  clear hd_
  have hq_ : Below w172.heap.size w172 w176 := ⟨hb.os, hb.tape, hb.output, hb.size, hb.block⟩
  have HZ177 := Aside0.mk (show w172.heap.size ≤ w176.heap.size from hq_.size)
  have hn_ := Aside0.mk (below_then HB.out HB.out.size hq_)
  clear HB
  have HB := hn_
  clear hn_
  have hn_ := Aside0.mk (Kd.S_below F24.out hq_)
  clear F24
  have F24 := hn_
  clear hn_
  have hn_ := Aside0.mk (Kd.R_below F27.out hq_)
  clear F27
  have F27 := hn_
  clear hn_
  have hn_ := Aside0.mk (Kd.R_below F30.out hq_)
  clear F30
  have F30 := hn_
  clear hn_
  have hn_ := Aside0.mk (Kd.R_below F40.out hq_)
  clear F40
  have F40 := hn_
  clear hn_
  have hn_ := Aside0.mk (Kd.S_below F56.out hq_)
  clear F56
  have F56 := hn_
  clear hn_
  have hn_ := Aside0.mk (Kd.R_below F59.out hq_)
  clear F59
  have F59 := hn_
  clear hn_
  have hn_ := Aside0.mk (Kd.R_below F62.out hq_)
  clear F62
  have F62 := hn_
  clear hn_
  have hn_ := Aside0.mk (Kd.R_below F80.out hq_)
  clear F80
  have F80 := hn_
  clear hn_
  have hn_ := Aside0.mk (Kd.S_below F102.out hq_)
  clear F102
  have F102 := hn_
  clear hn_
  have hn_ := Aside0.mk (Kd.R_below F105.out hq_)
  clear F105
  have F105 := hn_
  clear hn_
  have hn_ := Aside0.mk (Kd.R_below F108.out hq_)
  clear F108
  have F108 := hn_
  clear hn_
  have hn_ := Aside0.mk (Kd.S_below F151.out hq_)
  clear F151
  have F151 := hn_
  clear hn_
  have hn_ := Aside0.mk (Kd.R_below F154.out hq_)
  clear F154
  have F154 := hn_
  clear hn_
  have hn_ := Aside0.mk (Kd.R_below F157.out hq_)
  clear F157
  have F157 := hn_
  clear hn_
  have hn_ := Aside0.mk (Kd.R_below F167.out hq_)
  clear F167
  have F167 := hn_
  clear hn_
  have hn_ := Aside0.mk (blk_below BK3.out hq_)
  clear hczb1_0 hfzb1_0; clear hczb1_1 hfzb1_1; clear hczb1_2 hfzb1_2; clear hczb1_3 hfzb1_3
  clear BK3
  have BK3 := hn_
  clear hn_
  have hn_ := Aside0.mk (blk_below BK67.out hq_)
  clear hczb65_0 hfzb65_0; clear hczb65_1 hfzb65_1; clear hczb65_2 hfzb65_2; clear hczb65_3 hfzb65_3
  clear BK67
  have BK67 := hn_
  clear hn_
  clear hq_
  have hczb1_0 : w176.cell? ⟨gb2, 0, none⟩ = some (.slice A0_0 l0_0.length c0_0) := (blk_cell BK3.out 0).trans rfl; have hfzb1_0 := blk_frozen BK3.out 0; have hczb1_1 : w176.cell? ⟨gb2, 1, none⟩ = some (.slice A0_1 l0_1.length c0_1) := (blk_cell BK3.out 1).trans rfl; have hfzb1_1 := blk_frozen BK3.out 1; have hczb1_2 : w176.cell? ⟨gb2, 2, none⟩ = some (.slice A0_2 l0_2.length c0_2) := (blk_cell BK3.out 2).trans rfl; have hfzb1_2 := blk_frozen BK3.out 2; have hczb1_3 : w176.cell? ⟨gb2, 3, none⟩ = some (.int .i64 a0_3) := (blk_cell BK3.out 3).trans rfl; have hfzb1_3 := blk_frozen BK3.out 3
  have hczb65_0 : w176.cell? ⟨gb66, 0, none⟩ = some (.slice A57 t43.length c58) := (blk_cell BK67.out 0).trans rfl; have hfzb65_0 := blk_frozen BK67.out 0; have hczb65_1 : w176.cell? ⟨gb66, 1, none⟩ = some (.slice A60 t44.length c61) := (blk_cell BK67.out 1).trans rfl; have hfzb65_1 := blk_frozen BK67.out 1; have hczb65_2 : w176.cell? ⟨gb66, 2, none⟩ = some (.slice A63 t45.length c64) := (blk_cell BK67.out 2).trans rfl; have hfzb65_2 := blk_frozen BK67.out 2; have hczb65_3 : w176.cell? ⟨gb66, 3, none⟩ = some (.int .i64 t46) := (blk_cell BK67.out 3).trans rfl; have hfzb65_3 := blk_frozen BK67.out 3
  clear hb
  go_wp2_with fail
  go_ret
  exact ⟨rfl, HB.out⟩
end Go.Proofs.Ytnocadhibajaoaa.Q
