/- The law FnExactSetMethod of this seat: the walk along its one way. Conditions: none. -/
import Derived.Test.YtjmgleomljfieaaQx0
import Derived.Test.YtjmgleomljfieaaQx1
import Derived.Test.YtjmgleomljfieaaQx2
import Derived.Test.YtjmgleomljfieaaQx4
import Derived.Test.YtjmgleomljfieaaQx5
import Derived.Test.YtjmgleomljfieaaQx6
import Derived.Test.YtjmgleomljfieaaGoodFnExactSetMethod
import Derived.Test.YtjmgleomljfieaaLk
namespace Go.Proofs.Ytjmgleomljfieaa.Q
open Go.RowKit Go.Proofs.YtjmgleomljfieaaW.PrintWords Go.Proofs.YtjmgleomljfieaaW.PrintLast Go.Proofs.YtjmgleomljfieaaW.PrintMore
set_option linter.unusedVariables false
set_option linter.unusedSimpArgs false
open Lk in
set_option maxHeartbeats 8000000 in
set_option maxRecDepth 100000 in
theorem laws_FnExactSetMethod.calls (k : Nat) (A0_0 : Option Addr) (c0_0 : Nat) (l0_0 : List (S111)) (a0_1 : Int) (a1 : Int) (a2 : Int) (a3 : Int) (r : Bool) (w : World) (hr0_0 : Kd.C k111 w A0_0 l0_0.length l0_0) (hc0_0 : l0_0.length ≤ c0_0) (h : laws_FnExactSetMethod.f k l0_0 a0_1 a1 a2 a3 = some r) :
    Calls Try.prog 6 #[.agg #[.slice A0_0 l0_0.length c0_0, .int .i64 a0_1], .int .i64 a1, .int .i64 a2, .int .i64 a3] w fun e w' => e = .returned (.bool r) ∧ Below w.heap.size w w' := by
  unfold laws_FnExactSetMethod.f at h
  split at h
  case isFalse => cases h
  rename_i hg
  obtain rfl := Option.some.inj h
  clear h
  have HR0_0 := Aside0.mk hr0_0
  have HC0_0 := Aside0.mk hc0_0
  clear hr0_0 hc0_0
  have HB := Aside0.mk (Below.refl w.heap.size w)
  unfold laws_FnExactSetMethod.good at hg
  obtain ⟨t7, H80, hg⟩ := hg
  have H8 := Aside0.mk H80
  clear H80
  rcases hg with hs | ⟨hs, hg⟩
  · have hs1_ : decide (t7 < 0) = true := decide_eq_true hs
    clear hs
    go_enter Try.func6, Try.ntmps6
    go_wp2_with (first | ((with_reducible refine gate_dst (N := 4) rfl ?_); refine box_event ?hg (N := 4) ?hd (cs := #[.slice A0_0 l0_0.length c0_0, .int .i64 a0_1]) (t := 24) ?hr ?_; (case hd => rfl); (case hg => rfl); (case hr => first | (go_simp; done) | (go_simp; rfl)); intro gb2 hg_ w5 hx_ hb; have hg2_ : gb2 = w.heap.size := hg_; have hq_ : Below w.heap.size w w5 := ⟨hb.os, hb.tape, hb.output, hb.size, hb.block⟩; have HZ6 := Aside0.mk (show w.heap.size ≤ w5.heap.size from hq_.size); have hn_ := Aside0.mk (below_then HB.out HB.out.size hq_); clear HB; have HB := hn_; clear hn_; clear hq_; have BK3 := Aside0.mk hx_; have GQ4 := Aside0.mk (show w.heap.size ≤ gb2 ∧ gb2 < w5.heap.size from ⟨Nat.le_of_eq hg2_.symm, blk_lt hx_⟩); clear hb hg_ hg2_ hx_; have hczb1_0 : w5.cell? ⟨gb2, 0, none⟩ = some (.slice A0_0 l0_0.length c0_0) := (blk_cell BK3.out 0).trans rfl; have hfzb1_0 := blk_frozen BK3.out 0; have hczb1_1 : w5.cell? ⟨gb2, 1, none⟩ = some (.int .i64 a0_1) := (blk_cell BK3.out 1).trans rfl; have hfzb1_1 := blk_frozen BK3.out 1))
    refine (laws_szWorld.calls k _ _ l0_0 a0_1 1048576 t7 _ (Kd.C_below HR0_0.out HB.out) HC0_0.out H8.out).mono ?_
    rintro e_ w9 ⟨rfl, hb⟩
    have hq_ : Below w5.heap.size w5 w9 := ⟨hb.os, hb.tape, hb.output, hb.size, hb.block⟩
    have HZ10 := Aside0.mk (show w5.heap.size ≤ w9.heap.size from hq_.size)
    have hn_ := Aside0.mk (below_then HB.out HB.out.size hq_)
    clear HB
    have HB := hn_
    clear hn_
    have hn_ := Aside0.mk (blk_below BK3.out hq_)
    clear hczb1_0 hfzb1_0; clear hczb1_1 hfzb1_1
    clear BK3
    have BK3 := hn_
    clear hn_
    clear hq_
    have hczb1_0 : w9.cell? ⟨gb2, 0, none⟩ = some (.slice A0_0 l0_0.length c0_0) := (blk_cell BK3.out 0).trans rfl; have hfzb1_0 := blk_frozen BK3.out 0; have hczb1_1 : w9.cell? ⟨gb2, 1, none⟩ = some (.int .i64 a0_1) := (blk_cell BK3.out 1).trans rfl; have hfzb1_1 := blk_frozen BK3.out 1
    clear hb
    go_wp2_with fail
    go_ret
    exact ⟨rfl, HB.out⟩
  have hs2_ : decide (t7 < 0) = false := decide_eq_false hs
  clear hs
  obtain ⟨t11, t12, H130, t21, t22, t23, H240, t40, t41, H420, t58, t59, H610, H780, t83, t84, H850, H940, H980, H1030, H1070, H1120, t115, t116, H1170, t125, t126, H1280, H1450, H1490, hg⟩ := hg
  have H13 := Aside0.mk H130
  clear H130
  have H24 := Aside0.mk H240
  clear H240
  have H42 := Aside0.mk H420
  clear H420
  have H61 := Aside0.mk H610
  clear H610
  have H78 := Aside0.mk H780
  clear H780
  have H85 := Aside0.mk H850
  clear H850
  have H94 := Aside0.mk H940
  clear H940
  have H98 := Aside0.mk H980
  clear H980
  have H103 := Aside0.mk H1030
  clear H1030
  have H107 := Aside0.mk H1070
  clear H1070
  have H112 := Aside0.mk H1120
  clear H1120
  have H117 := Aside0.mk H1170
  clear H1170
  have H128 := Aside0.mk H1280
  clear H1280
  have H145 := Aside0.mk H1450
  clear H1450
  have H149 := Aside0.mk H1490
  clear H1490
  clear hg
  go_enter Try.func6, Try.ntmps6
  go_wp2_with (first | ((with_reducible refine gate_dst (N := 4) rfl ?_); refine box_event ?hg (N := 4) ?hd (cs := #[.slice A0_0 l0_0.length c0_0, .int .i64 a0_1]) (t := 24) ?hr ?_; (case hd => rfl); (case hg => rfl); (case hr => first | (go_simp; done) | (go_simp; rfl)); intro gb2 hg_ w5 hx_ hb; have hg2_ : gb2 = w.heap.size := hg_; have hq_ : Below w.heap.size w w5 := ⟨hb.os, hb.tape, hb.output, hb.size, hb.block⟩; have HZ6 := Aside0.mk (show w.heap.size ≤ w5.heap.size from hq_.size); have hn_ := Aside0.mk (below_then HB.out HB.out.size hq_); clear HB; have HB := hn_; clear hn_; clear hq_; have BK3 := Aside0.mk hx_; have GQ4 := Aside0.mk (show w.heap.size ≤ gb2 ∧ gb2 < w5.heap.size from ⟨Nat.le_of_eq hg2_.symm, blk_lt hx_⟩); clear hb hg_ hg2_ hx_; have hczb1_0 : w5.cell? ⟨gb2, 0, none⟩ = some (.slice A0_0 l0_0.length c0_0) := (blk_cell BK3.out 0).trans rfl; have hfzb1_0 := blk_frozen BK3.out 0; have hczb1_1 : w5.cell? ⟨gb2, 1, none⟩ = some (.int .i64 a0_1) := (blk_cell BK3.out 1).trans rfl; have hfzb1_1 := blk_frozen BK3.out 1))
  refine (laws_szWorld.calls k _ _ l0_0 a0_1 1048576 t7 _ (Kd.C_below HR0_0.out HB.out) HC0_0.out H8.out).mono ?_
  rintro e_ w9 ⟨rfl, hb⟩
  have hq_ : Below w5.heap.size w5 w9 := ⟨hb.os, hb.tape, hb.output, hb.size, hb.block⟩
  have HZ10 := Aside0.mk (show w5.heap.size ≤ w9.heap.size from hq_.size)
  have hn_ := Aside0.mk (below_then HB.out HB.out.size hq_)
  clear HB
  have HB := hn_
  clear hn_
  have hn_ := Aside0.mk (blk_below BK3.out hq_)
  clear hczb1_0 hfzb1_0; clear hczb1_1 hfzb1_1
  clear BK3
  have BK3 := hn_
  clear hn_
  clear hq_
  have hczb1_0 : w9.cell? ⟨gb2, 0, none⟩ = some (.slice A0_0 l0_0.length c0_0) := (blk_cell BK3.out 0).trans rfl; have hfzb1_0 := blk_frozen BK3.out 0; have hczb1_1 : w9.cell? ⟨gb2, 1, none⟩ = some (.int .i64 a0_1) := (blk_cell BK3.out 1).trans rfl; have hfzb1_1 := blk_frozen BK3.out 1
  clear hb
  go_wp2_with fail
  refine (laws_toWorld.calls k _ _ l0_0 a0_1 t11 t12 _ (Kd.C_below HR0_0.out HB.out) HC0_0.out H13.out).mono ?_
  rintro e_ w14 ⟨v15, rfl, f16, hb⟩
  have hq_ : Below w9.heap.size w9 w14 := ⟨hb.os, hb.tape, hb.output, hb.size, hb.block⟩
  have HZ17 := Aside0.mk (show w9.heap.size ≤ w14.heap.size from hq_.size)
  have hn_ := Aside0.mk (below_then HB.out HB.out.size hq_)
  clear HB
  have HB := hn_
  clear hn_
  have hn_ := Aside0.mk (blk_below BK3.out hq_)
  clear hczb1_0 hfzb1_0; clear hczb1_1 hfzb1_1
  clear BK3
  have BK3 := hn_
  clear hn_
  clear hq_
  have hczb1_0 : w14.cell? ⟨gb2, 0, none⟩ = some (.slice A0_0 l0_0.length c0_0) := (blk_cell BK3.out 0).trans rfl; have hfzb1_0 := blk_frozen BK3.out 0; have hczb1_1 : w14.cell? ⟨gb2, 1, none⟩ = some (.int .i64 a0_1) := (blk_cell BK3.out 1).trans rfl; have hfzb1_1 := blk_frozen BK3.out 1
  clear hb
  have F18 := Aside0.mk (Lk.newS (b := w9.heap.size) (base := w.heap.size) (Sep := fun k_ => True) f16 (by have := HZ6.out; have := HZ10.out; have := HZ17.out; omega) (fun k_ hk_ => hk_))
  clear f16
  obtain ⟨A19, c20, e_⟩ := Kd.S_slice F18.out
  subst e_
  go_wp2_with fail
  refine (spec_SetMethod.calls k _ _ t11 t12 a1 a2 a3 t21 t22 t23 _ (Lk.Sr F18.out).2 (Lk.Sr F18.out).1 H24.out).mono ?_
  rintro e_ w25 ⟨v26, rfl, f27, hb⟩
  have hq_ : Below w14.heap.size w14 w25 := ⟨hb.os, hb.tape, hb.output, hb.size, hb.block⟩
  have HZ28 := Aside0.mk (show w14.heap.size ≤ w25.heap.size from hq_.size)
  have hn_ := Aside0.mk (below_then HB.out HB.out.size hq_)
  clear HB
  have HB := hn_
  clear hn_
  have hn_ := Aside0.mk (Kd.S_below F18.out hq_)
  clear F18
  have F18 := hn_
  clear hn_
  have hn_ := Aside0.mk (blk_below BK3.out hq_)
  clear hczb1_0 hfzb1_0; clear hczb1_1 hfzb1_1
  clear BK3
  have BK3 := hn_
  clear hn_
  clear hq_
  have hczb1_0 : w25.cell? ⟨gb2, 0, none⟩ = some (.slice A0_0 l0_0.length c0_0) := (blk_cell BK3.out 0).trans rfl; have hfzb1_0 := blk_frozen BK3.out 0; have hczb1_1 : w25.cell? ⟨gb2, 1, none⟩ = some (.int .i64 a0_1) := (blk_cell BK3.out 1).trans rfl; have hfzb1_1 := blk_frozen BK3.out 1
  clear hb
  have F29 := Aside0.mk (Lk.newS (b := w14.heap.size) (base := w.heap.size) (Sep := fun k_ => True) f27 (by have := HZ6.out; have := HZ10.out; have := HZ17.out; have := HZ28.out; omega) (fun k_ hk_ => hk_))
  clear f27
  obtain ⟨A30, c31, e_⟩ := Kd.S_slice F29.out
  subst e_
  go_wp2_with (first | ((with_reducible refine gate_dst (N := 10) rfl ?_); refine box_event ?hg (N := 10) ?hd (cs := #[.slice none 0 0, .int .i64 0]) (t := 29) ?hr ?_; (case hd => rfl); (case hg => rfl); (case hr => first | (go_simp; done) | (go_simp; rfl)); intro gb33 hg_ w36 hx_ hb; have hg2_ : gb33 = w25.heap.size := hg_; have hq_ : Below w25.heap.size w25 w36 := ⟨hb.os, hb.tape, hb.output, hb.size, hb.block⟩; have HZ37 := Aside0.mk (show w25.heap.size ≤ w36.heap.size from hq_.size); have hn_ := Aside0.mk (below_then HB.out HB.out.size hq_); clear HB; have HB := hn_; clear hn_; have hn_ := Aside0.mk (Kd.S_below F18.out hq_); clear F18; have F18 := hn_; clear hn_; have hn_ := Aside0.mk (Kd.S_below F29.out hq_); clear F29; have F29 := hn_; clear hn_; have hn_ := Aside0.mk (blk_below BK3.out hq_); clear hczb1_0 hfzb1_0; clear hczb1_1 hfzb1_1; clear BK3; have BK3 := hn_; clear hn_; clear hq_; have hczb1_0 : w36.cell? ⟨gb2, 0, none⟩ = some (.slice A0_0 l0_0.length c0_0) := (blk_cell BK3.out 0).trans rfl; have hfzb1_0 := blk_frozen BK3.out 0; have hczb1_1 : w36.cell? ⟨gb2, 1, none⟩ = some (.int .i64 a0_1) := (blk_cell BK3.out 1).trans rfl; have hfzb1_1 := blk_frozen BK3.out 1; have BK34 := Aside0.mk hx_; have GQ35 := Aside0.mk (show w25.heap.size ≤ gb33 ∧ gb33 < w36.heap.size from ⟨Nat.le_of_eq hg2_.symm, blk_lt hx_⟩); clear hb hg_ hg2_ hx_; have hczb32_0 : w36.cell? ⟨gb33, 0, none⟩ = some (.slice none 0 0) := (blk_cell BK34.out 0).trans rfl; have hfzb32_0 := blk_frozen BK34.out 0; have hczb32_1 : w36.cell? ⟨gb33, 1, none⟩ = some (.int .i64 0) := (blk_cell BK34.out 1).trans rfl; have hfzb32_1 := blk_frozen BK34.out 1) | ((with_reducible refine gate_store (t := 29) (p := 10) rfl ?_); refine store_event (t := 29) (p := 10) (v := ?vo_w38) (w1 := ((w36.setCell ⟨gb33, 0, none⟩ (.slice A30 t21.length c31)).setCell ⟨gb33, 1, none⟩ (.int .i64 t22))) ?hg ?ho ?hn ?hr ?_; (case ho => rfl); (case hg => rfl); (case hn => rfl); (case hr => first | (go_simp; done) | (go_simp; rfl)); intro w38 hw_; have hx_ : w38.heap[gb33]? = some (.cells #[(.slice A30 t21.length c31), (.int .i64 t22)] 29 (0, 0)) := (by rw [hw_]; exact Lk.filled (us := [(.slice A30 t21.length c31), (.int .i64 t22)]) BK34.out rfl); have hk2_ : Kept w36 w38 (fun k_ => k_ = gb33) := (by rw [hw_]; exact Lk.fill_kept [(.slice A30 t21.length c31), (.int .i64 t22)] 0 w36); have hB_ := Aside0.mk (show Below w.heap.size w w38 by rw [hw_]; exact Lk.fill_below [(.slice A30 t21.length c31), (.int .i64 t22)] 0 w w36 HB.out (by have := HZ6.out; have := HZ10.out; have := HZ17.out; have := HZ28.out; have := HZ37.out; have := GQ35.out; omega)); clear HB; have HB := hB_; clear hB_; have HZ39 := Aside0.mk (show w36.heap.size ≤ w38.heap.size from hk2_.1); have hn_ := Aside0.mk (Kd.S_kept F18.out hk2_ (fun k_ h1_ h2_ => by have := HZ6.out; have := HZ10.out; have := HZ17.out; have := HZ28.out; have := HZ37.out; have := GQ35.out; have h3_ := h1_.1; omega)); clear F18; have F18 := hn_; clear hn_; have hn_ := Aside0.mk (Kd.S_kept F29.out hk2_ (fun k_ h1_ h2_ => by have := HZ6.out; have := HZ10.out; have := HZ17.out; have := HZ28.out; have := HZ37.out; have := GQ35.out; have h3_ := h1_.1; omega)); clear F29; have F29 := hn_; clear hn_; clear hczb1_0 hfzb1_0; clear hczb1_1 hfzb1_1; have hn_ := Aside0.mk (blk_kept BK3.out hk2_ (fun h_ => by have := HZ6.out; have := HZ10.out; have := HZ17.out; have := HZ28.out; have := HZ37.out; have := GQ35.out; have := GQ4.out; omega)); clear BK3; have BK3 := hn_; clear hn_; clear hczb32_0 hfzb32_0; clear hczb32_1 hfzb32_1; clear BK34; have BK34 := Aside0.mk hx_; clear hk2_ hx_ hw_; have hczb1_0 : w38.cell? ⟨gb2, 0, none⟩ = some (.slice A0_0 l0_0.length c0_0) := (blk_cell BK3.out 0).trans rfl; have hfzb1_0 := blk_frozen BK3.out 0; have hczb1_1 : w38.cell? ⟨gb2, 1, none⟩ = some (.int .i64 a0_1) := (blk_cell BK3.out 1).trans rfl; have hfzb1_1 := blk_frozen BK3.out 1; have hczb32_0 : w38.cell? ⟨gb33, 0, none⟩ = some (.slice A30 t21.length c31) := (blk_cell BK34.out 0).trans rfl; have hfzb32_0 := blk_frozen BK34.out 0; have hczb32_1 : w38.cell? ⟨gb33, 1, none⟩ = some (.int .i64 t22) := (blk_cell BK34.out 1).trans rfl; have hfzb32_1 := blk_frozen BK34.out 1))
  refine (laws_toWorld.calls k _ _ l0_0 a0_1 t40 t41 _ (Kd.C_below HR0_0.out HB.out) HC0_0.out H42.out).mono ?_
  rintro e_ w43 ⟨v44, rfl, f45, hb⟩
  have hq_ : Below w38.heap.size w38 w43 := ⟨hb.os, hb.tape, hb.output, hb.size, hb.block⟩
  have HZ46 := Aside0.mk (show w38.heap.size ≤ w43.heap.size from hq_.size)
  have hn_ := Aside0.mk (below_then HB.out HB.out.size hq_)
  clear HB
  have HB := hn_
  clear hn_
  have hn_ := Aside0.mk (Kd.S_below F18.out hq_)
  clear F18
  have F18 := hn_
  clear hn_
  have hn_ := Aside0.mk (Kd.S_below F29.out hq_)
  clear F29
  have F29 := hn_
  clear hn_
  have hn_ := Aside0.mk (blk_below BK3.out hq_)
  clear hczb1_0 hfzb1_0; clear hczb1_1 hfzb1_1
  clear BK3
  have BK3 := hn_
  clear hn_
  have hn_ := Aside0.mk (blk_below BK34.out hq_)
  clear hczb32_0 hfzb32_0; clear hczb32_1 hfzb32_1
  clear BK34
  have BK34 := hn_
  clear hn_
  clear hq_
  have hczb1_0 : w43.cell? ⟨gb2, 0, none⟩ = some (.slice A0_0 l0_0.length c0_0) := (blk_cell BK3.out 0).trans rfl; have hfzb1_0 := blk_frozen BK3.out 0; have hczb1_1 : w43.cell? ⟨gb2, 1, none⟩ = some (.int .i64 a0_1) := (blk_cell BK3.out 1).trans rfl; have hfzb1_1 := blk_frozen BK3.out 1
  have hczb32_0 : w43.cell? ⟨gb33, 0, none⟩ = some (.slice A30 t21.length c31) := (blk_cell BK34.out 0).trans rfl; have hfzb32_0 := blk_frozen BK34.out 0; have hczb32_1 : w43.cell? ⟨gb33, 1, none⟩ = some (.int .i64 t22) := (blk_cell BK34.out 1).trans rfl; have hfzb32_1 := blk_frozen BK34.out 1
  clear hb
  have F47 := Aside0.mk (Lk.newS (b := w38.heap.size) (base := w.heap.size) (Sep := fun k_ => True) f45 (by have := HZ6.out; have := HZ10.out; have := HZ17.out; have := HZ28.out; have := HZ37.out; have := HZ39.out; have := HZ46.out; omega) (fun k_ hk_ => hk_))
  clear f45
  obtain ⟨A48, c49, e_⟩ := Kd.S_slice F47.out
  subst e_
  go_wp2_with (first | ((with_reducible refine gate_dst (N := 12) rfl ?_); refine box_event ?hg (N := 12) ?hd (cs := #[.slice none 0 0, .int .i64 0]) (t := 29) ?hr ?_; (case hd => rfl); (case hg => rfl); (case hr => first | (go_simp; done) | (go_simp; rfl)); intro gb51 hg_ w54 hx_ hb; have hg2_ : gb51 = w43.heap.size := hg_; have hq_ : Below w43.heap.size w43 w54 := ⟨hb.os, hb.tape, hb.output, hb.size, hb.block⟩; have HZ55 := Aside0.mk (show w43.heap.size ≤ w54.heap.size from hq_.size); have hn_ := Aside0.mk (below_then HB.out HB.out.size hq_); clear HB; have HB := hn_; clear hn_; have hn_ := Aside0.mk (Kd.S_below F18.out hq_); clear F18; have F18 := hn_; clear hn_; have hn_ := Aside0.mk (Kd.S_below F29.out hq_); clear F29; have F29 := hn_; clear hn_; have hn_ := Aside0.mk (Kd.S_below F47.out hq_); clear F47; have F47 := hn_; clear hn_; have hn_ := Aside0.mk (blk_below BK3.out hq_); clear hczb1_0 hfzb1_0; clear hczb1_1 hfzb1_1; clear BK3; have BK3 := hn_; clear hn_; have hn_ := Aside0.mk (blk_below BK34.out hq_); clear hczb32_0 hfzb32_0; clear hczb32_1 hfzb32_1; clear BK34; have BK34 := hn_; clear hn_; clear hq_; have hczb1_0 : w54.cell? ⟨gb2, 0, none⟩ = some (.slice A0_0 l0_0.length c0_0) := (blk_cell BK3.out 0).trans rfl; have hfzb1_0 := blk_frozen BK3.out 0; have hczb1_1 : w54.cell? ⟨gb2, 1, none⟩ = some (.int .i64 a0_1) := (blk_cell BK3.out 1).trans rfl; have hfzb1_1 := blk_frozen BK3.out 1; have hczb32_0 : w54.cell? ⟨gb33, 0, none⟩ = some (.slice A30 t21.length c31) := (blk_cell BK34.out 0).trans rfl; have hfzb32_0 := blk_frozen BK34.out 0; have hczb32_1 : w54.cell? ⟨gb33, 1, none⟩ = some (.int .i64 t22) := (blk_cell BK34.out 1).trans rfl; have hfzb32_1 := blk_frozen BK34.out 1; have BK52 := Aside0.mk hx_; have GQ53 := Aside0.mk (show w43.heap.size ≤ gb51 ∧ gb51 < w54.heap.size from ⟨Nat.le_of_eq hg2_.symm, blk_lt hx_⟩); clear hb hg_ hg2_ hx_; have hczb50_0 : w54.cell? ⟨gb51, 0, none⟩ = some (.slice none 0 0) := (blk_cell BK52.out 0).trans rfl; have hfzb50_0 := blk_frozen BK52.out 0; have hczb50_1 : w54.cell? ⟨gb51, 1, none⟩ = some (.int .i64 0) := (blk_cell BK52.out 1).trans rfl; have hfzb50_1 := blk_frozen BK52.out 1) | ((with_reducible refine gate_store (t := 29) (p := 12) rfl ?_); refine store_event (t := 29) (p := 12) (v := ?vo_w56) (w1 := ((w54.setCell ⟨gb51, 0, none⟩ (.slice A48 t40.length c49)).setCell ⟨gb51, 1, none⟩ (.int .i64 t41))) ?hg ?ho ?hn ?hr ?_; (case ho => rfl); (case hg => rfl); (case hn => rfl); (case hr => first | (go_simp; done) | (go_simp; rfl)); intro w56 hw_; have hx_ : w56.heap[gb51]? = some (.cells #[(.slice A48 t40.length c49), (.int .i64 t41)] 29 (0, 0)) := (by rw [hw_]; exact Lk.filled (us := [(.slice A48 t40.length c49), (.int .i64 t41)]) BK52.out rfl); have hk2_ : Kept w54 w56 (fun k_ => k_ = gb51) := (by rw [hw_]; exact Lk.fill_kept [(.slice A48 t40.length c49), (.int .i64 t41)] 0 w54); have hB_ := Aside0.mk (show Below w.heap.size w w56 by rw [hw_]; exact Lk.fill_below [(.slice A48 t40.length c49), (.int .i64 t41)] 0 w w54 HB.out (by have := HZ6.out; have := HZ10.out; have := HZ17.out; have := HZ28.out; have := HZ37.out; have := HZ39.out; have := HZ46.out; have := HZ55.out; have := GQ53.out; omega)); clear HB; have HB := hB_; clear hB_; have HZ57 := Aside0.mk (show w54.heap.size ≤ w56.heap.size from hk2_.1); have hn_ := Aside0.mk (Kd.S_kept F18.out hk2_ (fun k_ h1_ h2_ => by have := HZ6.out; have := HZ10.out; have := HZ17.out; have := HZ28.out; have := HZ37.out; have := HZ39.out; have := HZ46.out; have := HZ55.out; have := GQ53.out; have h3_ := h1_.1; omega)); clear F18; have F18 := hn_; clear hn_; have hn_ := Aside0.mk (Kd.S_kept F29.out hk2_ (fun k_ h1_ h2_ => by have := HZ6.out; have := HZ10.out; have := HZ17.out; have := HZ28.out; have := HZ37.out; have := HZ39.out; have := HZ46.out; have := HZ55.out; have := GQ53.out; have h3_ := h1_.1; omega)); clear F29; have F29 := hn_; clear hn_; have hn_ := Aside0.mk (Kd.S_kept F47.out hk2_ (fun k_ h1_ h2_ => by have := HZ6.out; have := HZ10.out; have := HZ17.out; have := HZ28.out; have := HZ37.out; have := HZ39.out; have := HZ46.out; have := HZ55.out; have := GQ53.out; have h3_ := h1_.1; omega)); clear F47; have F47 := hn_; clear hn_; clear hczb1_0 hfzb1_0; clear hczb1_1 hfzb1_1; have hn_ := Aside0.mk (blk_kept BK3.out hk2_ (fun h_ => by have := HZ6.out; have := HZ10.out; have := HZ17.out; have := HZ28.out; have := HZ37.out; have := HZ39.out; have := HZ46.out; have := HZ55.out; have := GQ53.out; have := GQ4.out; omega)); clear BK3; have BK3 := hn_; clear hn_; clear hczb32_0 hfzb32_0; clear hczb32_1 hfzb32_1; have hn_ := Aside0.mk (blk_kept BK34.out hk2_ (fun h_ => by have := HZ6.out; have := HZ10.out; have := HZ17.out; have := HZ28.out; have := HZ37.out; have := HZ39.out; have := HZ46.out; have := HZ55.out; have := GQ53.out; have := GQ35.out; omega)); clear BK34; have BK34 := hn_; clear hn_; clear hczb50_0 hfzb50_0; clear hczb50_1 hfzb50_1; clear BK52; have BK52 := Aside0.mk hx_; clear hk2_ hx_ hw_; have hczb1_0 : w56.cell? ⟨gb2, 0, none⟩ = some (.slice A0_0 l0_0.length c0_0) := (blk_cell BK3.out 0).trans rfl; have hfzb1_0 := blk_frozen BK3.out 0; have hczb1_1 : w56.cell? ⟨gb2, 1, none⟩ = some (.int .i64 a0_1) := (blk_cell BK3.out 1).trans rfl; have hfzb1_1 := blk_frozen BK3.out 1; have hczb32_0 : w56.cell? ⟨gb33, 0, none⟩ = some (.slice A30 t21.length c31) := (blk_cell BK34.out 0).trans rfl; have hfzb32_0 := blk_frozen BK34.out 0; have hczb32_1 : w56.cell? ⟨gb33, 1, none⟩ = some (.int .i64 t22) := (blk_cell BK34.out 1).trans rfl; have hfzb32_1 := blk_frozen BK34.out 1; have hczb50_0 : w56.cell? ⟨gb51, 0, none⟩ = some (.slice A48 t40.length c49) := (blk_cell BK52.out 0).trans rfl; have hfzb50_0 := blk_frozen BK52.out 0; have hczb50_1 : w56.cell? ⟨gb51, 1, none⟩ = some (.int .i64 t41) := (blk_cell BK52.out 1).trans rfl; have hfzb50_1 := blk_frozen BK52.out 1))
  refine (impl_SetMethod.calls k _ _ t40 t41 a1 a2 a3 t58 t59 t23 _ (Lk.Sr F47.out).2 (Lk.Sr F47.out).1 H61.out).mono ?_
  rintro e_ w62 ⟨v63, rfl, f64, hb⟩
  have hq_ : Below w56.heap.size w56 w62 := ⟨hb.os, hb.tape, hb.output, hb.size, hb.block⟩
  have HZ65 := Aside0.mk (show w56.heap.size ≤ w62.heap.size from hq_.size)
  have hn_ := Aside0.mk (below_then HB.out HB.out.size hq_)
  clear HB
  have HB := hn_
  clear hn_
  have hn_ := Aside0.mk (Kd.S_below F18.out hq_)
  clear F18
  have F18 := hn_
  clear hn_
  have hn_ := Aside0.mk (Kd.S_below F29.out hq_)
  clear F29
  have F29 := hn_
  clear hn_
  have hn_ := Aside0.mk (Kd.S_below F47.out hq_)
  clear F47
  have F47 := hn_
  clear hn_
  have hn_ := Aside0.mk (blk_below BK3.out hq_)
  clear hczb1_0 hfzb1_0; clear hczb1_1 hfzb1_1
  clear BK3
  have BK3 := hn_
  clear hn_
  have hn_ := Aside0.mk (blk_below BK34.out hq_)
  clear hczb32_0 hfzb32_0; clear hczb32_1 hfzb32_1
  clear BK34
  have BK34 := hn_
  clear hn_
  have hn_ := Aside0.mk (blk_below BK52.out hq_)
  clear hczb50_0 hfzb50_0; clear hczb50_1 hfzb50_1
  clear BK52
  have BK52 := hn_
  clear hn_
  clear hq_
  have hczb1_0 : w62.cell? ⟨gb2, 0, none⟩ = some (.slice A0_0 l0_0.length c0_0) := (blk_cell BK3.out 0).trans rfl; have hfzb1_0 := blk_frozen BK3.out 0; have hczb1_1 : w62.cell? ⟨gb2, 1, none⟩ = some (.int .i64 a0_1) := (blk_cell BK3.out 1).trans rfl; have hfzb1_1 := blk_frozen BK3.out 1
  have hczb32_0 : w62.cell? ⟨gb33, 0, none⟩ = some (.slice A30 t21.length c31) := (blk_cell BK34.out 0).trans rfl; have hfzb32_0 := blk_frozen BK34.out 0; have hczb32_1 : w62.cell? ⟨gb33, 1, none⟩ = some (.int .i64 t22) := (blk_cell BK34.out 1).trans rfl; have hfzb32_1 := blk_frozen BK34.out 1
  have hczb50_0 : w62.cell? ⟨gb51, 0, none⟩ = some (.slice A48 t40.length c49) := (blk_cell BK52.out 0).trans rfl; have hfzb50_0 := blk_frozen BK52.out 0; have hczb50_1 : w62.cell? ⟨gb51, 1, none⟩ = some (.int .i64 t41) := (blk_cell BK52.out 1).trans rfl; have hfzb50_1 := blk_frozen BK52.out 1
  clear hb
  have F66 := Aside0.mk (Lk.newS (b := w56.heap.size) (base := w.heap.size) (Sep := fun k_ => True) f64 (by have := HZ6.out; have := HZ10.out; have := HZ17.out; have := HZ28.out; have := HZ37.out; have := HZ39.out; have := HZ46.out; have := HZ55.out; have := HZ57.out; have := HZ65.out; omega) (fun k_ hk_ => hk_))
  clear f64
  obtain ⟨A67, c68, e_⟩ := Kd.S_slice F66.out
  subst e_
  go_wp2_with (first | ((with_reducible refine gate_dst (N := 13) rfl ?_); refine box_event ?hg (N := 13) ?hd (cs := #[.slice none 0 0, .int .i64 0]) (t := 29) ?hr ?_; (case hd => rfl); (case hg => rfl); (case hr => first | (go_simp; done) | (go_simp; rfl)); intro gb70 hg_ w73 hx_ hb; have hg2_ : gb70 = w62.heap.size := hg_; have hq_ : Below w62.heap.size w62 w73 := ⟨hb.os, hb.tape, hb.output, hb.size, hb.block⟩; have HZ74 := Aside0.mk (show w62.heap.size ≤ w73.heap.size from hq_.size); have hn_ := Aside0.mk (below_then HB.out HB.out.size hq_); clear HB; have HB := hn_; clear hn_; have hn_ := Aside0.mk (Kd.S_below F18.out hq_); clear F18; have F18 := hn_; clear hn_; have hn_ := Aside0.mk (Kd.S_below F29.out hq_); clear F29; have F29 := hn_; clear hn_; have hn_ := Aside0.mk (Kd.S_below F47.out hq_); clear F47; have F47 := hn_; clear hn_; have hn_ := Aside0.mk (Kd.S_below F66.out hq_); clear F66; have F66 := hn_; clear hn_; have hn_ := Aside0.mk (blk_below BK3.out hq_); clear hczb1_0 hfzb1_0; clear hczb1_1 hfzb1_1; clear BK3; have BK3 := hn_; clear hn_; have hn_ := Aside0.mk (blk_below BK34.out hq_); clear hczb32_0 hfzb32_0; clear hczb32_1 hfzb32_1; clear BK34; have BK34 := hn_; clear hn_; have hn_ := Aside0.mk (blk_below BK52.out hq_); clear hczb50_0 hfzb50_0; clear hczb50_1 hfzb50_1; clear BK52; have BK52 := hn_; clear hn_; clear hq_; have hczb1_0 : w73.cell? ⟨gb2, 0, none⟩ = some (.slice A0_0 l0_0.length c0_0) := (blk_cell BK3.out 0).trans rfl; have hfzb1_0 := blk_frozen BK3.out 0; have hczb1_1 : w73.cell? ⟨gb2, 1, none⟩ = some (.int .i64 a0_1) := (blk_cell BK3.out 1).trans rfl; have hfzb1_1 := blk_frozen BK3.out 1; have hczb32_0 : w73.cell? ⟨gb33, 0, none⟩ = some (.slice A30 t21.length c31) := (blk_cell BK34.out 0).trans rfl; have hfzb32_0 := blk_frozen BK34.out 0; have hczb32_1 : w73.cell? ⟨gb33, 1, none⟩ = some (.int .i64 t22) := (blk_cell BK34.out 1).trans rfl; have hfzb32_1 := blk_frozen BK34.out 1; have hczb50_0 : w73.cell? ⟨gb51, 0, none⟩ = some (.slice A48 t40.length c49) := (blk_cell BK52.out 0).trans rfl; have hfzb50_0 := blk_frozen BK52.out 0; have hczb50_1 : w73.cell? ⟨gb51, 1, none⟩ = some (.int .i64 t41) := (blk_cell BK52.out 1).trans rfl; have hfzb50_1 := blk_frozen BK52.out 1; have BK71 := Aside0.mk hx_; have GQ72 := Aside0.mk (show w62.heap.size ≤ gb70 ∧ gb70 < w73.heap.size from ⟨Nat.le_of_eq hg2_.symm, blk_lt hx_⟩); clear hb hg_ hg2_ hx_; have hczb69_0 : w73.cell? ⟨gb70, 0, none⟩ = some (.slice none 0 0) := (blk_cell BK71.out 0).trans rfl; have hfzb69_0 := blk_frozen BK71.out 0; have hczb69_1 : w73.cell? ⟨gb70, 1, none⟩ = some (.int .i64 0) := (blk_cell BK71.out 1).trans rfl; have hfzb69_1 := blk_frozen BK71.out 1) | ((with_reducible refine gate_store (t := 29) (p := 13) rfl ?_); refine store_event (t := 29) (p := 13) (v := ?vo_w75) (w1 := ((w73.setCell ⟨gb70, 0, none⟩ (.slice A67 t58.length c68)).setCell ⟨gb70, 1, none⟩ (.int .i64 t59))) ?hg ?ho ?hn ?hr ?_; (case ho => rfl); (case hg => rfl); (case hn => rfl); (case hr => first | (go_simp; done) | (go_simp; rfl)); intro w75 hw_; have hx_ : w75.heap[gb70]? = some (.cells #[(.slice A67 t58.length c68), (.int .i64 t59)] 29 (0, 0)) := (by rw [hw_]; exact Lk.filled (us := [(.slice A67 t58.length c68), (.int .i64 t59)]) BK71.out rfl); have hk2_ : Kept w73 w75 (fun k_ => k_ = gb70) := (by rw [hw_]; exact Lk.fill_kept [(.slice A67 t58.length c68), (.int .i64 t59)] 0 w73); have hB_ := Aside0.mk (show Below w.heap.size w w75 by rw [hw_]; exact Lk.fill_below [(.slice A67 t58.length c68), (.int .i64 t59)] 0 w w73 HB.out (by have := HZ6.out; have := HZ10.out; have := HZ17.out; have := HZ28.out; have := HZ37.out; have := HZ39.out; have := HZ46.out; have := HZ55.out; have := HZ57.out; have := HZ65.out; have := HZ74.out; have := GQ72.out; omega)); clear HB; have HB := hB_; clear hB_; have HZ76 := Aside0.mk (show w73.heap.size ≤ w75.heap.size from hk2_.1); have hn_ := Aside0.mk (Kd.S_kept F18.out hk2_ (fun k_ h1_ h2_ => by have := HZ6.out; have := HZ10.out; have := HZ17.out; have := HZ28.out; have := HZ37.out; have := HZ39.out; have := HZ46.out; have := HZ55.out; have := HZ57.out; have := HZ65.out; have := HZ74.out; have := GQ72.out; have h3_ := h1_.1; omega)); clear F18; have F18 := hn_; clear hn_; have hn_ := Aside0.mk (Kd.S_kept F29.out hk2_ (fun k_ h1_ h2_ => by have := HZ6.out; have := HZ10.out; have := HZ17.out; have := HZ28.out; have := HZ37.out; have := HZ39.out; have := HZ46.out; have := HZ55.out; have := HZ57.out; have := HZ65.out; have := HZ74.out; have := GQ72.out; have h3_ := h1_.1; omega)); clear F29; have F29 := hn_; clear hn_; have hn_ := Aside0.mk (Kd.S_kept F47.out hk2_ (fun k_ h1_ h2_ => by have := HZ6.out; have := HZ10.out; have := HZ17.out; have := HZ28.out; have := HZ37.out; have := HZ39.out; have := HZ46.out; have := HZ55.out; have := HZ57.out; have := HZ65.out; have := HZ74.out; have := GQ72.out; have h3_ := h1_.1; omega)); clear F47; have F47 := hn_; clear hn_; have hn_ := Aside0.mk (Kd.S_kept F66.out hk2_ (fun k_ h1_ h2_ => by have := HZ6.out; have := HZ10.out; have := HZ17.out; have := HZ28.out; have := HZ37.out; have := HZ39.out; have := HZ46.out; have := HZ55.out; have := HZ57.out; have := HZ65.out; have := HZ74.out; have := GQ72.out; have h3_ := h1_.1; omega)); clear F66; have F66 := hn_; clear hn_; clear hczb1_0 hfzb1_0; clear hczb1_1 hfzb1_1; have hn_ := Aside0.mk (blk_kept BK3.out hk2_ (fun h_ => by have := HZ6.out; have := HZ10.out; have := HZ17.out; have := HZ28.out; have := HZ37.out; have := HZ39.out; have := HZ46.out; have := HZ55.out; have := HZ57.out; have := HZ65.out; have := HZ74.out; have := GQ72.out; have := GQ4.out; omega)); clear BK3; have BK3 := hn_; clear hn_; clear hczb32_0 hfzb32_0; clear hczb32_1 hfzb32_1; have hn_ := Aside0.mk (blk_kept BK34.out hk2_ (fun h_ => by have := HZ6.out; have := HZ10.out; have := HZ17.out; have := HZ28.out; have := HZ37.out; have := HZ39.out; have := HZ46.out; have := HZ55.out; have := HZ57.out; have := HZ65.out; have := HZ74.out; have := GQ72.out; have := GQ35.out; omega)); clear BK34; have BK34 := hn_; clear hn_; clear hczb50_0 hfzb50_0; clear hczb50_1 hfzb50_1; have hn_ := Aside0.mk (blk_kept BK52.out hk2_ (fun h_ => by have := HZ6.out; have := HZ10.out; have := HZ17.out; have := HZ28.out; have := HZ37.out; have := HZ39.out; have := HZ46.out; have := HZ55.out; have := HZ57.out; have := HZ65.out; have := HZ74.out; have := GQ72.out; have := GQ53.out; omega)); clear BK52; have BK52 := hn_; clear hn_; clear hczb69_0 hfzb69_0; clear hczb69_1 hfzb69_1; clear BK71; have BK71 := Aside0.mk hx_; clear hk2_ hx_ hw_; have hczb1_0 : w75.cell? ⟨gb2, 0, none⟩ = some (.slice A0_0 l0_0.length c0_0) := (blk_cell BK3.out 0).trans rfl; have hfzb1_0 := blk_frozen BK3.out 0; have hczb1_1 : w75.cell? ⟨gb2, 1, none⟩ = some (.int .i64 a0_1) := (blk_cell BK3.out 1).trans rfl; have hfzb1_1 := blk_frozen BK3.out 1; have hczb32_0 : w75.cell? ⟨gb33, 0, none⟩ = some (.slice A30 t21.length c31) := (blk_cell BK34.out 0).trans rfl; have hfzb32_0 := blk_frozen BK34.out 0; have hczb32_1 : w75.cell? ⟨gb33, 1, none⟩ = some (.int .i64 t22) := (blk_cell BK34.out 1).trans rfl; have hfzb32_1 := blk_frozen BK34.out 1; have hczb50_0 : w75.cell? ⟨gb51, 0, none⟩ = some (.slice A48 t40.length c49) := (blk_cell BK52.out 0).trans rfl; have hfzb50_0 := blk_frozen BK52.out 0; have hczb50_1 : w75.cell? ⟨gb51, 1, none⟩ = some (.int .i64 t41) := (blk_cell BK52.out 1).trans rfl; have hfzb50_1 := blk_frozen BK52.out 1; have hczb69_0 : w75.cell? ⟨gb70, 0, none⟩ = some (.slice A67 t58.length c68) := (blk_cell BK71.out 0).trans rfl; have hfzb69_0 := blk_frozen BK71.out 0; have hczb69_1 : w75.cell? ⟨gb70, 1, none⟩ = some (.int .i64 t59) := (blk_cell BK71.out 1).trans rfl; have hfzb69_1 := blk_frozen BK71.out 1))
  refine (laws_eqWorld.calls k _ _ t58 t59 _ _ t21 t22 true _ (Lk.Sr F66.out).2 (Lk.Sr F66.out).1 (Lk.Sr F29.out).2 (Lk.Sr F29.out).1 H78.out).mono ?_
  rintro e_ w79 ⟨rfl, hb⟩
  have hq_ : Below w75.heap.size w75 w79 := ⟨hb.os, hb.tape, hb.output, hb.size, hb.block⟩
  have HZ80 := Aside0.mk (show w75.heap.size ≤ w79.heap.size from hq_.size)
  have hn_ := Aside0.mk (below_then HB.out HB.out.size hq_)
  clear HB
  have HB := hn_
  clear hn_
  have hn_ := Aside0.mk (Kd.S_below F18.out hq_)
  clear F18
  have F18 := hn_
  clear hn_
  have hn_ := Aside0.mk (Kd.S_below F29.out hq_)
  clear F29
  have F29 := hn_
  clear hn_
  have hn_ := Aside0.mk (Kd.S_below F47.out hq_)
  clear F47
  have F47 := hn_
  clear hn_
  have hn_ := Aside0.mk (Kd.S_below F66.out hq_)
  clear F66
  have F66 := hn_
  clear hn_
  have hn_ := Aside0.mk (blk_below BK3.out hq_)
  clear hczb1_0 hfzb1_0; clear hczb1_1 hfzb1_1
  clear BK3
  have BK3 := hn_
  clear hn_
  have hn_ := Aside0.mk (blk_below BK34.out hq_)
  clear hczb32_0 hfzb32_0; clear hczb32_1 hfzb32_1
  clear BK34
  have BK34 := hn_
  clear hn_
  have hn_ := Aside0.mk (blk_below BK52.out hq_)
  clear hczb50_0 hfzb50_0; clear hczb50_1 hfzb50_1
  clear BK52
  have BK52 := hn_
  clear hn_
  have hn_ := Aside0.mk (blk_below BK71.out hq_)
  clear hczb69_0 hfzb69_0; clear hczb69_1 hfzb69_1
  clear BK71
  have BK71 := hn_
  clear hn_
  clear hq_
  have hczb1_0 : w79.cell? ⟨gb2, 0, none⟩ = some (.slice A0_0 l0_0.length c0_0) := (blk_cell BK3.out 0).trans rfl; have hfzb1_0 := blk_frozen BK3.out 0; have hczb1_1 : w79.cell? ⟨gb2, 1, none⟩ = some (.int .i64 a0_1) := (blk_cell BK3.out 1).trans rfl; have hfzb1_1 := blk_frozen BK3.out 1
  have hczb32_0 : w79.cell? ⟨gb33, 0, none⟩ = some (.slice A30 t21.length c31) := (blk_cell BK34.out 0).trans rfl; have hfzb32_0 := blk_frozen BK34.out 0; have hczb32_1 : w79.cell? ⟨gb33, 1, none⟩ = some (.int .i64 t22) := (blk_cell BK34.out 1).trans rfl; have hfzb32_1 := blk_frozen BK34.out 1
  have hczb50_0 : w79.cell? ⟨gb51, 0, none⟩ = some (.slice A48 t40.length c49) := (blk_cell BK52.out 0).trans rfl; have hfzb50_0 := blk_frozen BK52.out 0; have hczb50_1 : w79.cell? ⟨gb51, 1, none⟩ = some (.int .i64 t41) := (blk_cell BK52.out 1).trans rfl; have hfzb50_1 := blk_frozen BK52.out 1
  have hczb69_0 : w79.cell? ⟨gb70, 0, none⟩ = some (.slice A67 t58.length c68) := (blk_cell BK71.out 0).trans rfl; have hfzb69_0 := blk_frozen BK71.out 0; have hczb69_1 : w79.cell? ⟨gb70, 1, none⟩ = some (.int .i64 t59) := (blk_cell BK71.out 1).trans rfl; have hfzb69_1 := blk_frozen BK71.out 1
  clear hb
  go_wp2_with fail
  have hb : Below w79.heap.size w79 w79.drew := below_drew (Below.refl _ _)
  obtain ⟨w81, hw_⟩ : ∃ w81, w79.drew = w81 := ⟨_, rfl⟩
  rw [hw_] at hb
  have hq_ : Below w79.heap.size w79 w81 := ⟨hb.os, hb.tape, hb.output, hb.size, hb.block⟩
  have HZ82 := Aside0.mk (show w79.heap.size ≤ w81.heap.size from hq_.size)
  have hn_ := Aside0.mk (below_then HB.out HB.out.size hq_)
  clear HB
  have HB := hn_
  clear hn_
  have hn_ := Aside0.mk (Kd.S_below F18.out hq_)
  clear F18
  have F18 := hn_
  clear hn_
  have hn_ := Aside0.mk (Kd.S_below F29.out hq_)
  clear F29
  have F29 := hn_
  clear hn_
  have hn_ := Aside0.mk (Kd.S_below F47.out hq_)
  clear F47
  have F47 := hn_
  clear hn_
  have hn_ := Aside0.mk (Kd.S_below F66.out hq_)
  clear F66
  have F66 := hn_
  clear hn_
  have hn_ := Aside0.mk (blk_below BK3.out hq_)
  clear hczb1_0 hfzb1_0; clear hczb1_1 hfzb1_1
  clear BK3
  have BK3 := hn_
  clear hn_
  have hn_ := Aside0.mk (blk_below BK34.out hq_)
  clear hczb32_0 hfzb32_0; clear hczb32_1 hfzb32_1
  clear BK34
  have BK34 := hn_
  clear hn_
  have hn_ := Aside0.mk (blk_below BK52.out hq_)
  clear hczb50_0 hfzb50_0; clear hczb50_1 hfzb50_1
  clear BK52
  have BK52 := hn_
  clear hn_
  have hn_ := Aside0.mk (blk_below BK71.out hq_)
  clear hczb69_0 hfzb69_0; clear hczb69_1 hfzb69_1
  clear BK71
  have BK71 := hn_
  clear hn_
  clear hq_
  have hczb1_0 : w81.cell? ⟨gb2, 0, none⟩ = some (.slice A0_0 l0_0.length c0_0) := (blk_cell BK3.out 0).trans rfl; have hfzb1_0 := blk_frozen BK3.out 0; have hczb1_1 : w81.cell? ⟨gb2, 1, none⟩ = some (.int .i64 a0_1) := (blk_cell BK3.out 1).trans rfl; have hfzb1_1 := blk_frozen BK3.out 1
  have hczb32_0 : w81.cell? ⟨gb33, 0, none⟩ = some (.slice A30 t21.length c31) := (blk_cell BK34.out 0).trans rfl; have hfzb32_0 := blk_frozen BK34.out 0; have hczb32_1 : w81.cell? ⟨gb33, 1, none⟩ = some (.int .i64 t22) := (blk_cell BK34.out 1).trans rfl; have hfzb32_1 := blk_frozen BK34.out 1
  have hczb50_0 : w81.cell? ⟨gb51, 0, none⟩ = some (.slice A48 t40.length c49) := (blk_cell BK52.out 0).trans rfl; have hfzb50_0 := blk_frozen BK52.out 0; have hczb50_1 : w81.cell? ⟨gb51, 1, none⟩ = some (.int .i64 t41) := (blk_cell BK52.out 1).trans rfl; have hfzb50_1 := blk_frozen BK52.out 1
  have hczb69_0 : w81.cell? ⟨gb70, 0, none⟩ = some (.slice A67 t58.length c68) := (blk_cell BK71.out 0).trans rfl; have hfzb69_0 := blk_frozen BK71.out 0; have hczb69_1 : w81.cell? ⟨gb70, 1, none⟩ = some (.int .i64 t59) := (blk_cell BK71.out 1).trans rfl; have hfzb69_1 := blk_frozen BK71.out 1
  refine start_ (n := 5) (S := fun w' => w'.cell? ⟨gb51, 0, none⟩ = some (.slice A48 t40.length c49) ∧ w'.cell? ⟨gb51, 1, none⟩ = some (.int .i64 t41) ∧ w'.cell? ⟨gb2, 0, none⟩ = some (.slice A0_0 l0_0.length c0_0) ∧ w'.cell? ⟨gb2, 1, none⟩ = some (.int .i64 a0_1)) (ds := []) #[false, false, false, false, false] (by kernel_rfl) rfl rfl (by rw [hw_]; exact ⟨(blk_cell BK52.out 0).trans rfl, (blk_cell BK52.out 1).trans rfl, (blk_cell BK3.out 0).trans rfl, (blk_cell BK3.out 1).trans rfl⟩) (fun hHeld => ?_)
  rw [hw_] at hHeld ⊢
  clear hw_ hb
  refine take_ (i := 0) (N := some 53) (v := ?_) (a' := ?_) #[true, false, false, false, false] rfl rfl (by kernel_rfl) (fun _ _ _ h => h) (Or.inl ⟨by rfl, ?_⟩) hHeld ?_ ?_
  rotate_left
  · rintro w' ⟨s0, s1, s2, s3⟩
    go_simp
    with_reducible rfl
  rotate_left
  · simp only [Act.put, List.setIfInBounds_toArray, List.set_cons_zero, List.set_cons_succ, i64_w, i32_w]
    rfl
  refine take_ (i := 1) (N := some 54) (v := ?_) (a' := ?_) #[true, true, false, false, false] rfl rfl (by kernel_rfl) (fun _ _ _ h => h) (Or.inl ⟨by rfl, ?_⟩) hHeld ?_ ?_
  rotate_left
  · rintro w' ⟨s0, s1, s2, s3⟩
    go_simp
    with_reducible rfl
  rotate_left
  · simp only [Act.put, List.setIfInBounds_toArray, List.set_cons_zero, List.set_cons_succ, i64_w, i32_w]
    rfl
  refine one_ (i := 2) (N := some 55) #[true, true, true, false, false] rfl rfl (by kernel_rfl) (by decide) (fun K hK => ?_)
  refine goes_ Try.func15 (by kernel_rfl) rfl #[.agg #[.slice A0_0 l0_0.length c0_0, .int .i64 a0_1]] (by rfl) rfl rfl (by (try simp only [List.map_toArray, List.map_cons, List.map_nil]); first | done | rfl | (simp only [List.length_drop, List.length_take]; rfl)) ?_
  refine (laws_toWorld.calls k _ _ l0_0 a0_1 t83 t84 _ (Kd.C_below HR0_0.out HB.out) HC0_0.out H85.out).mono ?_
  rintro e_ w86 ⟨v87, rfl, f88, hb⟩
  have hq_ : Below w81.heap.size w81 w86 := ⟨hb.os, hb.tape, hb.output, hb.size, hb.block⟩
  have HZ89 := Aside0.mk (show w81.heap.size ≤ w86.heap.size from hq_.size)
  have hn_ := Aside0.mk (below_then HB.out HB.out.size hq_)
  clear HB
  have HB := hn_
  clear hn_
  have hn_ := Aside0.mk (Kd.S_below F18.out hq_)
  clear F18
  have F18 := hn_
  clear hn_
  have hn_ := Aside0.mk (Kd.S_below F29.out hq_)
  clear F29
  have F29 := hn_
  clear hn_
  have hn_ := Aside0.mk (Kd.S_below F47.out hq_)
  clear F47
  have F47 := hn_
  clear hn_
  have hn_ := Aside0.mk (Kd.S_below F66.out hq_)
  clear F66
  have F66 := hn_
  clear hn_
  have hn_ := Aside0.mk (blk_below BK3.out hq_)
  clear hczb1_0 hfzb1_0; clear hczb1_1 hfzb1_1
  clear BK3
  have BK3 := hn_
  clear hn_
  have hn_ := Aside0.mk (blk_below BK34.out hq_)
  clear hczb32_0 hfzb32_0; clear hczb32_1 hfzb32_1
  clear BK34
  have BK34 := hn_
  clear hn_
  have hn_ := Aside0.mk (blk_below BK52.out hq_)
  clear hczb50_0 hfzb50_0; clear hczb50_1 hfzb50_1
  clear BK52
  have BK52 := hn_
  clear hn_
  have hn_ := Aside0.mk (blk_below BK71.out hq_)
  clear hczb69_0 hfzb69_0; clear hczb69_1 hfzb69_1
  clear BK71
  have BK71 := hn_
  clear hn_
  clear hq_
  have hczb1_0 : w86.cell? ⟨gb2, 0, none⟩ = some (.slice A0_0 l0_0.length c0_0) := (blk_cell BK3.out 0).trans rfl; have hfzb1_0 := blk_frozen BK3.out 0; have hczb1_1 : w86.cell? ⟨gb2, 1, none⟩ = some (.int .i64 a0_1) := (blk_cell BK3.out 1).trans rfl; have hfzb1_1 := blk_frozen BK3.out 1
  have hczb32_0 : w86.cell? ⟨gb33, 0, none⟩ = some (.slice A30 t21.length c31) := (blk_cell BK34.out 0).trans rfl; have hfzb32_0 := blk_frozen BK34.out 0; have hczb32_1 : w86.cell? ⟨gb33, 1, none⟩ = some (.int .i64 t22) := (blk_cell BK34.out 1).trans rfl; have hfzb32_1 := blk_frozen BK34.out 1
  have hczb50_0 : w86.cell? ⟨gb51, 0, none⟩ = some (.slice A48 t40.length c49) := (blk_cell BK52.out 0).trans rfl; have hfzb50_0 := blk_frozen BK52.out 0; have hczb50_1 : w86.cell? ⟨gb51, 1, none⟩ = some (.int .i64 t41) := (blk_cell BK52.out 1).trans rfl; have hfzb50_1 := blk_frozen BK52.out 1
  have hczb69_0 : w86.cell? ⟨gb70, 0, none⟩ = some (.slice A67 t58.length c68) := (blk_cell BK71.out 0).trans rfl; have hfzb69_0 := blk_frozen BK71.out 0; have hczb69_1 : w86.cell? ⟨gb70, 1, none⟩ = some (.int .i64 t59) := (blk_cell BK71.out 1).trans rfl; have hfzb69_1 := blk_frozen BK71.out 1
  clear hb
  refine ⟨_, rfl, ?_⟩
  have F90 := Aside0.mk (Lk.newS (b := w81.heap.size) (base := w.heap.size) (Sep := fun k_ => True) f88 (by have := HZ6.out; have := HZ10.out; have := HZ17.out; have := HZ28.out; have := HZ37.out; have := HZ39.out; have := HZ46.out; have := HZ55.out; have := HZ57.out; have := HZ65.out; have := HZ74.out; have := HZ76.out; have := HZ80.out; have := HZ82.out; have := HZ89.out; omega) (fun k_ hk_ => hk_))
  clear f88
  obtain ⟨A91, c92, e_⟩ := Kd.S_slice F90.out
  subst e_
  refine hK.out _ _ ⟨(blk_cell BK52.out 0).trans rfl, (blk_cell BK52.out 1).trans rfl, (blk_cell BK3.out 0).trans rfl, (blk_cell BK3.out 1).trans rfl⟩ (fun hHeld => ?_)
  clear hK K
  refine norm_ (a' := ?_) ?_ ?_
  rotate_left
  · show Act.put _ (some 55) _ = _
    simp only [Act.put, List.setIfInBounds_toArray, List.set_cons_zero, List.set_cons_succ, i64_w, i32_w]
    rfl
  refine one_ (i := 3) (N := some 56) #[true, true, true, true, false] rfl rfl (by kernel_rfl) (by decide) (fun K hK => ?_)
  refine goes_ Try.func17 (by kernel_rfl) rfl #[.agg #[.slice A48 t40.length c49, .int .i64 t41], .agg #[.slice A91 t83.length c92, .int .i64 t84]] (by rfl) rfl rfl (by (try simp only [List.map_toArray, List.map_cons, List.map_nil]); first | done | rfl | (simp only [List.length_drop, List.length_take]; rfl)) ?_
  refine (laws_eqWorld.calls k _ _ t40 t41 _ _ t83 t84 true _ (Lk.Sr F47.out).2 (Lk.Sr F47.out).1 (Lk.Sr F90.out).2 (Lk.Sr F90.out).1 H94.out).mono ?_
  rintro e_ w95 ⟨rfl, hb⟩
  have hq_ : Below w86.heap.size w86 w95 := ⟨hb.os, hb.tape, hb.output, hb.size, hb.block⟩
  have HZ96 := Aside0.mk (show w86.heap.size ≤ w95.heap.size from hq_.size)
  have hn_ := Aside0.mk (below_then HB.out HB.out.size hq_)
  clear HB
  have HB := hn_
  clear hn_
  have hn_ := Aside0.mk (Kd.S_below F18.out hq_)
  clear F18
  have F18 := hn_
  clear hn_
  have hn_ := Aside0.mk (Kd.S_below F29.out hq_)
  clear F29
  have F29 := hn_
  clear hn_
  have hn_ := Aside0.mk (Kd.S_below F47.out hq_)
  clear F47
  have F47 := hn_
  clear hn_
  have hn_ := Aside0.mk (Kd.S_below F66.out hq_)
  clear F66
  have F66 := hn_
  clear hn_
  have hn_ := Aside0.mk (Kd.S_below F90.out hq_)
  clear F90
  have F90 := hn_
  clear hn_
  have hn_ := Aside0.mk (blk_below BK3.out hq_)
  clear hczb1_0 hfzb1_0; clear hczb1_1 hfzb1_1
  clear BK3
  have BK3 := hn_
  clear hn_
  have hn_ := Aside0.mk (blk_below BK34.out hq_)
  clear hczb32_0 hfzb32_0; clear hczb32_1 hfzb32_1
  clear BK34
  have BK34 := hn_
  clear hn_
  have hn_ := Aside0.mk (blk_below BK52.out hq_)
  clear hczb50_0 hfzb50_0; clear hczb50_1 hfzb50_1
  clear BK52
  have BK52 := hn_
  clear hn_
  have hn_ := Aside0.mk (blk_below BK71.out hq_)
  clear hczb69_0 hfzb69_0; clear hczb69_1 hfzb69_1
  clear BK71
  have BK71 := hn_
  clear hn_
  clear hq_
  have hczb1_0 : w95.cell? ⟨gb2, 0, none⟩ = some (.slice A0_0 l0_0.length c0_0) := (blk_cell BK3.out 0).trans rfl; have hfzb1_0 := blk_frozen BK3.out 0; have hczb1_1 : w95.cell? ⟨gb2, 1, none⟩ = some (.int .i64 a0_1) := (blk_cell BK3.out 1).trans rfl; have hfzb1_1 := blk_frozen BK3.out 1
  have hczb32_0 : w95.cell? ⟨gb33, 0, none⟩ = some (.slice A30 t21.length c31) := (blk_cell BK34.out 0).trans rfl; have hfzb32_0 := blk_frozen BK34.out 0; have hczb32_1 : w95.cell? ⟨gb33, 1, none⟩ = some (.int .i64 t22) := (blk_cell BK34.out 1).trans rfl; have hfzb32_1 := blk_frozen BK34.out 1
  have hczb50_0 : w95.cell? ⟨gb51, 0, none⟩ = some (.slice A48 t40.length c49) := (blk_cell BK52.out 0).trans rfl; have hfzb50_0 := blk_frozen BK52.out 0; have hczb50_1 : w95.cell? ⟨gb51, 1, none⟩ = some (.int .i64 t41) := (blk_cell BK52.out 1).trans rfl; have hfzb50_1 := blk_frozen BK52.out 1
  have hczb69_0 : w95.cell? ⟨gb70, 0, none⟩ = some (.slice A67 t58.length c68) := (blk_cell BK71.out 0).trans rfl; have hfzb69_0 := blk_frozen BK71.out 0; have hczb69_1 : w95.cell? ⟨gb70, 1, none⟩ = some (.int .i64 t59) := (blk_cell BK71.out 1).trans rfl; have hfzb69_1 := blk_frozen BK71.out 1
  clear hb
  refine ⟨_, rfl, ?_⟩
  refine hK.out _ _ ⟨(blk_cell BK52.out 0).trans rfl, (blk_cell BK52.out 1).trans rfl, (blk_cell BK3.out 0).trans rfl, (blk_cell BK3.out 1).trans rfl⟩ (fun hHeld => ?_)
  clear hK K
  refine norm_ (a' := ?_) ?_ ?_
  rotate_left
  · show Act.put _ (some 56) _ = _
    simp only [Act.put, List.setIfInBounds_toArray, List.set_cons_zero, List.set_cons_succ, i64_w, i32_w]
    rfl
  refine pure_ (i := 4) (N := some 57) (v := ?_) (a' := ?_) #[true, true, true, true, true] rfl rfl (by kernel_rfl) (fun _ _ _ h => h) (Or.inl ⟨by rfl, ?_⟩) ?_ ?_
  rotate_left
  · intro w'
    go_simp
    with_reducible rfl
  rotate_left
  · simp only [Act.put, List.setIfInBounds_toArray, List.set_cons_zero, List.set_cons_succ, i64_w, i32_w]
    rfl
  refine done_ (by kernel_rfl) ?_
  go_wp2_with fail
  have hn_ := H98.out
  refine (laws_markWorld.calls (fun k_ => (w38.heap.size ≤ k_ ∧ k_ < w43.heap.size) ∧ (True)) _ t40 t41 1 w _ HB.out F47.out (by omega) hn_).mono ?_
  rintro e_ w97 ⟨rfl, f0_, hb0_, hk_⟩
  have hk2_ : Kept w95 w97 (fun k_ => w38.heap.size ≤ k_ ∧ k_ < w43.heap.size) := Kept.mono hk_ (fun k_ h_ => by first | exact h_ | exact h_.1)
  have HZ99 := Aside0.mk (show w95.heap.size ≤ w97.heap.size from hk2_.1)
  clear HB
  have HB := Aside0.mk hb0_
  have hn_ := Aside0.mk (Kd.S_kept F18.out hk2_ (fun k_ h1_ h2_ => by have := HZ6.out; have := HZ10.out; have := HZ17.out; have := HZ28.out; have := HZ37.out; have := HZ39.out; have := HZ46.out; have := HZ55.out; have := HZ57.out; have := HZ65.out; have := HZ74.out; have := HZ76.out; have := HZ80.out; have := HZ82.out; have := HZ89.out; have := HZ96.out; have h3_ := h1_.1; omega))
  clear F18
  have F18 := hn_
  clear hn_
  have hn_ := Aside0.mk (Kd.S_kept F29.out hk2_ (fun k_ h1_ h2_ => by have := HZ6.out; have := HZ10.out; have := HZ17.out; have := HZ28.out; have := HZ37.out; have := HZ39.out; have := HZ46.out; have := HZ55.out; have := HZ57.out; have := HZ65.out; have := HZ74.out; have := HZ76.out; have := HZ80.out; have := HZ82.out; have := HZ89.out; have := HZ96.out; have h3_ := h1_.1; omega))
  clear F29
  have F29 := hn_
  clear hn_
  have hn_ := Aside0.mk (Kd.S_kept F66.out hk2_ (fun k_ h1_ h2_ => by have := HZ6.out; have := HZ10.out; have := HZ17.out; have := HZ28.out; have := HZ37.out; have := HZ39.out; have := HZ46.out; have := HZ55.out; have := HZ57.out; have := HZ65.out; have := HZ74.out; have := HZ76.out; have := HZ80.out; have := HZ82.out; have := HZ89.out; have := HZ96.out; have h3_ := h1_.1; omega))
  clear F66
  have F66 := hn_
  clear hn_
  have hn_ := Aside0.mk (Kd.S_kept F90.out hk2_ (fun k_ h1_ h2_ => by have := HZ6.out; have := HZ10.out; have := HZ17.out; have := HZ28.out; have := HZ37.out; have := HZ39.out; have := HZ46.out; have := HZ55.out; have := HZ57.out; have := HZ65.out; have := HZ74.out; have := HZ76.out; have := HZ80.out; have := HZ82.out; have := HZ89.out; have := HZ96.out; have h3_ := h1_.1; omega))
  clear F90
  have F90 := hn_
  clear hn_
  have hn_ := Aside0.mk (f0_)
  have F47n := hn_
  clear hn_
  clear F47
  have F47 := F47n
  clear F47n
  have hn_ := Aside0.mk (blk_kept BK3.out hk2_ (fun h_ => by have := HZ6.out; have := HZ10.out; have := HZ17.out; have := HZ28.out; have := HZ37.out; have := HZ39.out; have := HZ46.out; have := HZ55.out; have := HZ57.out; have := HZ65.out; have := HZ74.out; have := HZ76.out; have := HZ80.out; have := HZ82.out; have := HZ89.out; have := HZ96.out; have := GQ4.out; omega))
  clear hczb1_0 hfzb1_0; clear hczb1_1 hfzb1_1
  clear BK3
  have BK3 := hn_
  clear hn_
  have hn_ := Aside0.mk (blk_kept BK34.out hk2_ (fun h_ => by have := HZ6.out; have := HZ10.out; have := HZ17.out; have := HZ28.out; have := HZ37.out; have := HZ39.out; have := HZ46.out; have := HZ55.out; have := HZ57.out; have := HZ65.out; have := HZ74.out; have := HZ76.out; have := HZ80.out; have := HZ82.out; have := HZ89.out; have := HZ96.out; have := GQ35.out; omega))
  clear hczb32_0 hfzb32_0; clear hczb32_1 hfzb32_1
  clear BK34
  have BK34 := hn_
  clear hn_
  have hn_ := Aside0.mk (blk_kept BK52.out hk2_ (fun h_ => by have := HZ6.out; have := HZ10.out; have := HZ17.out; have := HZ28.out; have := HZ37.out; have := HZ39.out; have := HZ46.out; have := HZ55.out; have := HZ57.out; have := HZ65.out; have := HZ74.out; have := HZ76.out; have := HZ80.out; have := HZ82.out; have := HZ89.out; have := HZ96.out; have := GQ53.out; omega))
  clear hczb50_0 hfzb50_0; clear hczb50_1 hfzb50_1
  clear BK52
  have BK52 := hn_
  clear hn_
  have hn_ := Aside0.mk (blk_kept BK71.out hk2_ (fun h_ => by have := HZ6.out; have := HZ10.out; have := HZ17.out; have := HZ28.out; have := HZ37.out; have := HZ39.out; have := HZ46.out; have := HZ55.out; have := HZ57.out; have := HZ65.out; have := HZ74.out; have := HZ76.out; have := HZ80.out; have := HZ82.out; have := HZ89.out; have := HZ96.out; have := GQ72.out; omega))
  clear hczb69_0 hfzb69_0; clear hczb69_1 hfzb69_1
  clear BK71
  have BK71 := hn_
  clear hn_
  clear hk2_ hk_ hb0_ f0_
  have hczb1_0 : w97.cell? ⟨gb2, 0, none⟩ = some (.slice A0_0 l0_0.length c0_0) := (blk_cell BK3.out 0).trans rfl; have hfzb1_0 := blk_frozen BK3.out 0; have hczb1_1 : w97.cell? ⟨gb2, 1, none⟩ = some (.int .i64 a0_1) := (blk_cell BK3.out 1).trans rfl; have hfzb1_1 := blk_frozen BK3.out 1
  have hczb32_0 : w97.cell? ⟨gb33, 0, none⟩ = some (.slice A30 t21.length c31) := (blk_cell BK34.out 0).trans rfl; have hfzb32_0 := blk_frozen BK34.out 0; have hczb32_1 : w97.cell? ⟨gb33, 1, none⟩ = some (.int .i64 t22) := (blk_cell BK34.out 1).trans rfl; have hfzb32_1 := blk_frozen BK34.out 1
  have hczb50_0 : w97.cell? ⟨gb51, 0, none⟩ = some (.slice A48 t40.length c49) := (blk_cell BK52.out 0).trans rfl; have hfzb50_0 := blk_frozen BK52.out 0; have hczb50_1 : w97.cell? ⟨gb51, 1, none⟩ = some (.int .i64 t41) := (blk_cell BK52.out 1).trans rfl; have hfzb50_1 := blk_frozen BK52.out 1
  have hczb69_0 : w97.cell? ⟨gb70, 0, none⟩ = some (.slice A67 t58.length c68) := (blk_cell BK71.out 0).trans rfl; have hfzb69_0 := blk_frozen BK71.out 0; have hczb69_1 : w97.cell? ⟨gb70, 1, none⟩ = some (.int .i64 t59) := (blk_cell BK71.out 1).trans rfl; have hfzb69_1 := blk_frozen BK71.out 1
  have hl100 := (Kd.S_reads' F47.out).1
  have HL100 := Aside0.mk hl100
  clear hl100
  have hn1_ : decide ((1 + (markClassS_cnt t40 : Nat) : Int) < 0) = false := decide_eq_false (by omega)
  have hd101 := hn1_
  clear hn1_
  go_wp2_with fail
  refine (laws_eqWorld.calls k _ _ t58 t59 _ _ t21 t22 true _ (Lk.Sr F66.out).2 (Lk.Sr F66.out).1 (Lk.Sr F29.out).2 (Lk.Sr F29.out).1 H103.out).mono ?_
  rintro e_ w104 ⟨rfl, hb⟩
  have hq_ : Below w97.heap.size w97 w104 := ⟨hb.os, hb.tape, hb.output, hb.size, hb.block⟩
  have HZ105 := Aside0.mk (show w97.heap.size ≤ w104.heap.size from hq_.size)
  have hn_ := Aside0.mk (below_then HB.out HB.out.size hq_)
  clear HB
  have HB := hn_
  clear hn_
  have hn_ := Aside0.mk (Kd.S_below F18.out hq_)
  clear F18
  have F18 := hn_
  clear hn_
  have hn_ := Aside0.mk (Kd.S_below F29.out hq_)
  clear F29
  have F29 := hn_
  clear hn_
  have hn_ := Aside0.mk (Kd.S_below F47.out hq_)
  clear F47
  have F47 := hn_
  clear hn_
  have hn_ := Aside0.mk (Kd.S_below F66.out hq_)
  clear F66
  have F66 := hn_
  clear hn_
  have hn_ := Aside0.mk (Kd.S_below F90.out hq_)
  clear F90
  have F90 := hn_
  clear hn_
  have hn_ := Aside0.mk (blk_below BK3.out hq_)
  clear hczb1_0 hfzb1_0; clear hczb1_1 hfzb1_1
  clear BK3
  have BK3 := hn_
  clear hn_
  have hn_ := Aside0.mk (blk_below BK34.out hq_)
  clear hczb32_0 hfzb32_0; clear hczb32_1 hfzb32_1
  clear BK34
  have BK34 := hn_
  clear hn_
  have hn_ := Aside0.mk (blk_below BK52.out hq_)
  clear hczb50_0 hfzb50_0; clear hczb50_1 hfzb50_1
  clear BK52
  have BK52 := hn_
  clear hn_
  have hn_ := Aside0.mk (blk_below BK71.out hq_)
  clear hczb69_0 hfzb69_0; clear hczb69_1 hfzb69_1
  clear BK71
  have BK71 := hn_
  clear hn_
  clear hq_
  have hczb1_0 : w104.cell? ⟨gb2, 0, none⟩ = some (.slice A0_0 l0_0.length c0_0) := (blk_cell BK3.out 0).trans rfl; have hfzb1_0 := blk_frozen BK3.out 0; have hczb1_1 : w104.cell? ⟨gb2, 1, none⟩ = some (.int .i64 a0_1) := (blk_cell BK3.out 1).trans rfl; have hfzb1_1 := blk_frozen BK3.out 1
  have hczb32_0 : w104.cell? ⟨gb33, 0, none⟩ = some (.slice A30 t21.length c31) := (blk_cell BK34.out 0).trans rfl; have hfzb32_0 := blk_frozen BK34.out 0; have hczb32_1 : w104.cell? ⟨gb33, 1, none⟩ = some (.int .i64 t22) := (blk_cell BK34.out 1).trans rfl; have hfzb32_1 := blk_frozen BK34.out 1
  have hczb50_0 : w104.cell? ⟨gb51, 0, none⟩ = some (.slice A48 t40.length c49) := (blk_cell BK52.out 0).trans rfl; have hfzb50_0 := blk_frozen BK52.out 0; have hczb50_1 : w104.cell? ⟨gb51, 1, none⟩ = some (.int .i64 t41) := (blk_cell BK52.out 1).trans rfl; have hfzb50_1 := blk_frozen BK52.out 1
  have hczb69_0 : w104.cell? ⟨gb70, 0, none⟩ = some (.slice A67 t58.length c68) := (blk_cell BK71.out 0).trans rfl; have hfzb69_0 := blk_frozen BK71.out 0; have hczb69_1 : w104.cell? ⟨gb70, 1, none⟩ = some (.int .i64 t59) := (blk_cell BK71.out 1).trans rfl; have hfzb69_1 := blk_frozen BK71.out 1
  clear hb
  go_wp2_with fail
  have hn_ := H107.out
  refine (laws_markWorld.calls (fun k_ => (w56.heap.size ≤ k_ ∧ k_ < w62.heap.size) ∧ (True)) _ t58 t59 1 w _ HB.out F66.out (by omega) hn_).mono ?_
  rintro e_ w106 ⟨rfl, f0_, hb0_, hk_⟩
  have hk2_ : Kept w104 w106 (fun k_ => w56.heap.size ≤ k_ ∧ k_ < w62.heap.size) := Kept.mono hk_ (fun k_ h_ => by first | exact h_ | exact h_.1)
  have HZ108 := Aside0.mk (show w104.heap.size ≤ w106.heap.size from hk2_.1)
  clear HB
  have HB := Aside0.mk hb0_
  have hn_ := Aside0.mk (Kd.S_kept F18.out hk2_ (fun k_ h1_ h2_ => by have := HZ6.out; have := HZ10.out; have := HZ17.out; have := HZ28.out; have := HZ37.out; have := HZ39.out; have := HZ46.out; have := HZ55.out; have := HZ57.out; have := HZ65.out; have := HZ74.out; have := HZ76.out; have := HZ80.out; have := HZ82.out; have := HZ89.out; have := HZ96.out; have := HZ99.out; have := HZ105.out; have h3_ := h1_.1; omega))
  clear F18
  have F18 := hn_
  clear hn_
  have hn_ := Aside0.mk (Kd.S_kept F29.out hk2_ (fun k_ h1_ h2_ => by have := HZ6.out; have := HZ10.out; have := HZ17.out; have := HZ28.out; have := HZ37.out; have := HZ39.out; have := HZ46.out; have := HZ55.out; have := HZ57.out; have := HZ65.out; have := HZ74.out; have := HZ76.out; have := HZ80.out; have := HZ82.out; have := HZ89.out; have := HZ96.out; have := HZ99.out; have := HZ105.out; have h3_ := h1_.1; omega))
  clear F29
  have F29 := hn_
  clear hn_
  have hn_ := Aside0.mk (Kd.S_kept F47.out hk2_ (fun k_ h1_ h2_ => by have := HZ6.out; have := HZ10.out; have := HZ17.out; have := HZ28.out; have := HZ37.out; have := HZ39.out; have := HZ46.out; have := HZ55.out; have := HZ57.out; have := HZ65.out; have := HZ74.out; have := HZ76.out; have := HZ80.out; have := HZ82.out; have := HZ89.out; have := HZ96.out; have := HZ99.out; have := HZ105.out; have h3_ := h1_.1; omega))
  clear F47
  have F47 := hn_
  clear hn_
  have hn_ := Aside0.mk (Kd.S_kept F90.out hk2_ (fun k_ h1_ h2_ => by have := HZ6.out; have := HZ10.out; have := HZ17.out; have := HZ28.out; have := HZ37.out; have := HZ39.out; have := HZ46.out; have := HZ55.out; have := HZ57.out; have := HZ65.out; have := HZ74.out; have := HZ76.out; have := HZ80.out; have := HZ82.out; have := HZ89.out; have := HZ96.out; have := HZ99.out; have := HZ105.out; have h3_ := h1_.1; omega))
  clear F90
  have F90 := hn_
  clear hn_
  have hn_ := Aside0.mk (f0_)
  have F66n := hn_
  clear hn_
  clear F66
  have F66 := F66n
  clear F66n
  have hn_ := Aside0.mk (blk_kept BK3.out hk2_ (fun h_ => by have := HZ6.out; have := HZ10.out; have := HZ17.out; have := HZ28.out; have := HZ37.out; have := HZ39.out; have := HZ46.out; have := HZ55.out; have := HZ57.out; have := HZ65.out; have := HZ74.out; have := HZ76.out; have := HZ80.out; have := HZ82.out; have := HZ89.out; have := HZ96.out; have := HZ99.out; have := HZ105.out; have := GQ4.out; omega))
  clear hczb1_0 hfzb1_0; clear hczb1_1 hfzb1_1
  clear BK3
  have BK3 := hn_
  clear hn_
  have hn_ := Aside0.mk (blk_kept BK34.out hk2_ (fun h_ => by have := HZ6.out; have := HZ10.out; have := HZ17.out; have := HZ28.out; have := HZ37.out; have := HZ39.out; have := HZ46.out; have := HZ55.out; have := HZ57.out; have := HZ65.out; have := HZ74.out; have := HZ76.out; have := HZ80.out; have := HZ82.out; have := HZ89.out; have := HZ96.out; have := HZ99.out; have := HZ105.out; have := GQ35.out; omega))
  clear hczb32_0 hfzb32_0; clear hczb32_1 hfzb32_1
  clear BK34
  have BK34 := hn_
  clear hn_
  have hn_ := Aside0.mk (blk_kept BK52.out hk2_ (fun h_ => by have := HZ6.out; have := HZ10.out; have := HZ17.out; have := HZ28.out; have := HZ37.out; have := HZ39.out; have := HZ46.out; have := HZ55.out; have := HZ57.out; have := HZ65.out; have := HZ74.out; have := HZ76.out; have := HZ80.out; have := HZ82.out; have := HZ89.out; have := HZ96.out; have := HZ99.out; have := HZ105.out; have := GQ53.out; omega))
  clear hczb50_0 hfzb50_0; clear hczb50_1 hfzb50_1
  clear BK52
  have BK52 := hn_
  clear hn_
  have hn_ := Aside0.mk (blk_kept BK71.out hk2_ (fun h_ => by have := HZ6.out; have := HZ10.out; have := HZ17.out; have := HZ28.out; have := HZ37.out; have := HZ39.out; have := HZ46.out; have := HZ55.out; have := HZ57.out; have := HZ65.out; have := HZ74.out; have := HZ76.out; have := HZ80.out; have := HZ82.out; have := HZ89.out; have := HZ96.out; have := HZ99.out; have := HZ105.out; have := GQ72.out; omega))
  clear hczb69_0 hfzb69_0; clear hczb69_1 hfzb69_1
  clear BK71
  have BK71 := hn_
  clear hn_
  clear hk2_ hk_ hb0_ f0_
  have hczb1_0 : w106.cell? ⟨gb2, 0, none⟩ = some (.slice A0_0 l0_0.length c0_0) := (blk_cell BK3.out 0).trans rfl; have hfzb1_0 := blk_frozen BK3.out 0; have hczb1_1 : w106.cell? ⟨gb2, 1, none⟩ = some (.int .i64 a0_1) := (blk_cell BK3.out 1).trans rfl; have hfzb1_1 := blk_frozen BK3.out 1
  have hczb32_0 : w106.cell? ⟨gb33, 0, none⟩ = some (.slice A30 t21.length c31) := (blk_cell BK34.out 0).trans rfl; have hfzb32_0 := blk_frozen BK34.out 0; have hczb32_1 : w106.cell? ⟨gb33, 1, none⟩ = some (.int .i64 t22) := (blk_cell BK34.out 1).trans rfl; have hfzb32_1 := blk_frozen BK34.out 1
  have hczb50_0 : w106.cell? ⟨gb51, 0, none⟩ = some (.slice A48 t40.length c49) := (blk_cell BK52.out 0).trans rfl; have hfzb50_0 := blk_frozen BK52.out 0; have hczb50_1 : w106.cell? ⟨gb51, 1, none⟩ = some (.int .i64 t41) := (blk_cell BK52.out 1).trans rfl; have hfzb50_1 := blk_frozen BK52.out 1
  have hczb69_0 : w106.cell? ⟨gb70, 0, none⟩ = some (.slice A67 t58.length c68) := (blk_cell BK71.out 0).trans rfl; have hfzb69_0 := blk_frozen BK71.out 0; have hczb69_1 : w106.cell? ⟨gb70, 1, none⟩ = some (.int .i64 t59) := (blk_cell BK71.out 1).trans rfl; have hfzb69_1 := blk_frozen BK71.out 1
  have hl109 := (Kd.S_reads' F66.out).1
  have HL109 := Aside0.mk hl109
  clear hl109
  have hn1_ : decide ((1 + (markClassS_cnt t58 : Nat) : Int) < 0) = false := decide_eq_false (by omega)
  have hd110 := hn1_
  clear hn1_
  go_wp2_with fail
  have hc_ := laws_heldWorld.calls k _ _ (markClassS_mk (1) t58) t59 1 (1 + (markClassS_cnt t58 : Nat) : Int) _ (Lk.Sr F66.out).2 (Lk.Sr F66.out).1 H112.out
  simp only [← HL109.out] at hc_
  refine hc_.mono ?_
  clear hc_
  rintro e_ w113 ⟨rfl, hb⟩
  have hq_ : Below w106.heap.size w106 w113 := ⟨hb.os, hb.tape, hb.output, hb.size, hb.block⟩
  have HZ114 := Aside0.mk (show w106.heap.size ≤ w113.heap.size from hq_.size)
  have hn_ := Aside0.mk (below_then HB.out HB.out.size hq_)
  clear HB
  have HB := hn_
  clear hn_
  have hn_ := Aside0.mk (Kd.S_below F18.out hq_)
  clear F18
  have F18 := hn_
  clear hn_
  have hn_ := Aside0.mk (Kd.S_below F29.out hq_)
  clear F29
  have F29 := hn_
  clear hn_
  have hn_ := Aside0.mk (Kd.S_below F47.out hq_)
  clear F47
  have F47 := hn_
  clear hn_
  have hn_ := Aside0.mk (Kd.S_below F66.out hq_)
  clear F66
  have F66 := hn_
  clear hn_
  have hn_ := Aside0.mk (Kd.S_below F90.out hq_)
  clear F90
  have F90 := hn_
  clear hn_
  have hn_ := Aside0.mk (blk_below BK3.out hq_)
  clear hczb1_0 hfzb1_0; clear hczb1_1 hfzb1_1
  clear BK3
  have BK3 := hn_
  clear hn_
  have hn_ := Aside0.mk (blk_below BK34.out hq_)
  clear hczb32_0 hfzb32_0; clear hczb32_1 hfzb32_1
  clear BK34
  have BK34 := hn_
  clear hn_
  have hn_ := Aside0.mk (blk_below BK52.out hq_)
  clear hczb50_0 hfzb50_0; clear hczb50_1 hfzb50_1
  clear BK52
  have BK52 := hn_
  clear hn_
  have hn_ := Aside0.mk (blk_below BK71.out hq_)
  clear hczb69_0 hfzb69_0; clear hczb69_1 hfzb69_1
  clear BK71
  have BK71 := hn_
  clear hn_
  clear hq_
  have hczb1_0 : w113.cell? ⟨gb2, 0, none⟩ = some (.slice A0_0 l0_0.length c0_0) := (blk_cell BK3.out 0).trans rfl; have hfzb1_0 := blk_frozen BK3.out 0; have hczb1_1 : w113.cell? ⟨gb2, 1, none⟩ = some (.int .i64 a0_1) := (blk_cell BK3.out 1).trans rfl; have hfzb1_1 := blk_frozen BK3.out 1
  have hczb32_0 : w113.cell? ⟨gb33, 0, none⟩ = some (.slice A30 t21.length c31) := (blk_cell BK34.out 0).trans rfl; have hfzb32_0 := blk_frozen BK34.out 0; have hczb32_1 : w113.cell? ⟨gb33, 1, none⟩ = some (.int .i64 t22) := (blk_cell BK34.out 1).trans rfl; have hfzb32_1 := blk_frozen BK34.out 1
  have hczb50_0 : w113.cell? ⟨gb51, 0, none⟩ = some (.slice A48 t40.length c49) := (blk_cell BK52.out 0).trans rfl; have hfzb50_0 := blk_frozen BK52.out 0; have hczb50_1 : w113.cell? ⟨gb51, 1, none⟩ = some (.int .i64 t41) := (blk_cell BK52.out 1).trans rfl; have hfzb50_1 := blk_frozen BK52.out 1
  have hczb69_0 : w113.cell? ⟨gb70, 0, none⟩ = some (.slice A67 t58.length c68) := (blk_cell BK71.out 0).trans rfl; have hfzb69_0 := blk_frozen BK71.out 0; have hczb69_1 : w113.cell? ⟨gb70, 1, none⟩ = some (.int .i64 t59) := (blk_cell BK71.out 1).trans rfl; have hfzb69_1 := blk_frozen BK71.out 1
  clear hb
  go_wp2_with fail
  refine (laws_toWorld.calls k _ _ l0_0 a0_1 t115 t116 _ (Kd.C_below HR0_0.out HB.out) HC0_0.out H117.out).mono ?_
  rintro e_ w118 ⟨v119, rfl, f120, hb⟩
  have hq_ : Below w113.heap.size w113 w118 := ⟨hb.os, hb.tape, hb.output, hb.size, hb.block⟩
  have HZ121 := Aside0.mk (show w113.heap.size ≤ w118.heap.size from hq_.size)
  have hn_ := Aside0.mk (below_then HB.out HB.out.size hq_)
  clear HB
  have HB := hn_
  clear hn_
  have hn_ := Aside0.mk (Kd.S_below F18.out hq_)
  clear F18
  have F18 := hn_
  clear hn_
  have hn_ := Aside0.mk (Kd.S_below F29.out hq_)
  clear F29
  have F29 := hn_
  clear hn_
  have hn_ := Aside0.mk (Kd.S_below F47.out hq_)
  clear F47
  have F47 := hn_
  clear hn_
  have hn_ := Aside0.mk (Kd.S_below F66.out hq_)
  clear F66
  have F66 := hn_
  clear hn_
  have hn_ := Aside0.mk (Kd.S_below F90.out hq_)
  clear F90
  have F90 := hn_
  clear hn_
  have hn_ := Aside0.mk (blk_below BK3.out hq_)
  clear hczb1_0 hfzb1_0; clear hczb1_1 hfzb1_1
  clear BK3
  have BK3 := hn_
  clear hn_
  have hn_ := Aside0.mk (blk_below BK34.out hq_)
  clear hczb32_0 hfzb32_0; clear hczb32_1 hfzb32_1
  clear BK34
  have BK34 := hn_
  clear hn_
  have hn_ := Aside0.mk (blk_below BK52.out hq_)
  clear hczb50_0 hfzb50_0; clear hczb50_1 hfzb50_1
  clear BK52
  have BK52 := hn_
  clear hn_
  have hn_ := Aside0.mk (blk_below BK71.out hq_)
  clear hczb69_0 hfzb69_0; clear hczb69_1 hfzb69_1
  clear BK71
  have BK71 := hn_
  clear hn_
  clear hq_
  have hczb1_0 : w118.cell? ⟨gb2, 0, none⟩ = some (.slice A0_0 l0_0.length c0_0) := (blk_cell BK3.out 0).trans rfl; have hfzb1_0 := blk_frozen BK3.out 0; have hczb1_1 : w118.cell? ⟨gb2, 1, none⟩ = some (.int .i64 a0_1) := (blk_cell BK3.out 1).trans rfl; have hfzb1_1 := blk_frozen BK3.out 1
  have hczb32_0 : w118.cell? ⟨gb33, 0, none⟩ = some (.slice A30 t21.length c31) := (blk_cell BK34.out 0).trans rfl; have hfzb32_0 := blk_frozen BK34.out 0; have hczb32_1 : w118.cell? ⟨gb33, 1, none⟩ = some (.int .i64 t22) := (blk_cell BK34.out 1).trans rfl; have hfzb32_1 := blk_frozen BK34.out 1
  have hczb50_0 : w118.cell? ⟨gb51, 0, none⟩ = some (.slice A48 t40.length c49) := (blk_cell BK52.out 0).trans rfl; have hfzb50_0 := blk_frozen BK52.out 0; have hczb50_1 : w118.cell? ⟨gb51, 1, none⟩ = some (.int .i64 t41) := (blk_cell BK52.out 1).trans rfl; have hfzb50_1 := blk_frozen BK52.out 1
  have hczb69_0 : w118.cell? ⟨gb70, 0, none⟩ = some (.slice A67 t58.length c68) := (blk_cell BK71.out 0).trans rfl; have hfzb69_0 := blk_frozen BK71.out 0; have hczb69_1 : w118.cell? ⟨gb70, 1, none⟩ = some (.int .i64 t59) := (blk_cell BK71.out 1).trans rfl; have hfzb69_1 := blk_frozen BK71.out 1
  clear hb
  have F122 := Aside0.mk (Lk.newS (b := w113.heap.size) (base := w.heap.size) (Sep := fun k_ => True) f120 (by have := HZ6.out; have := HZ10.out; have := HZ17.out; have := HZ28.out; have := HZ37.out; have := HZ39.out; have := HZ46.out; have := HZ55.out; have := HZ57.out; have := HZ65.out; have := HZ74.out; have := HZ76.out; have := HZ80.out; have := HZ82.out; have := HZ89.out; have := HZ96.out; have := HZ99.out; have := HZ105.out; have := HZ108.out; have := HZ114.out; have := HZ121.out; omega) (fun k_ hk_ => hk_))
  clear f120
  obtain ⟨A123, c124, e_⟩ := Kd.S_slice F122.out
  subst e_
  go_wp2_with fail
  refine (impl_SetMethod.calls k _ _ t115 t116 a1 a2 a3 t125 t126 t23 _ (Lk.Sr F122.out).2 (Lk.Sr F122.out).1 H128.out).mono ?_
  rintro e_ w129 ⟨v130, rfl, f131, hb⟩
  have hq_ : Below w118.heap.size w118 w129 := ⟨hb.os, hb.tape, hb.output, hb.size, hb.block⟩
  have HZ132 := Aside0.mk (show w118.heap.size ≤ w129.heap.size from hq_.size)
  have hn_ := Aside0.mk (below_then HB.out HB.out.size hq_)
  clear HB
  have HB := hn_
  clear hn_
  have hn_ := Aside0.mk (Kd.S_below F18.out hq_)
  clear F18
  have F18 := hn_
  clear hn_
  have hn_ := Aside0.mk (Kd.S_below F29.out hq_)
  clear F29
  have F29 := hn_
  clear hn_
  have hn_ := Aside0.mk (Kd.S_below F47.out hq_)
  clear F47
  have F47 := hn_
  clear hn_
  have hn_ := Aside0.mk (Kd.S_below F66.out hq_)
  clear F66
  have F66 := hn_
  clear hn_
  have hn_ := Aside0.mk (Kd.S_below F90.out hq_)
  clear F90
  have F90 := hn_
  clear hn_
  have hn_ := Aside0.mk (Kd.S_below F122.out hq_)
  clear F122
  have F122 := hn_
  clear hn_
  have hn_ := Aside0.mk (blk_below BK3.out hq_)
  clear hczb1_0 hfzb1_0; clear hczb1_1 hfzb1_1
  clear BK3
  have BK3 := hn_
  clear hn_
  have hn_ := Aside0.mk (blk_below BK34.out hq_)
  clear hczb32_0 hfzb32_0; clear hczb32_1 hfzb32_1
  clear BK34
  have BK34 := hn_
  clear hn_
  have hn_ := Aside0.mk (blk_below BK52.out hq_)
  clear hczb50_0 hfzb50_0; clear hczb50_1 hfzb50_1
  clear BK52
  have BK52 := hn_
  clear hn_
  have hn_ := Aside0.mk (blk_below BK71.out hq_)
  clear hczb69_0 hfzb69_0; clear hczb69_1 hfzb69_1
  clear BK71
  have BK71 := hn_
  clear hn_
  clear hq_
  have hczb1_0 : w129.cell? ⟨gb2, 0, none⟩ = some (.slice A0_0 l0_0.length c0_0) := (blk_cell BK3.out 0).trans rfl; have hfzb1_0 := blk_frozen BK3.out 0; have hczb1_1 : w129.cell? ⟨gb2, 1, none⟩ = some (.int .i64 a0_1) := (blk_cell BK3.out 1).trans rfl; have hfzb1_1 := blk_frozen BK3.out 1
  have hczb32_0 : w129.cell? ⟨gb33, 0, none⟩ = some (.slice A30 t21.length c31) := (blk_cell BK34.out 0).trans rfl; have hfzb32_0 := blk_frozen BK34.out 0; have hczb32_1 : w129.cell? ⟨gb33, 1, none⟩ = some (.int .i64 t22) := (blk_cell BK34.out 1).trans rfl; have hfzb32_1 := blk_frozen BK34.out 1
  have hczb50_0 : w129.cell? ⟨gb51, 0, none⟩ = some (.slice A48 t40.length c49) := (blk_cell BK52.out 0).trans rfl; have hfzb50_0 := blk_frozen BK52.out 0; have hczb50_1 : w129.cell? ⟨gb51, 1, none⟩ = some (.int .i64 t41) := (blk_cell BK52.out 1).trans rfl; have hfzb50_1 := blk_frozen BK52.out 1
  have hczb69_0 : w129.cell? ⟨gb70, 0, none⟩ = some (.slice A67 t58.length c68) := (blk_cell BK71.out 0).trans rfl; have hfzb69_0 := blk_frozen BK71.out 0; have hczb69_1 : w129.cell? ⟨gb70, 1, none⟩ = some (.int .i64 t59) := (blk_cell BK71.out 1).trans rfl; have hfzb69_1 := blk_frozen BK71.out 1
  clear hb
  have F133 := Aside0.mk (Lk.newS (b := w118.heap.size) (base := w.heap.size) (Sep := fun k_ => True) f131 (by have := HZ6.out; have := HZ10.out; have := HZ17.out; have := HZ28.out; have := HZ37.out; have := HZ39.out; have := HZ46.out; have := HZ55.out; have := HZ57.out; have := HZ65.out; have := HZ74.out; have := HZ76.out; have := HZ80.out; have := HZ82.out; have := HZ89.out; have := HZ96.out; have := HZ99.out; have := HZ105.out; have := HZ108.out; have := HZ114.out; have := HZ121.out; have := HZ132.out; omega) (fun k_ hk_ => hk_))
  clear f131
  obtain ⟨A134, c135, e_⟩ := Kd.S_slice F133.out
  subst e_
  go_wp2_with (first | ((with_reducible refine gate_dst (N := 18) rfl ?_); refine box_event ?hg (N := 18) ?hd (cs := #[.slice none 0 0, .int .i64 0]) (t := 29) ?hr ?_; (case hd => rfl); (case hg => rfl); (case hr => first | (go_simp; done) | (go_simp; rfl)); intro gb137 hg_ w140 hx_ hb; have hg2_ : gb137 = w129.heap.size := hg_; have hq_ : Below w129.heap.size w129 w140 := ⟨hb.os, hb.tape, hb.output, hb.size, hb.block⟩; have HZ141 := Aside0.mk (show w129.heap.size ≤ w140.heap.size from hq_.size); have hn_ := Aside0.mk (below_then HB.out HB.out.size hq_); clear HB; have HB := hn_; clear hn_; have hn_ := Aside0.mk (Kd.S_below F18.out hq_); clear F18; have F18 := hn_; clear hn_; have hn_ := Aside0.mk (Kd.S_below F29.out hq_); clear F29; have F29 := hn_; clear hn_; have hn_ := Aside0.mk (Kd.S_below F47.out hq_); clear F47; have F47 := hn_; clear hn_; have hn_ := Aside0.mk (Kd.S_below F66.out hq_); clear F66; have F66 := hn_; clear hn_; have hn_ := Aside0.mk (Kd.S_below F90.out hq_); clear F90; have F90 := hn_; clear hn_; have hn_ := Aside0.mk (Kd.S_below F122.out hq_); clear F122; have F122 := hn_; clear hn_; have hn_ := Aside0.mk (Kd.S_below F133.out hq_); clear F133; have F133 := hn_; clear hn_; have hn_ := Aside0.mk (blk_below BK3.out hq_); clear hczb1_0 hfzb1_0; clear hczb1_1 hfzb1_1; clear BK3; have BK3 := hn_; clear hn_; have hn_ := Aside0.mk (blk_below BK34.out hq_); clear hczb32_0 hfzb32_0; clear hczb32_1 hfzb32_1; clear BK34; have BK34 := hn_; clear hn_; have hn_ := Aside0.mk (blk_below BK52.out hq_); clear hczb50_0 hfzb50_0; clear hczb50_1 hfzb50_1; clear BK52; have BK52 := hn_; clear hn_; have hn_ := Aside0.mk (blk_below BK71.out hq_); clear hczb69_0 hfzb69_0; clear hczb69_1 hfzb69_1; clear BK71; have BK71 := hn_; clear hn_; clear hq_; have hczb1_0 : w140.cell? ⟨gb2, 0, none⟩ = some (.slice A0_0 l0_0.length c0_0) := (blk_cell BK3.out 0).trans rfl; have hfzb1_0 := blk_frozen BK3.out 0; have hczb1_1 : w140.cell? ⟨gb2, 1, none⟩ = some (.int .i64 a0_1) := (blk_cell BK3.out 1).trans rfl; have hfzb1_1 := blk_frozen BK3.out 1; have hczb32_0 : w140.cell? ⟨gb33, 0, none⟩ = some (.slice A30 t21.length c31) := (blk_cell BK34.out 0).trans rfl; have hfzb32_0 := blk_frozen BK34.out 0; have hczb32_1 : w140.cell? ⟨gb33, 1, none⟩ = some (.int .i64 t22) := (blk_cell BK34.out 1).trans rfl; have hfzb32_1 := blk_frozen BK34.out 1; have hczb50_0 : w140.cell? ⟨gb51, 0, none⟩ = some (.slice A48 t40.length c49) := (blk_cell BK52.out 0).trans rfl; have hfzb50_0 := blk_frozen BK52.out 0; have hczb50_1 : w140.cell? ⟨gb51, 1, none⟩ = some (.int .i64 t41) := (blk_cell BK52.out 1).trans rfl; have hfzb50_1 := blk_frozen BK52.out 1; have hczb69_0 : w140.cell? ⟨gb70, 0, none⟩ = some (.slice A67 t58.length c68) := (blk_cell BK71.out 0).trans rfl; have hfzb69_0 := blk_frozen BK71.out 0; have hczb69_1 : w140.cell? ⟨gb70, 1, none⟩ = some (.int .i64 t59) := (blk_cell BK71.out 1).trans rfl; have hfzb69_1 := blk_frozen BK71.out 1; have BK138 := Aside0.mk hx_; have GQ139 := Aside0.mk (show w129.heap.size ≤ gb137 ∧ gb137 < w140.heap.size from ⟨Nat.le_of_eq hg2_.symm, blk_lt hx_⟩); clear hb hg_ hg2_ hx_; have hczb136_0 : w140.cell? ⟨gb137, 0, none⟩ = some (.slice none 0 0) := (blk_cell BK138.out 0).trans rfl; have hfzb136_0 := blk_frozen BK138.out 0; have hczb136_1 : w140.cell? ⟨gb137, 1, none⟩ = some (.int .i64 0) := (blk_cell BK138.out 1).trans rfl; have hfzb136_1 := blk_frozen BK138.out 1) | ((with_reducible refine gate_store (t := 29) (p := 18) rfl ?_); refine store_event (t := 29) (p := 18) (v := ?vo_w142) (w1 := ((w140.setCell ⟨gb137, 0, none⟩ (.slice A134 t125.length c135)).setCell ⟨gb137, 1, none⟩ (.int .i64 t126))) ?hg ?ho ?hn ?hr ?_; (case ho => rfl); (case hg => rfl); (case hn => rfl); (case hr => first | (go_simp; done) | (go_simp; rfl)); intro w142 hw_; have hx_ : w142.heap[gb137]? = some (.cells #[(.slice A134 t125.length c135), (.int .i64 t126)] 29 (0, 0)) := (by rw [hw_]; exact Lk.filled (us := [(.slice A134 t125.length c135), (.int .i64 t126)]) BK138.out rfl); have hk2_ : Kept w140 w142 (fun k_ => k_ = gb137) := (by rw [hw_]; exact Lk.fill_kept [(.slice A134 t125.length c135), (.int .i64 t126)] 0 w140); have hB_ := Aside0.mk (show Below w.heap.size w w142 by rw [hw_]; exact Lk.fill_below [(.slice A134 t125.length c135), (.int .i64 t126)] 0 w w140 HB.out (by have := HZ6.out; have := HZ10.out; have := HZ17.out; have := HZ28.out; have := HZ37.out; have := HZ39.out; have := HZ46.out; have := HZ55.out; have := HZ57.out; have := HZ65.out; have := HZ74.out; have := HZ76.out; have := HZ80.out; have := HZ82.out; have := HZ89.out; have := HZ96.out; have := HZ99.out; have := HZ105.out; have := HZ108.out; have := HZ114.out; have := HZ121.out; have := HZ132.out; have := HZ141.out; have := GQ139.out; omega)); clear HB; have HB := hB_; clear hB_; have HZ143 := Aside0.mk (show w140.heap.size ≤ w142.heap.size from hk2_.1); have hn_ := Aside0.mk (Kd.S_kept F18.out hk2_ (fun k_ h1_ h2_ => by have := HZ6.out; have := HZ10.out; have := HZ17.out; have := HZ28.out; have := HZ37.out; have := HZ39.out; have := HZ46.out; have := HZ55.out; have := HZ57.out; have := HZ65.out; have := HZ74.out; have := HZ76.out; have := HZ80.out; have := HZ82.out; have := HZ89.out; have := HZ96.out; have := HZ99.out; have := HZ105.out; have := HZ108.out; have := HZ114.out; have := HZ121.out; have := HZ132.out; have := HZ141.out; have := GQ139.out; have h3_ := h1_.1; omega)); clear F18; have F18 := hn_; clear hn_; have hn_ := Aside0.mk (Kd.S_kept F29.out hk2_ (fun k_ h1_ h2_ => by have := HZ6.out; have := HZ10.out; have := HZ17.out; have := HZ28.out; have := HZ37.out; have := HZ39.out; have := HZ46.out; have := HZ55.out; have := HZ57.out; have := HZ65.out; have := HZ74.out; have := HZ76.out; have := HZ80.out; have := HZ82.out; have := HZ89.out; have := HZ96.out; have := HZ99.out; have := HZ105.out; have := HZ108.out; have := HZ114.out; have := HZ121.out; have := HZ132.out; have := HZ141.out; have := GQ139.out; have h3_ := h1_.1; omega)); clear F29; have F29 := hn_; clear hn_; have hn_ := Aside0.mk (Kd.S_kept F47.out hk2_ (fun k_ h1_ h2_ => by have := HZ6.out; have := HZ10.out; have := HZ17.out; have := HZ28.out; have := HZ37.out; have := HZ39.out; have := HZ46.out; have := HZ55.out; have := HZ57.out; have := HZ65.out; have := HZ74.out; have := HZ76.out; have := HZ80.out; have := HZ82.out; have := HZ89.out; have := HZ96.out; have := HZ99.out; have := HZ105.out; have := HZ108.out; have := HZ114.out; have := HZ121.out; have := HZ132.out; have := HZ141.out; have := GQ139.out; have h3_ := h1_.1; omega)); clear F47; have F47 := hn_; clear hn_; have hn_ := Aside0.mk (Kd.S_kept F66.out hk2_ (fun k_ h1_ h2_ => by have := HZ6.out; have := HZ10.out; have := HZ17.out; have := HZ28.out; have := HZ37.out; have := HZ39.out; have := HZ46.out; have := HZ55.out; have := HZ57.out; have := HZ65.out; have := HZ74.out; have := HZ76.out; have := HZ80.out; have := HZ82.out; have := HZ89.out; have := HZ96.out; have := HZ99.out; have := HZ105.out; have := HZ108.out; have := HZ114.out; have := HZ121.out; have := HZ132.out; have := HZ141.out; have := GQ139.out; have h3_ := h1_.1; omega)); clear F66; have F66 := hn_; clear hn_; have hn_ := Aside0.mk (Kd.S_kept F90.out hk2_ (fun k_ h1_ h2_ => by have := HZ6.out; have := HZ10.out; have := HZ17.out; have := HZ28.out; have := HZ37.out; have := HZ39.out; have := HZ46.out; have := HZ55.out; have := HZ57.out; have := HZ65.out; have := HZ74.out; have := HZ76.out; have := HZ80.out; have := HZ82.out; have := HZ89.out; have := HZ96.out; have := HZ99.out; have := HZ105.out; have := HZ108.out; have := HZ114.out; have := HZ121.out; have := HZ132.out; have := HZ141.out; have := GQ139.out; have h3_ := h1_.1; omega)); clear F90; have F90 := hn_; clear hn_; have hn_ := Aside0.mk (Kd.S_kept F122.out hk2_ (fun k_ h1_ h2_ => by have := HZ6.out; have := HZ10.out; have := HZ17.out; have := HZ28.out; have := HZ37.out; have := HZ39.out; have := HZ46.out; have := HZ55.out; have := HZ57.out; have := HZ65.out; have := HZ74.out; have := HZ76.out; have := HZ80.out; have := HZ82.out; have := HZ89.out; have := HZ96.out; have := HZ99.out; have := HZ105.out; have := HZ108.out; have := HZ114.out; have := HZ121.out; have := HZ132.out; have := HZ141.out; have := GQ139.out; have h3_ := h1_.1; omega)); clear F122; have F122 := hn_; clear hn_; have hn_ := Aside0.mk (Kd.S_kept F133.out hk2_ (fun k_ h1_ h2_ => by have := HZ6.out; have := HZ10.out; have := HZ17.out; have := HZ28.out; have := HZ37.out; have := HZ39.out; have := HZ46.out; have := HZ55.out; have := HZ57.out; have := HZ65.out; have := HZ74.out; have := HZ76.out; have := HZ80.out; have := HZ82.out; have := HZ89.out; have := HZ96.out; have := HZ99.out; have := HZ105.out; have := HZ108.out; have := HZ114.out; have := HZ121.out; have := HZ132.out; have := HZ141.out; have := GQ139.out; have h3_ := h1_.1; omega)); clear F133; have F133 := hn_; clear hn_; clear hczb1_0 hfzb1_0; clear hczb1_1 hfzb1_1; have hn_ := Aside0.mk (blk_kept BK3.out hk2_ (fun h_ => by have := HZ6.out; have := HZ10.out; have := HZ17.out; have := HZ28.out; have := HZ37.out; have := HZ39.out; have := HZ46.out; have := HZ55.out; have := HZ57.out; have := HZ65.out; have := HZ74.out; have := HZ76.out; have := HZ80.out; have := HZ82.out; have := HZ89.out; have := HZ96.out; have := HZ99.out; have := HZ105.out; have := HZ108.out; have := HZ114.out; have := HZ121.out; have := HZ132.out; have := HZ141.out; have := GQ139.out; have := GQ4.out; omega)); clear BK3; have BK3 := hn_; clear hn_; clear hczb32_0 hfzb32_0; clear hczb32_1 hfzb32_1; have hn_ := Aside0.mk (blk_kept BK34.out hk2_ (fun h_ => by have := HZ6.out; have := HZ10.out; have := HZ17.out; have := HZ28.out; have := HZ37.out; have := HZ39.out; have := HZ46.out; have := HZ55.out; have := HZ57.out; have := HZ65.out; have := HZ74.out; have := HZ76.out; have := HZ80.out; have := HZ82.out; have := HZ89.out; have := HZ96.out; have := HZ99.out; have := HZ105.out; have := HZ108.out; have := HZ114.out; have := HZ121.out; have := HZ132.out; have := HZ141.out; have := GQ139.out; have := GQ35.out; omega)); clear BK34; have BK34 := hn_; clear hn_; clear hczb50_0 hfzb50_0; clear hczb50_1 hfzb50_1; have hn_ := Aside0.mk (blk_kept BK52.out hk2_ (fun h_ => by have := HZ6.out; have := HZ10.out; have := HZ17.out; have := HZ28.out; have := HZ37.out; have := HZ39.out; have := HZ46.out; have := HZ55.out; have := HZ57.out; have := HZ65.out; have := HZ74.out; have := HZ76.out; have := HZ80.out; have := HZ82.out; have := HZ89.out; have := HZ96.out; have := HZ99.out; have := HZ105.out; have := HZ108.out; have := HZ114.out; have := HZ121.out; have := HZ132.out; have := HZ141.out; have := GQ139.out; have := GQ53.out; omega)); clear BK52; have BK52 := hn_; clear hn_; clear hczb69_0 hfzb69_0; clear hczb69_1 hfzb69_1; have hn_ := Aside0.mk (blk_kept BK71.out hk2_ (fun h_ => by have := HZ6.out; have := HZ10.out; have := HZ17.out; have := HZ28.out; have := HZ37.out; have := HZ39.out; have := HZ46.out; have := HZ55.out; have := HZ57.out; have := HZ65.out; have := HZ74.out; have := HZ76.out; have := HZ80.out; have := HZ82.out; have := HZ89.out; have := HZ96.out; have := HZ99.out; have := HZ105.out; have := HZ108.out; have := HZ114.out; have := HZ121.out; have := HZ132.out; have := HZ141.out; have := GQ139.out; have := GQ72.out; omega)); clear BK71; have BK71 := hn_; clear hn_; clear hczb136_0 hfzb136_0; clear hczb136_1 hfzb136_1; clear BK138; have BK138 := Aside0.mk hx_; clear hk2_ hx_ hw_; have hczb1_0 : w142.cell? ⟨gb2, 0, none⟩ = some (.slice A0_0 l0_0.length c0_0) := (blk_cell BK3.out 0).trans rfl; have hfzb1_0 := blk_frozen BK3.out 0; have hczb1_1 : w142.cell? ⟨gb2, 1, none⟩ = some (.int .i64 a0_1) := (blk_cell BK3.out 1).trans rfl; have hfzb1_1 := blk_frozen BK3.out 1; have hczb32_0 : w142.cell? ⟨gb33, 0, none⟩ = some (.slice A30 t21.length c31) := (blk_cell BK34.out 0).trans rfl; have hfzb32_0 := blk_frozen BK34.out 0; have hczb32_1 : w142.cell? ⟨gb33, 1, none⟩ = some (.int .i64 t22) := (blk_cell BK34.out 1).trans rfl; have hfzb32_1 := blk_frozen BK34.out 1; have hczb50_0 : w142.cell? ⟨gb51, 0, none⟩ = some (.slice A48 t40.length c49) := (blk_cell BK52.out 0).trans rfl; have hfzb50_0 := blk_frozen BK52.out 0; have hczb50_1 : w142.cell? ⟨gb51, 1, none⟩ = some (.int .i64 t41) := (blk_cell BK52.out 1).trans rfl; have hfzb50_1 := blk_frozen BK52.out 1; have hczb69_0 : w142.cell? ⟨gb70, 0, none⟩ = some (.slice A67 t58.length c68) := (blk_cell BK71.out 0).trans rfl; have hfzb69_0 := blk_frozen BK71.out 0; have hczb69_1 : w142.cell? ⟨gb70, 1, none⟩ = some (.int .i64 t59) := (blk_cell BK71.out 1).trans rfl; have hfzb69_1 := blk_frozen BK71.out 1; have hczb136_0 : w142.cell? ⟨gb137, 0, none⟩ = some (.slice A134 t125.length c135) := (blk_cell BK138.out 0).trans rfl; have hfzb136_0 := blk_frozen BK138.out 0; have hczb136_1 : w142.cell? ⟨gb137, 1, none⟩ = some (.int .i64 t126) := (blk_cell BK138.out 1).trans rfl; have hfzb136_1 := blk_frozen BK138.out 1))
  refine (laws_eqWorld.calls k _ _ t125 t126 _ _ t21 t22 true _ (Lk.Sr F133.out).2 (Lk.Sr F133.out).1 (Lk.Sr F29.out).2 (Lk.Sr F29.out).1 H145.out).mono ?_
  rintro e_ w146 ⟨rfl, hb⟩
  have hq_ : Below w142.heap.size w142 w146 := ⟨hb.os, hb.tape, hb.output, hb.size, hb.block⟩
  have HZ147 := Aside0.mk (show w142.heap.size ≤ w146.heap.size from hq_.size)
  have hn_ := Aside0.mk (below_then HB.out HB.out.size hq_)
  clear HB
  have HB := hn_
  clear hn_
  have hn_ := Aside0.mk (Kd.S_below F18.out hq_)
  clear F18
  have F18 := hn_
  clear hn_
  have hn_ := Aside0.mk (Kd.S_below F29.out hq_)
  clear F29
  have F29 := hn_
  clear hn_
  have hn_ := Aside0.mk (Kd.S_below F47.out hq_)
  clear F47
  have F47 := hn_
  clear hn_
  have hn_ := Aside0.mk (Kd.S_below F66.out hq_)
  clear F66
  have F66 := hn_
  clear hn_
  have hn_ := Aside0.mk (Kd.S_below F90.out hq_)
  clear F90
  have F90 := hn_
  clear hn_
  have hn_ := Aside0.mk (Kd.S_below F122.out hq_)
  clear F122
  have F122 := hn_
  clear hn_
  have hn_ := Aside0.mk (Kd.S_below F133.out hq_)
  clear F133
  have F133 := hn_
  clear hn_
  have hn_ := Aside0.mk (blk_below BK3.out hq_)
  clear hczb1_0 hfzb1_0; clear hczb1_1 hfzb1_1
  clear BK3
  have BK3 := hn_
  clear hn_
  have hn_ := Aside0.mk (blk_below BK34.out hq_)
  clear hczb32_0 hfzb32_0; clear hczb32_1 hfzb32_1
  clear BK34
  have BK34 := hn_
  clear hn_
  have hn_ := Aside0.mk (blk_below BK52.out hq_)
  clear hczb50_0 hfzb50_0; clear hczb50_1 hfzb50_1
  clear BK52
  have BK52 := hn_
  clear hn_
  have hn_ := Aside0.mk (blk_below BK71.out hq_)
  clear hczb69_0 hfzb69_0; clear hczb69_1 hfzb69_1
  clear BK71
  have BK71 := hn_
  clear hn_
  have hn_ := Aside0.mk (blk_below BK138.out hq_)
  clear hczb136_0 hfzb136_0; clear hczb136_1 hfzb136_1
  clear BK138
  have BK138 := hn_
  clear hn_
  clear hq_
  have hczb1_0 : w146.cell? ⟨gb2, 0, none⟩ = some (.slice A0_0 l0_0.length c0_0) := (blk_cell BK3.out 0).trans rfl; have hfzb1_0 := blk_frozen BK3.out 0; have hczb1_1 : w146.cell? ⟨gb2, 1, none⟩ = some (.int .i64 a0_1) := (blk_cell BK3.out 1).trans rfl; have hfzb1_1 := blk_frozen BK3.out 1
  have hczb32_0 : w146.cell? ⟨gb33, 0, none⟩ = some (.slice A30 t21.length c31) := (blk_cell BK34.out 0).trans rfl; have hfzb32_0 := blk_frozen BK34.out 0; have hczb32_1 : w146.cell? ⟨gb33, 1, none⟩ = some (.int .i64 t22) := (blk_cell BK34.out 1).trans rfl; have hfzb32_1 := blk_frozen BK34.out 1
  have hczb50_0 : w146.cell? ⟨gb51, 0, none⟩ = some (.slice A48 t40.length c49) := (blk_cell BK52.out 0).trans rfl; have hfzb50_0 := blk_frozen BK52.out 0; have hczb50_1 : w146.cell? ⟨gb51, 1, none⟩ = some (.int .i64 t41) := (blk_cell BK52.out 1).trans rfl; have hfzb50_1 := blk_frozen BK52.out 1
  have hczb69_0 : w146.cell? ⟨gb70, 0, none⟩ = some (.slice A67 t58.length c68) := (blk_cell BK71.out 0).trans rfl; have hfzb69_0 := blk_frozen BK71.out 0; have hczb69_1 : w146.cell? ⟨gb70, 1, none⟩ = some (.int .i64 t59) := (blk_cell BK71.out 1).trans rfl; have hfzb69_1 := blk_frozen BK71.out 1
  have hczb136_0 : w146.cell? ⟨gb137, 0, none⟩ = some (.slice A134 t125.length c135) := (blk_cell BK138.out 0).trans rfl; have hfzb136_0 := blk_frozen BK138.out 0; have hczb136_1 : w146.cell? ⟨gb137, 1, none⟩ = some (.int .i64 t126) := (blk_cell BK138.out 1).trans rfl; have hfzb136_1 := blk_frozen BK138.out 1
  clear hb
  go_wp2_with fail
  have hc_ := laws_heldWorld.calls k _ _ (markClassS_mk (1) t58) t59 1 (1 + (markClassS_cnt t58 : Nat) : Int) _ (Lk.Sr F66.out).2 (Lk.Sr F66.out).1 H149.out
  simp only [← HL109.out] at hc_
  refine hc_.mono ?_
  clear hc_
  rintro e_ w150 ⟨rfl, hb⟩
  have hq_ : Below w146.heap.size w146 w150 := ⟨hb.os, hb.tape, hb.output, hb.size, hb.block⟩
  have HZ151 := Aside0.mk (show w146.heap.size ≤ w150.heap.size from hq_.size)
  have hn_ := Aside0.mk (below_then HB.out HB.out.size hq_)
  clear HB
  have HB := hn_
  clear hn_
  have hn_ := Aside0.mk (Kd.S_below F18.out hq_)
  clear F18
  have F18 := hn_
  clear hn_
  have hn_ := Aside0.mk (Kd.S_below F29.out hq_)
  clear F29
  have F29 := hn_
  clear hn_
  have hn_ := Aside0.mk (Kd.S_below F47.out hq_)
  clear F47
  have F47 := hn_
  clear hn_
  have hn_ := Aside0.mk (Kd.S_below F66.out hq_)
  clear F66
  have F66 := hn_
  clear hn_
  have hn_ := Aside0.mk (Kd.S_below F90.out hq_)
  clear F90
  have F90 := hn_
  clear hn_
  have hn_ := Aside0.mk (Kd.S_below F122.out hq_)
  clear F122
  have F122 := hn_
  clear hn_
  have hn_ := Aside0.mk (Kd.S_below F133.out hq_)
  clear F133
  have F133 := hn_
  clear hn_
  have hn_ := Aside0.mk (blk_below BK3.out hq_)
  clear hczb1_0 hfzb1_0; clear hczb1_1 hfzb1_1
  clear BK3
  have BK3 := hn_
  clear hn_
  have hn_ := Aside0.mk (blk_below BK34.out hq_)
  clear hczb32_0 hfzb32_0; clear hczb32_1 hfzb32_1
  clear BK34
  have BK34 := hn_
  clear hn_
  have hn_ := Aside0.mk (blk_below BK52.out hq_)
  clear hczb50_0 hfzb50_0; clear hczb50_1 hfzb50_1
  clear BK52
  have BK52 := hn_
  clear hn_
  have hn_ := Aside0.mk (blk_below BK71.out hq_)
  clear hczb69_0 hfzb69_0; clear hczb69_1 hfzb69_1
  clear BK71
  have BK71 := hn_
  clear hn_
  have hn_ := Aside0.mk (blk_below BK138.out hq_)
  clear hczb136_0 hfzb136_0; clear hczb136_1 hfzb136_1
  clear BK138
  have BK138 := hn_
  clear hn_
  clear hq_
  have hczb1_0 : w150.cell? ⟨gb2, 0, none⟩ = some (.slice A0_0 l0_0.length c0_0) := (blk_cell BK3.out 0).trans rfl; have hfzb1_0 := blk_frozen BK3.out 0; have hczb1_1 : w150.cell? ⟨gb2, 1, none⟩ = some (.int .i64 a0_1) := (blk_cell BK3.out 1).trans rfl; have hfzb1_1 := blk_frozen BK3.out 1
  have hczb32_0 : w150.cell? ⟨gb33, 0, none⟩ = some (.slice A30 t21.length c31) := (blk_cell BK34.out 0).trans rfl; have hfzb32_0 := blk_frozen BK34.out 0; have hczb32_1 : w150.cell? ⟨gb33, 1, none⟩ = some (.int .i64 t22) := (blk_cell BK34.out 1).trans rfl; have hfzb32_1 := blk_frozen BK34.out 1
  have hczb50_0 : w150.cell? ⟨gb51, 0, none⟩ = some (.slice A48 t40.length c49) := (blk_cell BK52.out 0).trans rfl; have hfzb50_0 := blk_frozen BK52.out 0; have hczb50_1 : w150.cell? ⟨gb51, 1, none⟩ = some (.int .i64 t41) := (blk_cell BK52.out 1).trans rfl; have hfzb50_1 := blk_frozen BK52.out 1
  have hczb69_0 : w150.cell? ⟨gb70, 0, none⟩ = some (.slice A67 t58.length c68) := (blk_cell BK71.out 0).trans rfl; have hfzb69_0 := blk_frozen BK71.out 0; have hczb69_1 : w150.cell? ⟨gb70, 1, none⟩ = some (.int .i64 t59) := (blk_cell BK71.out 1).trans rfl; have hfzb69_1 := blk_frozen BK71.out 1
  have hczb136_0 : w150.cell? ⟨gb137, 0, none⟩ = some (.slice A134 t125.length c135) := (blk_cell BK138.out 0).trans rfl; have hfzb136_0 := blk_frozen BK138.out 0; have hczb136_1 : w150.cell? ⟨gb137, 1, none⟩ = some (.int .i64 t126) := (blk_cell BK138.out 1).trans rfl; have hfzb136_1 := blk_frozen BK138.out 1
  clear hb
  go_wp2_with fail
  go_ret
  exact ⟨rfl, HB.out⟩
end Go.Proofs.Ytjmgleomljfieaa.Q
