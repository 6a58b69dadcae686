/- The law FnExactNewCache of this seat: the walk along its one way. Conditions: none. -/
import Derived.Test.YtjmgleomljfieaaQx0
import Derived.Test.YtjmgleomljfieaaQx1
import Derived.Test.YtjmgleomljfieaaQx2
import Derived.Test.YtjmgleomljfieaaQx3
import Derived.Test.YtjmgleomljfieaaQx4
import Derived.Test.YtjmgleomljfieaaQx5
import Derived.Test.YtjmgleomljfieaaGoodFnExactNewCache
import Derived.Test.YtjmgleomljfieaaLk
namespace Go.Proofs.Ytjmgleomljfieaa.Q
open Go.RowKit Go.Proofs.YtjmgleomljfieaaW.PrintWords Go.Proofs.YtjmgleomljfieaaW.PrintLast Go.Proofs.YtjmgleomljfieaaW.PrintMore
set_option linter.unusedVariables false
set_option linter.unusedSimpArgs false
open Lk in
set_option maxHeartbeats 8000000 in
set_option maxRecDepth 100000 in
theorem laws_FnExactNewCache.calls (k : Nat) (A0_0 : Option Addr) (c0_0 : Nat) (l0_0 : List (S111)) (a0_1 : Int) (a1 : Int) (r : Bool) (w : World) (hr0_0 : Kd.C k111 w A0_0 l0_0.length l0_0) (hc0_0 : l0_0.length ≤ c0_0) (h : laws_FnExactNewCache.f k l0_0 a0_1 a1 = some r) :
    Calls Try.prog 7 #[.agg #[.slice A0_0 l0_0.length c0_0, .int .i64 a0_1], .int .i64 a1] w fun e w' => e = .returned (.bool r) ∧ Below w.heap.size w w' := by
  unfold laws_FnExactNewCache.f at h
  split at h
  case isFalse => cases h
  rename_i hg
  obtain rfl := Option.some.inj h
  clear h
  have HR0_0 := Aside0.mk hr0_0
  have HC0_0 := Aside0.mk hc0_0
  clear hr0_0 hc0_0
  have HB := Aside0.mk (Below.refl w.heap.size w)
  unfold laws_FnExactNewCache.good at hg
  obtain ⟨t7, H80, hg⟩ := hg
  have H8 := Aside0.mk H80
  clear H80
  rcases hg with hs | ⟨hs, hg⟩
  · have hs1_ : decide (t7 < 0) = true := decide_eq_true hs
    clear hs
    go_enter Try.func7, Try.ntmps7
    go_wp2_with (first | ((with_reducible refine gate_dst (N := 2) rfl ?_); refine box_event ?hg (N := 2) ?hd (cs := #[.slice A0_0 l0_0.length c0_0, .int .i64 a0_1]) (t := 24) ?hr ?_; (case hd => rfl); (case hg => rfl); (case hr => first | (go_simp; done) | (go_simp; rfl)); intro gb2 hg_ w5 hx_ hb; have hg2_ : gb2 = w.heap.size := hg_; have hq_ : Below w.heap.size w w5 := ⟨hb.os, hb.tape, hb.output, hb.size, hb.block⟩; have HZ6 := Aside0.mk (show w.heap.size ≤ w5.heap.size from hq_.size); have hn_ := Aside0.mk (below_then HB.out HB.out.size hq_); clear HB; have HB := hn_; clear hn_; clear hq_; have BK3 := Aside0.mk hx_; have GQ4 := Aside0.mk (show w.heap.size ≤ gb2 ∧ gb2 < w5.heap.size from ⟨Nat.le_of_eq hg2_.symm, blk_lt hx_⟩); clear hb hg_ hg2_ hx_; have hczb1_0 : w5.cell? ⟨gb2, 0, none⟩ = some (.slice A0_0 l0_0.length c0_0) := (blk_cell BK3.out 0).trans rfl; have hfzb1_0 := blk_frozen BK3.out 0; have hczb1_1 : w5.cell? ⟨gb2, 1, none⟩ = some (.int .i64 a0_1) := (blk_cell BK3.out 1).trans rfl; have hfzb1_1 := blk_frozen BK3.out 1))
    refine (laws_szWorld.calls k _ _ l0_0 a0_1 1048576 t7 _ (Kd.C_below HR0_0.out HB.out) HC0_0.out H8.out).mono ?_
    rintro e_ w9 ⟨rfl, hb⟩
    have hq_ : Below w5.heap.size w5 w9 := ⟨hb.os, hb.tape, hb.output, hb.size, hb.block⟩
    have HZ10 := Aside0.mk (show w5.heap.size ≤ w9.heap.size from hq_.size)
    have hn_ := Aside0.mk (below_then HB.out HB.out.size hq_)
    clear HB
    have HB := hn_
    clear hn_
    have hn_ := Aside0.mk (blk_below BK3.out hq_)
    clear hczb1_0 hfzb1_0; clear hczb1_1 hfzb1_1
    clear BK3
    have BK3 := hn_
    clear hn_
    clear hq_
    have hczb1_0 : w9.cell? ⟨gb2, 0, none⟩ = some (.slice A0_0 l0_0.length c0_0) := (blk_cell BK3.out 0).trans rfl; have hfzb1_0 := blk_frozen BK3.out 0; have hczb1_1 : w9.cell? ⟨gb2, 1, none⟩ = some (.int .i64 a0_1) := (blk_cell BK3.out 1).trans rfl; have hfzb1_1 := blk_frozen BK3.out 1
    clear hb
    go_wp2_with fail
    go_ret
    exact ⟨rfl, HB.out⟩
  have hs2_ : decide (t7 < 0) = false := decide_eq_false hs
  clear hs
  obtain ⟨t11, t12, H130, t21, t22, t23, t24, t25, t26, t27, H280, t44, t45, H460, t62, t63, t64, t65, t66, t67, H690, H860, t91, t92, H930, H1020, H1060, H1110, t115, t116, H1170, H1180, H1230, t126, t127, H1280, t136, t137, t138, t139, t140, t141, H1430, H1600, H1640, hg⟩ := hg
  have H13 := Aside0.mk H130
  clear H130
  have H28 := Aside0.mk H280
  clear H280
  have H46 := Aside0.mk H460
  clear H460
  have H69 := Aside0.mk H690
  clear H690
  have H86 := Aside0.mk H860
  clear H860
  have H93 := Aside0.mk H930
  clear H930
  have H102 := Aside0.mk H1020
  clear H1020
  have H106 := Aside0.mk H1060
  clear H1060
  have H111 := Aside0.mk H1110
  clear H1110
  have H117 := Aside0.mk H1170
  clear H1170
  have H118 := Aside0.mk H1180
  clear H1180
  have H123 := Aside0.mk H1230
  clear H1230
  have H128 := Aside0.mk H1280
  clear H1280
  have H143 := Aside0.mk H1430
  clear H1430
  have H160 := Aside0.mk H1600
  clear H1600
  have H164 := Aside0.mk H1640
  clear H1640
  clear hg
  go_enter Try.func7, Try.ntmps7
  go_wp2_with (first | ((with_reducible refine gate_dst (N := 2) rfl ?_); refine box_event ?hg (N := 2) ?hd (cs := #[.slice A0_0 l0_0.length c0_0, .int .i64 a0_1]) (t := 24) ?hr ?_; (case hd => rfl); (case hg => rfl); (case hr => first | (go_simp; done) | (go_simp; rfl)); intro gb2 hg_ w5 hx_ hb; have hg2_ : gb2 = w.heap.size := hg_; have hq_ : Below w.heap.size w w5 := ⟨hb.os, hb.tape, hb.output, hb.size, hb.block⟩; have HZ6 := Aside0.mk (show w.heap.size ≤ w5.heap.size from hq_.size); have hn_ := Aside0.mk (below_then HB.out HB.out.size hq_); clear HB; have HB := hn_; clear hn_; clear hq_; have BK3 := Aside0.mk hx_; have GQ4 := Aside0.mk (show w.heap.size ≤ gb2 ∧ gb2 < w5.heap.size from ⟨Nat.le_of_eq hg2_.symm, blk_lt hx_⟩); clear hb hg_ hg2_ hx_; have hczb1_0 : w5.cell? ⟨gb2, 0, none⟩ = some (.slice A0_0 l0_0.length c0_0) := (blk_cell BK3.out 0).trans rfl; have hfzb1_0 := blk_frozen BK3.out 0; have hczb1_1 : w5.cell? ⟨gb2, 1, none⟩ = some (.int .i64 a0_1) := (blk_cell BK3.out 1).trans rfl; have hfzb1_1 := blk_frozen BK3.out 1))
  refine (laws_szWorld.calls k _ _ l0_0 a0_1 1048576 t7 _ (Kd.C_below HR0_0.out HB.out) HC0_0.out H8.out).mono ?_
  rintro e_ w9 ⟨rfl, hb⟩
  have hq_ : Below w5.heap.size w5 w9 := ⟨hb.os, hb.tape, hb.output, hb.size, hb.block⟩
  have HZ10 := Aside0.mk (show w5.heap.size ≤ w9.heap.size from hq_.size)
  have hn_ := Aside0.mk (below_then HB.out HB.out.size hq_)
  clear HB
  have HB := hn_
  clear hn_
  have hn_ := Aside0.mk (blk_below BK3.out hq_)
  clear hczb1_0 hfzb1_0; clear hczb1_1 hfzb1_1
  clear BK3
  have BK3 := hn_
  clear hn_
  clear hq_
  have hczb1_0 : w9.cell? ⟨gb2, 0, none⟩ = some (.slice A0_0 l0_0.length c0_0) := (blk_cell BK3.out 0).trans rfl; have hfzb1_0 := blk_frozen BK3.out 0; have hczb1_1 : w9.cell? ⟨gb2, 1, none⟩ = some (.int .i64 a0_1) := (blk_cell BK3.out 1).trans rfl; have hfzb1_1 := blk_frozen BK3.out 1
  clear hb
  go_wp2_with fail
  refine (laws_toWorld.calls k _ _ l0_0 a0_1 t11 t12 _ (Kd.C_below HR0_0.out HB.out) HC0_0.out H13.out).mono ?_
  rintro e_ w14 ⟨v15, rfl, f16, hb⟩
  have hq_ : Below w9.heap.size w9 w14 := ⟨hb.os, hb.tape, hb.output, hb.size, hb.block⟩
  have HZ17 := Aside0.mk (show w9.heap.size ≤ w14.heap.size from hq_.size)
  have hn_ := Aside0.mk (below_then HB.out HB.out.size hq_)
  clear HB
  have HB := hn_
  clear hn_
  have hn_ := Aside0.mk (blk_below BK3.out hq_)
  clear hczb1_0 hfzb1_0; clear hczb1_1 hfzb1_1
  clear BK3
  have BK3 := hn_
  clear hn_
  clear hq_
  have hczb1_0 : w14.cell? ⟨gb2, 0, none⟩ = some (.slice A0_0 l0_0.length c0_0) := (blk_cell BK3.out 0).trans rfl; have hfzb1_0 := blk_frozen BK3.out 0; have hczb1_1 : w14.cell? ⟨gb2, 1, none⟩ = some (.int .i64 a0_1) := (blk_cell BK3.out 1).trans rfl; have hfzb1_1 := blk_frozen BK3.out 1
  clear hb
  have F18 := Aside0.mk (Lk.newS (b := w9.heap.size) (base := w.heap.size) (Sep := fun k_ => True) f16 (by have := HZ6.out; have := HZ10.out; have := HZ17.out; omega) (fun k_ hk_ => hk_))
  clear f16
  obtain ⟨A19, c20, e_⟩ := Kd.S_slice F18.out
  subst e_
  go_wp2_with fail
  refine (spec_NewCache.calls k _ _ t11 t12 a1 t21 t22 t23 t24 t25 t26 t27 _ (Lk.Sr F18.out).2 (Lk.Sr F18.out).1 H28.out).mono ?_
  rintro e_ w29 ⟨v30, rfl, f31, hb⟩
  have hq_ : Below w14.heap.size w14 w29 := ⟨hb.os, hb.tape, hb.output, hb.size, hb.block⟩
  have HZ32 := Aside0.mk (show w14.heap.size ≤ w29.heap.size from hq_.size)
  have hn_ := Aside0.mk (below_then HB.out HB.out.size hq_)
  clear HB
  have HB := hn_
  clear hn_
  have hn_ := Aside0.mk (Kd.S_below F18.out hq_)
  clear F18
  have F18 := hn_
  clear hn_
  have hn_ := Aside0.mk (blk_below BK3.out hq_)
  clear hczb1_0 hfzb1_0; clear hczb1_1 hfzb1_1
  clear BK3
  have BK3 := hn_
  clear hn_
  clear hq_
  have hczb1_0 : w29.cell? ⟨gb2, 0, none⟩ = some (.slice A0_0 l0_0.length c0_0) := (blk_cell BK3.out 0).trans rfl; have hfzb1_0 := blk_frozen BK3.out 0; have hczb1_1 : w29.cell? ⟨gb2, 1, none⟩ = some (.int .i64 a0_1) := (blk_cell BK3.out 1).trans rfl; have hfzb1_1 := blk_frozen BK3.out 1
  clear hb
  have F33 := Aside0.mk (Lk.newR (b := w14.heap.size) (base := w.heap.size) (Sep := fun k_ => True) rfl f31 (by have := HZ6.out; have := HZ10.out; have := HZ17.out; have := HZ32.out; omega) (fun k_ hk_ => hk_))
  clear f31
  obtain ⟨A34, c35, e_⟩ := Kd.R_slice F33.out
  subst e_
  go_wp2_with (first | ((with_reducible refine gate_dst (N := 6) rfl ?_); refine box_event ?hg (N := 6) ?hd (cs := #[.int .i64 0, .int .i64 0, .slice none 0 0, .int .i64 0, .int .i64 0, .int .i64 0]) (t := 44) ?hr ?_; (case hd => rfl); (case hg => rfl); (case hr => first | (go_simp; done) | (go_simp; rfl)); intro gb37 hg_ w40 hx_ hb; have hg2_ : gb37 = w29.heap.size := hg_; have hq_ : Below w29.heap.size w29 w40 := ⟨hb.os, hb.tape, hb.output, hb.size, hb.block⟩; have HZ41 := Aside0.mk (show w29.heap.size ≤ w40.heap.size from hq_.size); have hn_ := Aside0.mk (below_then HB.out HB.out.size hq_); clear HB; have HB := hn_; clear hn_; have hn_ := Aside0.mk (Kd.S_below F18.out hq_); clear F18; have F18 := hn_; clear hn_; have hn_ := Aside0.mk (Kd.R_below F33.out hq_); clear F33; have F33 := hn_; clear hn_; have hn_ := Aside0.mk (blk_below BK3.out hq_); clear hczb1_0 hfzb1_0; clear hczb1_1 hfzb1_1; clear BK3; have BK3 := hn_; clear hn_; clear hq_; have hczb1_0 : w40.cell? ⟨gb2, 0, none⟩ = some (.slice A0_0 l0_0.length c0_0) := (blk_cell BK3.out 0).trans rfl; have hfzb1_0 := blk_frozen BK3.out 0; have hczb1_1 : w40.cell? ⟨gb2, 1, none⟩ = some (.int .i64 a0_1) := (blk_cell BK3.out 1).trans rfl; have hfzb1_1 := blk_frozen BK3.out 1; have BK38 := Aside0.mk hx_; have GQ39 := Aside0.mk (show w29.heap.size ≤ gb37 ∧ gb37 < w40.heap.size from ⟨Nat.le_of_eq hg2_.symm, blk_lt hx_⟩); clear hb hg_ hg2_ hx_; have hczb36_0 : w40.cell? ⟨gb37, 0, none⟩ = some (.int .i64 0) := (blk_cell BK38.out 0).trans rfl; have hfzb36_0 := blk_frozen BK38.out 0; have hczb36_1 : w40.cell? ⟨gb37, 1, none⟩ = some (.int .i64 0) := (blk_cell BK38.out 1).trans rfl; have hfzb36_1 := blk_frozen BK38.out 1; have hczb36_2 : w40.cell? ⟨gb37, 2, none⟩ = some (.slice none 0 0) := (blk_cell BK38.out 2).trans rfl; have hfzb36_2 := blk_frozen BK38.out 2; have hczb36_3 : w40.cell? ⟨gb37, 3, none⟩ = some (.int .i64 0) := (blk_cell BK38.out 3).trans rfl; have hfzb36_3 := blk_frozen BK38.out 3; have hczb36_4 : w40.cell? ⟨gb37, 4, none⟩ = some (.int .i64 0) := (blk_cell BK38.out 4).trans rfl; have hfzb36_4 := blk_frozen BK38.out 4; have hczb36_5 : w40.cell? ⟨gb37, 5, none⟩ = some (.int .i64 0) := (blk_cell BK38.out 5).trans rfl; have hfzb36_5 := blk_frozen BK38.out 5) | ((with_reducible refine gate_store (t := 44) (p := 6) rfl ?_); refine store_event (t := 44) (p := 6) (v := ?vo_w42) (w1 := ((((((w40.setCell ⟨gb37, 0, none⟩ (.int .i64 t21)).setCell ⟨gb37, 1, none⟩ (.int .i64 t22)).setCell ⟨gb37, 2, none⟩ (.slice A34 t23.length c35)).setCell ⟨gb37, 3, none⟩ (.int .i64 t24)).setCell ⟨gb37, 4, none⟩ (.int .i64 t25)).setCell ⟨gb37, 5, none⟩ (.int .i64 t26))) ?hg ?ho ?hn ?hr ?_; (case ho => rfl); (case hg => rfl); (case hn => rfl); (case hr => first | (go_simp; done) | (go_simp; rfl)); intro w42 hw_; have hx_ : w42.heap[gb37]? = some (.cells #[(.int .i64 t21), (.int .i64 t22), (.slice A34 t23.length c35), (.int .i64 t24), (.int .i64 t25), (.int .i64 t26)] 44 (0, 0)) := (by rw [hw_]; exact Lk.filled (us := [(.int .i64 t21), (.int .i64 t22), (.slice A34 t23.length c35), (.int .i64 t24), (.int .i64 t25), (.int .i64 t26)]) BK38.out rfl); have hk2_ : Kept w40 w42 (fun k_ => k_ = gb37) := (by rw [hw_]; exact Lk.fill_kept [(.int .i64 t21), (.int .i64 t22), (.slice A34 t23.length c35), (.int .i64 t24), (.int .i64 t25), (.int .i64 t26)] 0 w40); have hB_ := Aside0.mk (show Below w.heap.size w w42 by rw [hw_]; exact Lk.fill_below [(.int .i64 t21), (.int .i64 t22), (.slice A34 t23.length c35), (.int .i64 t24), (.int .i64 t25), (.int .i64 t26)] 0 w w40 HB.out (by have := HZ6.out; have := HZ10.out; have := HZ17.out; have := HZ32.out; have := HZ41.out; have := GQ39.out; omega)); clear HB; have HB := hB_; clear hB_; have HZ43 := Aside0.mk (show w40.heap.size ≤ w42.heap.size from hk2_.1); have hn_ := Aside0.mk (Kd.S_kept F18.out hk2_ (fun k_ h1_ h2_ => by have := HZ6.out; have := HZ10.out; have := HZ17.out; have := HZ32.out; have := HZ41.out; have := GQ39.out; have h3_ := h1_.1; omega)); clear F18; have F18 := hn_; clear hn_; have hn_ := Aside0.mk (Kd.R_kept F33.out hk2_ (fun k_ h1_ h2_ => by have := HZ6.out; have := HZ10.out; have := HZ17.out; have := HZ32.out; have := HZ41.out; have := GQ39.out; have h3_ := h1_.1; omega)); clear F33; have F33 := hn_; clear hn_; clear hczb1_0 hfzb1_0; clear hczb1_1 hfzb1_1; have hn_ := Aside0.mk (blk_kept BK3.out hk2_ (fun h_ => by have := HZ6.out; have := HZ10.out; have := HZ17.out; have := HZ32.out; have := HZ41.out; have := GQ39.out; have := GQ4.out; omega)); clear BK3; have BK3 := hn_; clear hn_; clear hczb36_0 hfzb36_0; clear hczb36_1 hfzb36_1; clear hczb36_2 hfzb36_2; clear hczb36_3 hfzb36_3; clear hczb36_4 hfzb36_4; clear hczb36_5 hfzb36_5; clear BK38; have BK38 := Aside0.mk hx_; clear hk2_ hx_ hw_; have hczb1_0 : w42.cell? ⟨gb2, 0, none⟩ = some (.slice A0_0 l0_0.length c0_0) := (blk_cell BK3.out 0).trans rfl; have hfzb1_0 := blk_frozen BK3.out 0; have hczb1_1 : w42.cell? ⟨gb2, 1, none⟩ = some (.int .i64 a0_1) := (blk_cell BK3.out 1).trans rfl; have hfzb1_1 := blk_frozen BK3.out 1; have hczb36_0 : w42.cell? ⟨gb37, 0, none⟩ = some (.int .i64 t21) := (blk_cell BK38.out 0).trans rfl; have hfzb36_0 := blk_frozen BK38.out 0; have hczb36_1 : w42.cell? ⟨gb37, 1, none⟩ = some (.int .i64 t22) := (blk_cell BK38.out 1).trans rfl; have hfzb36_1 := blk_frozen BK38.out 1; have hczb36_2 : w42.cell? ⟨gb37, 2, none⟩ = some (.slice A34 t23.length c35) := (blk_cell BK38.out 2).trans rfl; have hfzb36_2 := blk_frozen BK38.out 2; have hczb36_3 : w42.cell? ⟨gb37, 3, none⟩ = some (.int .i64 t24) := (blk_cell BK38.out 3).trans rfl; have hfzb36_3 := blk_frozen BK38.out 3; have hczb36_4 : w42.cell? ⟨gb37, 4, none⟩ = some (.int .i64 t25) := (blk_cell BK38.out 4).trans rfl; have hfzb36_4 := blk_frozen BK38.out 4; have hczb36_5 : w42.cell? ⟨gb37, 5, none⟩ = some (.int .i64 t26) := (blk_cell BK38.out 5).trans rfl; have hfzb36_5 := blk_frozen BK38.out 5))
  refine (laws_toWorld.calls k _ _ l0_0 a0_1 t44 t45 _ (Kd.C_below HR0_0.out HB.out) HC0_0.out H46.out).mono ?_
  rintro e_ w47 ⟨v48, rfl, f49, hb⟩
  have hq_ : Below w42.heap.size w42 w47 := ⟨hb.os, hb.tape, hb.output, hb.size, hb.block⟩
  have HZ50 := Aside0.mk (show w42.heap.size ≤ w47.heap.size from hq_.size)
  have hn_ := Aside0.mk (below_then HB.out HB.out.size hq_)
  clear HB
  have HB := hn_
  clear hn_
  have hn_ := Aside0.mk (Kd.S_below F18.out hq_)
  clear F18
  have F18 := hn_
  clear hn_
  have hn_ := Aside0.mk (Kd.R_below F33.out hq_)
  clear F33
  have F33 := hn_
  clear hn_
  have hn_ := Aside0.mk (blk_below BK3.out hq_)
  clear hczb1_0 hfzb1_0; clear hczb1_1 hfzb1_1
  clear BK3
  have BK3 := hn_
  clear hn_
  have hn_ := Aside0.mk (blk_below BK38.out hq_)
  clear hczb36_0 hfzb36_0; clear hczb36_1 hfzb36_1; clear hczb36_2 hfzb36_2; clear hczb36_3 hfzb36_3; clear hczb36_4 hfzb36_4; clear hczb36_5 hfzb36_5
  clear BK38
  have BK38 := hn_
  clear hn_
  clear hq_
  have hczb1_0 : w47.cell? ⟨gb2, 0, none⟩ = some (.slice A0_0 l0_0.length c0_0) := (blk_cell BK3.out 0).trans rfl; have hfzb1_0 := blk_frozen BK3.out 0; have hczb1_1 : w47.cell? ⟨gb2, 1, none⟩ = some (.int .i64 a0_1) := (blk_cell BK3.out 1).trans rfl; have hfzb1_1 := blk_frozen BK3.out 1
  have hczb36_0 : w47.cell? ⟨gb37, 0, none⟩ = some (.int .i64 t21) := (blk_cell BK38.out 0).trans rfl; have hfzb36_0 := blk_frozen BK38.out 0; have hczb36_1 : w47.cell? ⟨gb37, 1, none⟩ = some (.int .i64 t22) := (blk_cell BK38.out 1).trans rfl; have hfzb36_1 := blk_frozen BK38.out 1; have hczb36_2 : w47.cell? ⟨gb37, 2, none⟩ = some (.slice A34 t23.length c35) := (blk_cell BK38.out 2).trans rfl; have hfzb36_2 := blk_frozen BK38.out 2; have hczb36_3 : w47.cell? ⟨gb37, 3, none⟩ = some (.int .i64 t24) := (blk_cell BK38.out 3).trans rfl; have hfzb36_3 := blk_frozen BK38.out 3; have hczb36_4 : w47.cell? ⟨gb37, 4, none⟩ = some (.int .i64 t25) := (blk_cell BK38.out 4).trans rfl; have hfzb36_4 := blk_frozen BK38.out 4; have hczb36_5 : w47.cell? ⟨gb37, 5, none⟩ = some (.int .i64 t26) := (blk_cell BK38.out 5).trans rfl; have hfzb36_5 := blk_frozen BK38.out 5
  clear hb
  have F51 := Aside0.mk (Lk.newS (b := w42.heap.size) (base := w.heap.size) (Sep := fun k_ => True) f49 (by have := HZ6.out; have := HZ10.out; have := HZ17.out; have := HZ32.out; have := HZ41.out; have := HZ43.out; have := HZ50.out; omega) (fun k_ hk_ => hk_))
  clear f49
  obtain ⟨A52, c53, e_⟩ := Kd.S_slice F51.out
  subst e_
  go_wp2_with (first | ((with_reducible refine gate_dst (N := 8) rfl ?_); refine box_event ?hg (N := 8) ?hd (cs := #[.slice none 0 0, .int .i64 0]) (t := 29) ?hr ?_; (case hd => rfl); (case hg => rfl); (case hr => first | (go_simp; done) | (go_simp; rfl)); intro gb55 hg_ w58 hx_ hb; have hg2_ : gb55 = w47.heap.size := hg_; have hq_ : Below w47.heap.size w47 w58 := ⟨hb.os, hb.tape, hb.output, hb.size, hb.block⟩; have HZ59 := Aside0.mk (show w47.heap.size ≤ w58.heap.size from hq_.size); have hn_ := Aside0.mk (below_then HB.out HB.out.size hq_); clear HB; have HB := hn_; clear hn_; have hn_ := Aside0.mk (Kd.S_below F18.out hq_); clear F18; have F18 := hn_; clear hn_; have hn_ := Aside0.mk (Kd.R_below F33.out hq_); clear F33; have F33 := hn_; clear hn_; have hn_ := Aside0.mk (Kd.S_below F51.out hq_); clear F51; have F51 := hn_; clear hn_; have hn_ := Aside0.mk (blk_below BK3.out hq_); clear hczb1_0 hfzb1_0; clear hczb1_1 hfzb1_1; clear BK3; have BK3 := hn_; clear hn_; have hn_ := Aside0.mk (blk_below BK38.out hq_); clear hczb36_0 hfzb36_0; clear hczb36_1 hfzb36_1; clear hczb36_2 hfzb36_2; clear hczb36_3 hfzb36_3; clear hczb36_4 hfzb36_4; clear hczb36_5 hfzb36_5; clear BK38; have BK38 := hn_; clear hn_; clear hq_; have hczb1_0 : w58.cell? ⟨gb2, 0, none⟩ = some (.slice A0_0 l0_0.length c0_0) := (blk_cell BK3.out 0).trans rfl; have hfzb1_0 := blk_frozen BK3.out 0; have hczb1_1 : w58.cell? ⟨gb2, 1, none⟩ = some (.int .i64 a0_1) := (blk_cell BK3.out 1).trans rfl; have hfzb1_1 := blk_frozen BK3.out 1; have hczb36_0 : w58.cell? ⟨gb37, 0, none⟩ = some (.int .i64 t21) := (blk_cell BK38.out 0).trans rfl; have hfzb36_0 := blk_frozen BK38.out 0; have hczb36_1 : w58.cell? ⟨gb37, 1, none⟩ = some (.int .i64 t22) := (blk_cell BK38.out 1).trans rfl; have hfzb36_1 := blk_frozen BK38.out 1; have hczb36_2 : w58.cell? ⟨gb37, 2, none⟩ = some (.slice A34 t23.length c35) := (blk_cell BK38.out 2).trans rfl; have hfzb36_2 := blk_frozen BK38.out 2; have hczb36_3 : w58.cell? ⟨gb37, 3, none⟩ = some (.int .i64 t24) := (blk_cell BK38.out 3).trans rfl; have hfzb36_3 := blk_frozen BK38.out 3; have hczb36_4 : w58.cell? ⟨gb37, 4, none⟩ = some (.int .i64 t25) := (blk_cell BK38.out 4).trans rfl; have hfzb36_4 := blk_frozen BK38.out 4; have hczb36_5 : w58.cell? ⟨gb37, 5, none⟩ = some (.int .i64 t26) := (blk_cell BK38.out 5).trans rfl; have hfzb36_5 := blk_frozen BK38.out 5; have BK56 := Aside0.mk hx_; have GQ57 := Aside0.mk (show w47.heap.size ≤ gb55 ∧ gb55 < w58.heap.size from ⟨Nat.le_of_eq hg2_.symm, blk_lt hx_⟩); clear hb hg_ hg2_ hx_; have hczb54_0 : w58.cell? ⟨gb55, 0, none⟩ = some (.slice none 0 0) := (blk_cell BK56.out 0).trans rfl; have hfzb54_0 := blk_frozen BK56.out 0; have hczb54_1 : w58.cell? ⟨gb55, 1, none⟩ = some (.int .i64 0) := (blk_cell BK56.out 1).trans rfl; have hfzb54_1 := blk_frozen BK56.out 1) | ((with_reducible refine gate_store (t := 29) (p := 8) rfl ?_); refine store_event (t := 29) (p := 8) (v := ?vo_w60) (w1 := ((w58.setCell ⟨gb55, 0, none⟩ (.slice A52 t44.length c53)).setCell ⟨gb55, 1, none⟩ (.int .i64 t45))) ?hg ?ho ?hn ?hr ?_; (case ho => rfl); (case hg => rfl); (case hn => rfl); (case hr => first | (go_simp; done) | (go_simp; rfl)); intro w60 hw_; have hx_ : w60.heap[gb55]? = some (.cells #[(.slice A52 t44.length c53), (.int .i64 t45)] 29 (0, 0)) := (by rw [hw_]; exact Lk.filled (us := [(.slice A52 t44.length c53), (.int .i64 t45)]) BK56.out rfl); have hk2_ : Kept w58 w60 (fun k_ => k_ = gb55) := (by rw [hw_]; exact Lk.fill_kept [(.slice A52 t44.length c53), (.int .i64 t45)] 0 w58); have hB_ := Aside0.mk (show Below w.heap.size w w60 by rw [hw_]; exact Lk.fill_below [(.slice A52 t44.length c53), (.int .i64 t45)] 0 w w58 HB.out (by have := HZ6.out; have := HZ10.out; have := HZ17.out; have := HZ32.out; have := HZ41.out; have := HZ43.out; have := HZ50.out; have := HZ59.out; have := GQ57.out; omega)); clear HB; have HB := hB_; clear hB_; have HZ61 := Aside0.mk (show w58.heap.size ≤ w60.heap.size from hk2_.1); have hn_ := Aside0.mk (Kd.S_kept F18.out hk2_ (fun k_ h1_ h2_ => by have := HZ6.out; have := HZ10.out; have := HZ17.out; have := HZ32.out; have := HZ41.out; have := HZ43.out; have := HZ50.out; have := HZ59.out; have := GQ57.out; have h3_ := h1_.1; omega)); clear F18; have F18 := hn_; clear hn_; have hn_ := Aside0.mk (Kd.R_kept F33.out hk2_ (fun k_ h1_ h2_ => by have := HZ6.out; have := HZ10.out; have := HZ17.out; have := HZ32.out; have := HZ41.out; have := HZ43.out; have := HZ50.out; have := HZ59.out; have := GQ57.out; have h3_ := h1_.1; omega)); clear F33; have F33 := hn_; clear hn_; have hn_ := Aside0.mk (Kd.S_kept F51.out hk2_ (fun k_ h1_ h2_ => by have := HZ6.out; have := HZ10.out; have := HZ17.out; have := HZ32.out; have := HZ41.out; have := HZ43.out; have := HZ50.out; have := HZ59.out; have := GQ57.out; have h3_ := h1_.1; omega)); clear F51; have F51 := hn_; clear hn_; clear hczb1_0 hfzb1_0; clear hczb1_1 hfzb1_1; have hn_ := Aside0.mk (blk_kept BK3.out hk2_ (fun h_ => by have := HZ6.out; have := HZ10.out; have := HZ17.out; have := HZ32.out; have := HZ41.out; have := HZ43.out; have := HZ50.out; have := HZ59.out; have := GQ57.out; have := GQ4.out; omega)); clear BK3; have BK3 := hn_; clear hn_; clear hczb36_0 hfzb36_0; clear hczb36_1 hfzb36_1; clear hczb36_2 hfzb36_2; clear hczb36_3 hfzb36_3; clear hczb36_4 hfzb36_4; clear hczb36_5 hfzb36_5; have hn_ := Aside0.mk (blk_kept BK38.out hk2_ (fun h_ => by have := HZ6.out; have := HZ10.out; have := HZ17.out; have := HZ32.out; have := HZ41.out; have := HZ43.out; have := HZ50.out; have := HZ59.out; have := GQ57.out; have := GQ39.out; omega)); clear BK38; have BK38 := hn_; clear hn_; clear hczb54_0 hfzb54_0; clear hczb54_1 hfzb54_1; clear BK56; have BK56 := Aside0.mk hx_; clear hk2_ hx_ hw_; have hczb1_0 : w60.cell? ⟨gb2, 0, none⟩ = some (.slice A0_0 l0_0.length c0_0) := (blk_cell BK3.out 0).trans rfl; have hfzb1_0 := blk_frozen BK3.out 0; have hczb1_1 : w60.cell? ⟨gb2, 1, none⟩ = some (.int .i64 a0_1) := (blk_cell BK3.out 1).trans rfl; have hfzb1_1 := blk_frozen BK3.out 1; have hczb36_0 : w60.cell? ⟨gb37, 0, none⟩ = some (.int .i64 t21) := (blk_cell BK38.out 0).trans rfl; have hfzb36_0 := blk_frozen BK38.out 0; have hczb36_1 : w60.cell? ⟨gb37, 1, none⟩ = some (.int .i64 t22) := (blk_cell BK38.out 1).trans rfl; have hfzb36_1 := blk_frozen BK38.out 1; have hczb36_2 : w60.cell? ⟨gb37, 2, none⟩ = some (.slice A34 t23.length c35) := (blk_cell BK38.out 2).trans rfl; have hfzb36_2 := blk_frozen BK38.out 2; have hczb36_3 : w60.cell? ⟨gb37, 3, none⟩ = some (.int .i64 t24) := (blk_cell BK38.out 3).trans rfl; have hfzb36_3 := blk_frozen BK38.out 3; have hczb36_4 : w60.cell? ⟨gb37, 4, none⟩ = some (.int .i64 t25) := (blk_cell BK38.out 4).trans rfl; have hfzb36_4 := blk_frozen BK38.out 4; have hczb36_5 : w60.cell? ⟨gb37, 5, none⟩ = some (.int .i64 t26) := (blk_cell BK38.out 5).trans rfl; have hfzb36_5 := blk_frozen BK38.out 5; have hczb54_0 : w60.cell? ⟨gb55, 0, none⟩ = some (.slice A52 t44.length c53) := (blk_cell BK56.out 0).trans rfl; have hfzb54_0 := blk_frozen BK56.out 0; have hczb54_1 : w60.cell? ⟨gb55, 1, none⟩ = some (.int .i64 t45) := (blk_cell BK56.out 1).trans rfl; have hfzb54_1 := blk_frozen BK56.out 1))
  refine (impl_NewCache.calls k _ _ t44 t45 a1 t62 t63 t64 t65 t66 t67 t27 _ (Lk.Sr F51.out).2 (Lk.Sr F51.out).1 H69.out).mono ?_
  rintro e_ w70 ⟨v71, rfl, f72, hb⟩
  have hq_ : Below w60.heap.size w60 w70 := ⟨hb.os, hb.tape, hb.output, hb.size, hb.block⟩
  have HZ73 := Aside0.mk (show w60.heap.size ≤ w70.heap.size from hq_.size)
  have hn_ := Aside0.mk (below_then HB.out HB.out.size hq_)
  clear HB
  have HB := hn_
  clear hn_
  have hn_ := Aside0.mk (Kd.S_below F18.out hq_)
  clear F18
  have F18 := hn_
  clear hn_
  have hn_ := Aside0.mk (Kd.R_below F33.out hq_)
  clear F33
  have F33 := hn_
  clear hn_
  have hn_ := Aside0.mk (Kd.S_below F51.out hq_)
  clear F51
  have F51 := hn_
  clear hn_
  have hn_ := Aside0.mk (blk_below BK3.out hq_)
  clear hczb1_0 hfzb1_0; clear hczb1_1 hfzb1_1
  clear BK3
  have BK3 := hn_
  clear hn_
  have hn_ := Aside0.mk (blk_below BK38.out hq_)
  clear hczb36_0 hfzb36_0; clear hczb36_1 hfzb36_1; clear hczb36_2 hfzb36_2; clear hczb36_3 hfzb36_3; clear hczb36_4 hfzb36_4; clear hczb36_5 hfzb36_5
  clear BK38
  have BK38 := hn_
  clear hn_
  have hn_ := Aside0.mk (blk_below BK56.out hq_)
  clear hczb54_0 hfzb54_0; clear hczb54_1 hfzb54_1
  clear BK56
  have BK56 := hn_
  clear hn_
  clear hq_
  have hczb1_0 : w70.cell? ⟨gb2, 0, none⟩ = some (.slice A0_0 l0_0.length c0_0) := (blk_cell BK3.out 0).trans rfl; have hfzb1_0 := blk_frozen BK3.out 0; have hczb1_1 : w70.cell? ⟨gb2, 1, none⟩ = some (.int .i64 a0_1) := (blk_cell BK3.out 1).trans rfl; have hfzb1_1 := blk_frozen BK3.out 1
  have hczb36_0 : w70.cell? ⟨gb37, 0, none⟩ = some (.int .i64 t21) := (blk_cell BK38.out 0).trans rfl; have hfzb36_0 := blk_frozen BK38.out 0; have hczb36_1 : w70.cell? ⟨gb37, 1, none⟩ = some (.int .i64 t22) := (blk_cell BK38.out 1).trans rfl; have hfzb36_1 := blk_frozen BK38.out 1; have hczb36_2 : w70.cell? ⟨gb37, 2, none⟩ = some (.slice A34 t23.length c35) := (blk_cell BK38.out 2).trans rfl; have hfzb36_2 := blk_frozen BK38.out 2; have hczb36_3 : w70.cell? ⟨gb37, 3, none⟩ = some (.int .i64 t24) := (blk_cell BK38.out 3).trans rfl; have hfzb36_3 := blk_frozen BK38.out 3; have hczb36_4 : w70.cell? ⟨gb37, 4, none⟩ = some (.int .i64 t25) := (blk_cell BK38.out 4).trans rfl; have hfzb36_4 := blk_frozen BK38.out 4; have hczb36_5 : w70.cell? ⟨gb37, 5, none⟩ = some (.int .i64 t26) := (blk_cell BK38.out 5).trans rfl; have hfzb36_5 := blk_frozen BK38.out 5
  have hczb54_0 : w70.cell? ⟨gb55, 0, none⟩ = some (.slice A52 t44.length c53) := (blk_cell BK56.out 0).trans rfl; have hfzb54_0 := blk_frozen BK56.out 0; have hczb54_1 : w70.cell? ⟨gb55, 1, none⟩ = some (.int .i64 t45) := (blk_cell BK56.out 1).trans rfl; have hfzb54_1 := blk_frozen BK56.out 1
  clear hb
  have F74 := Aside0.mk (Lk.newR (b := w60.heap.size) (base := w.heap.size) (Sep := fun k_ => True) rfl f72 (by have := HZ6.out; have := HZ10.out; have := HZ17.out; have := HZ32.out; have := HZ41.out; have := HZ43.out; have := HZ50.out; have := HZ59.out; have := HZ61.out; have := HZ73.out; omega) (fun k_ hk_ => hk_))
  clear f72
  obtain ⟨A75, c76, e_⟩ := Kd.R_slice F74.out
  subst e_
  go_wp2_with (first | ((with_reducible refine gate_dst (N := 9) rfl ?_); refine box_event ?hg (N := 9) ?hd (cs := #[.int .i64 0, .int .i64 0, .slice none 0 0, .int .i64 0, .int .i64 0, .int .i64 0]) (t := 44) ?hr ?_; (case hd => rfl); (case hg => rfl); (case hr => first | (go_simp; done) | (go_simp; rfl)); intro gb78 hg_ w81 hx_ hb; have hg2_ : gb78 = w70.heap.size := hg_; have hq_ : Below w70.heap.size w70 w81 := ⟨hb.os, hb.tape, hb.output, hb.size, hb.block⟩; have HZ82 := Aside0.mk (show w70.heap.size ≤ w81.heap.size from hq_.size); have hn_ := Aside0.mk (below_then HB.out HB.out.size hq_); clear HB; have HB := hn_; clear hn_; have hn_ := Aside0.mk (Kd.S_below F18.out hq_); clear F18; have F18 := hn_; clear hn_; have hn_ := Aside0.mk (Kd.R_below F33.out hq_); clear F33; have F33 := hn_; clear hn_; have hn_ := Aside0.mk (Kd.S_below F51.out hq_); clear F51; have F51 := hn_; clear hn_; have hn_ := Aside0.mk (Kd.R_below F74.out hq_); clear F74; have F74 := hn_; clear hn_; have hn_ := Aside0.mk (blk_below BK3.out hq_); clear hczb1_0 hfzb1_0; clear hczb1_1 hfzb1_1; clear BK3; have BK3 := hn_; clear hn_; have hn_ := Aside0.mk (blk_below BK38.out hq_); clear hczb36_0 hfzb36_0; clear hczb36_1 hfzb36_1; clear hczb36_2 hfzb36_2; clear hczb36_3 hfzb36_3; clear hczb36_4 hfzb36_4; clear hczb36_5 hfzb36_5; clear BK38; have BK38 := hn_; clear hn_; have hn_ := Aside0.mk (blk_below BK56.out hq_); clear hczb54_0 hfzb54_0; clear hczb54_1 hfzb54_1; clear BK56; have BK56 := hn_; clear hn_; clear hq_; have hczb1_0 : w81.cell? ⟨gb2, 0, none⟩ = some (.slice A0_0 l0_0.length c0_0) := (blk_cell BK3.out 0).trans rfl; have hfzb1_0 := blk_frozen BK3.out 0; have hczb1_1 : w81.cell? ⟨gb2, 1, none⟩ = some (.int .i64 a0_1) := (blk_cell BK3.out 1).trans rfl; have hfzb1_1 := blk_frozen BK3.out 1; have hczb36_0 : w81.cell? ⟨gb37, 0, none⟩ = some (.int .i64 t21) := (blk_cell BK38.out 0).trans rfl; have hfzb36_0 := blk_frozen BK38.out 0; have hczb36_1 : w81.cell? ⟨gb37, 1, none⟩ = some (.int .i64 t22) := (blk_cell BK38.out 1).trans rfl; have hfzb36_1 := blk_frozen BK38.out 1; have hczb36_2 : w81.cell? ⟨gb37, 2, none⟩ = some (.slice A34 t23.length c35) := (blk_cell BK38.out 2).trans rfl; have hfzb36_2 := blk_frozen BK38.out 2; have hczb36_3 : w81.cell? ⟨gb37, 3, none⟩ = some (.int .i64 t24) := (blk_cell BK38.out 3).trans rfl; have hfzb36_3 := blk_frozen BK38.out 3; have hczb36_4 : w81.cell? ⟨gb37, 4, none⟩ = some (.int .i64 t25) := (blk_cell BK38.out 4).trans rfl; have hfzb36_4 := blk_frozen BK38.out 4; have hczb36_5 : w81.cell? ⟨gb37, 5, none⟩ = some (.int .i64 t26) := (blk_cell BK38.out 5).trans rfl; have hfzb36_5 := blk_frozen BK38.out 5; have hczb54_0 : w81.cell? ⟨gb55, 0, none⟩ = some (.slice A52 t44.length c53) := (blk_cell BK56.out 0).trans rfl; have hfzb54_0 := blk_frozen BK56.out 0; have hczb54_1 : w81.cell? ⟨gb55, 1, none⟩ = some (.int .i64 t45) := (blk_cell BK56.out 1).trans rfl; have hfzb54_1 := blk_frozen BK56.out 1; have BK79 := Aside0.mk hx_; have GQ80 := Aside0.mk (show w70.heap.size ≤ gb78 ∧ gb78 < w81.heap.size from ⟨Nat.le_of_eq hg2_.symm, blk_lt hx_⟩); clear hb hg_ hg2_ hx_; have hczb77_0 : w81.cell? ⟨gb78, 0, none⟩ = some (.int .i64 0) := (blk_cell BK79.out 0).trans rfl; have hfzb77_0 := blk_frozen BK79.out 0; have hczb77_1 : w81.cell? ⟨gb78, 1, none⟩ = some (.int .i64 0) := (blk_cell BK79.out 1).trans rfl; have hfzb77_1 := blk_frozen BK79.out 1; have hczb77_2 : w81.cell? ⟨gb78, 2, none⟩ = some (.slice none 0 0) := (blk_cell BK79.out 2).trans rfl; have hfzb77_2 := blk_frozen BK79.out 2; have hczb77_3 : w81.cell? ⟨gb78, 3, none⟩ = some (.int .i64 0) := (blk_cell BK79.out 3).trans rfl; have hfzb77_3 := blk_frozen BK79.out 3; have hczb77_4 : w81.cell? ⟨gb78, 4, none⟩ = some (.int .i64 0) := (blk_cell BK79.out 4).trans rfl; have hfzb77_4 := blk_frozen BK79.out 4; have hczb77_5 : w81.cell? ⟨gb78, 5, none⟩ = some (.int .i64 0) := (blk_cell BK79.out 5).trans rfl; have hfzb77_5 := blk_frozen BK79.out 5) | ((with_reducible refine gate_store (t := 44) (p := 9) rfl ?_); refine store_event (t := 44) (p := 9) (v := ?vo_w83) (w1 := ((((((w81.setCell ⟨gb78, 0, none⟩ (.int .i64 t62)).setCell ⟨gb78, 1, none⟩ (.int .i64 t63)).setCell ⟨gb78, 2, none⟩ (.slice A75 t64.length c76)).setCell ⟨gb78, 3, none⟩ (.int .i64 t65)).setCell ⟨gb78, 4, none⟩ (.int .i64 t66)).setCell ⟨gb78, 5, none⟩ (.int .i64 t67))) ?hg ?ho ?hn ?hr ?_; (case ho => rfl); (case hg => rfl); (case hn => rfl); (case hr => first | (go_simp; done) | (go_simp; rfl)); intro w83 hw_; have hx_ : w83.heap[gb78]? = some (.cells #[(.int .i64 t62), (.int .i64 t63), (.slice A75 t64.length c76), (.int .i64 t65), (.int .i64 t66), (.int .i64 t67)] 44 (0, 0)) := (by rw [hw_]; exact Lk.filled (us := [(.int .i64 t62), (.int .i64 t63), (.slice A75 t64.length c76), (.int .i64 t65), (.int .i64 t66), (.int .i64 t67)]) BK79.out rfl); have hk2_ : Kept w81 w83 (fun k_ => k_ = gb78) := (by rw [hw_]; exact Lk.fill_kept [(.int .i64 t62), (.int .i64 t63), (.slice A75 t64.length c76), (.int .i64 t65), (.int .i64 t66), (.int .i64 t67)] 0 w81); have hB_ := Aside0.mk (show Below w.heap.size w w83 by rw [hw_]; exact Lk.fill_below [(.int .i64 t62), (.int .i64 t63), (.slice A75 t64.length c76), (.int .i64 t65), (.int .i64 t66), (.int .i64 t67)] 0 w w81 HB.out (by have := HZ6.out; have := HZ10.out; have := HZ17.out; have := HZ32.out; have := HZ41.out; have := HZ43.out; have := HZ50.out; have := HZ59.out; have := HZ61.out; have := HZ73.out; have := HZ82.out; have := GQ80.out; omega)); clear HB; have HB := hB_; clear hB_; have HZ84 := Aside0.mk (show w81.heap.size ≤ w83.heap.size from hk2_.1); have hn_ := Aside0.mk (Kd.S_kept F18.out hk2_ (fun k_ h1_ h2_ => by have := HZ6.out; have := HZ10.out; have := HZ17.out; have := HZ32.out; have := HZ41.out; have := HZ43.out; have := HZ50.out; have := HZ59.out; have := HZ61.out; have := HZ73.out; have := HZ82.out; have := GQ80.out; have h3_ := h1_.1; omega)); clear F18; have F18 := hn_; clear hn_; have hn_ := Aside0.mk (Kd.R_kept F33.out hk2_ (fun k_ h1_ h2_ => by have := HZ6.out; have := HZ10.out; have := HZ17.out; have := HZ32.out; have := HZ41.out; have := HZ43.out; have := HZ50.out; have := HZ59.out; have := HZ61.out; have := HZ73.out; have := HZ82.out; have := GQ80.out; have h3_ := h1_.1; omega)); clear F33; have F33 := hn_; clear hn_; have hn_ := Aside0.mk (Kd.S_kept F51.out hk2_ (fun k_ h1_ h2_ => by have := HZ6.out; have := HZ10.out; have := HZ17.out; have := HZ32.out; have := HZ41.out; have := HZ43.out; have := HZ50.out; have := HZ59.out; have := HZ61.out; have := HZ73.out; have := HZ82.out; have := GQ80.out; have h3_ := h1_.1; omega)); clear F51; have F51 := hn_; clear hn_; have hn_ := Aside0.mk (Kd.R_kept F74.out hk2_ (fun k_ h1_ h2_ => by have := HZ6.out; have := HZ10.out; have := HZ17.out; have := HZ32.out; have := HZ41.out; have := HZ43.out; have := HZ50.out; have := HZ59.out; have := HZ61.out; have := HZ73.out; have := HZ82.out; have := GQ80.out; have h3_ := h1_.1; omega)); clear F74; have F74 := hn_; clear hn_; clear hczb1_0 hfzb1_0; clear hczb1_1 hfzb1_1; have hn_ := Aside0.mk (blk_kept BK3.out hk2_ (fun h_ => by have := HZ6.out; have := HZ10.out; have := HZ17.out; have := HZ32.out; have := HZ41.out; have := HZ43.out; have := HZ50.out; have := HZ59.out; have := HZ61.out; have := HZ73.out; have := HZ82.out; have := GQ80.out; have := GQ4.out; omega)); clear BK3; have BK3 := hn_; clear hn_; clear hczb36_0 hfzb36_0; clear hczb36_1 hfzb36_1; clear hczb36_2 hfzb36_2; clear hczb36_3 hfzb36_3; clear hczb36_4 hfzb36_4; clear hczb36_5 hfzb36_5; have hn_ := Aside0.mk (blk_kept BK38.out hk2_ (fun h_ => by have := HZ6.out; have := HZ10.out; have := HZ17.out; have := HZ32.out; have := HZ41.out; have := HZ43.out; have := HZ50.out; have := HZ59.out; have := HZ61.out; have := HZ73.out; have := HZ82.out; have := GQ80.out; have := GQ39.out; omega)); clear BK38; have BK38 := hn_; clear hn_; clear hczb54_0 hfzb54_0; clear hczb54_1 hfzb54_1; have hn_ := Aside0.mk (blk_kept BK56.out hk2_ (fun h_ => by have := HZ6.out; have := HZ10.out; have := HZ17.out; have := HZ32.out; have := HZ41.out; have := HZ43.out; have := HZ50.out; have := HZ59.out; have := HZ61.out; have := HZ73.out; have := HZ82.out; have := GQ80.out; have := GQ57.out; omega)); clear BK56; have BK56 := hn_; clear hn_; clear hczb77_0 hfzb77_0; clear hczb77_1 hfzb77_1; clear hczb77_2 hfzb77_2; clear hczb77_3 hfzb77_3; clear hczb77_4 hfzb77_4; clear hczb77_5 hfzb77_5; clear BK79; have BK79 := Aside0.mk hx_; clear hk2_ hx_ hw_; have hczb1_0 : w83.cell? ⟨gb2, 0, none⟩ = some (.slice A0_0 l0_0.length c0_0) := (blk_cell BK3.out 0).trans rfl; have hfzb1_0 := blk_frozen BK3.out 0; have hczb1_1 : w83.cell? ⟨gb2, 1, none⟩ = some (.int .i64 a0_1) := (blk_cell BK3.out 1).trans rfl; have hfzb1_1 := blk_frozen BK3.out 1; have hczb36_0 : w83.cell? ⟨gb37, 0, none⟩ = some (.int .i64 t21) := (blk_cell BK38.out 0).trans rfl; have hfzb36_0 := blk_frozen BK38.out 0; have hczb36_1 : w83.cell? ⟨gb37, 1, none⟩ = some (.int .i64 t22) := (blk_cell BK38.out 1).trans rfl; have hfzb36_1 := blk_frozen BK38.out 1; have hczb36_2 : w83.cell? ⟨gb37, 2, none⟩ = some (.slice A34 t23.length c35) := (blk_cell BK38.out 2).trans rfl; have hfzb36_2 := blk_frozen BK38.out 2; have hczb36_3 : w83.cell? ⟨gb37, 3, none⟩ = some (.int .i64 t24) := (blk_cell BK38.out 3).trans rfl; have hfzb36_3 := blk_frozen BK38.out 3; have hczb36_4 : w83.cell? ⟨gb37, 4, none⟩ = some (.int .i64 t25) := (blk_cell BK38.out 4).trans rfl; have hfzb36_4 := blk_frozen BK38.out 4; have hczb36_5 : w83.cell? ⟨gb37, 5, none⟩ = some (.int .i64 t26) := (blk_cell BK38.out 5).trans rfl; have hfzb36_5 := blk_frozen BK38.out 5; have hczb54_0 : w83.cell? ⟨gb55, 0, none⟩ = some (.slice A52 t44.length c53) := (blk_cell BK56.out 0).trans rfl; have hfzb54_0 := blk_frozen BK56.out 0; have hczb54_1 : w83.cell? ⟨gb55, 1, none⟩ = some (.int .i64 t45) := (blk_cell BK56.out 1).trans rfl; have hfzb54_1 := blk_frozen BK56.out 1; have hczb77_0 : w83.cell? ⟨gb78, 0, none⟩ = some (.int .i64 t62) := (blk_cell BK79.out 0).trans rfl; have hfzb77_0 := blk_frozen BK79.out 0; have hczb77_1 : w83.cell? ⟨gb78, 1, none⟩ = some (.int .i64 t63) := (blk_cell BK79.out 1).trans rfl; have hfzb77_1 := blk_frozen BK79.out 1; have hczb77_2 : w83.cell? ⟨gb78, 2, none⟩ = some (.slice A75 t64.length c76) := (blk_cell BK79.out 2).trans rfl; have hfzb77_2 := blk_frozen BK79.out 2; have hczb77_3 : w83.cell? ⟨gb78, 3, none⟩ = some (.int .i64 t65) := (blk_cell BK79.out 3).trans rfl; have hfzb77_3 := blk_frozen BK79.out 3; have hczb77_4 : w83.cell? ⟨gb78, 4, none⟩ = some (.int .i64 t66) := (blk_cell BK79.out 4).trans rfl; have hfzb77_4 := blk_frozen BK79.out 4; have hczb77_5 : w83.cell? ⟨gb78, 5, none⟩ = some (.int .i64 t67) := (blk_cell BK79.out 5).trans rfl; have hfzb77_5 := blk_frozen BK79.out 5))
  refine (laws_eqCache.calls k t62 t63 _ _ t64 t65 t66 t67 t21 t22 _ _ t23 t24 t25 t26 true _ (Lk.Rr F74.out).2 (Lk.Rr F74.out).1 (Lk.Rr F33.out).2 (Lk.Rr F33.out).1 H86.out).mono ?_
  rintro e_ w87 ⟨rfl, hb⟩
  have hq_ : Below w83.heap.size w83 w87 := ⟨hb.os, hb.tape, hb.output, hb.size, hb.block⟩
  have HZ88 := Aside0.mk (show w83.heap.size ≤ w87.heap.size from hq_.size)
  have hn_ := Aside0.mk (below_then HB.out HB.out.size hq_)
  clear HB
  have HB := hn_
  clear hn_
  have hn_ := Aside0.mk (Kd.S_below F18.out hq_)
  clear F18
  have F18 := hn_
  clear hn_
  have hn_ := Aside0.mk (Kd.R_below F33.out hq_)
  clear F33
  have F33 := hn_
  clear hn_
  have hn_ := Aside0.mk (Kd.S_below F51.out hq_)
  clear F51
  have F51 := hn_
  clear hn_
  have hn_ := Aside0.mk (Kd.R_below F74.out hq_)
  clear F74
  have F74 := hn_
  clear hn_
  have hn_ := Aside0.mk (blk_below BK3.out hq_)
  clear hczb1_0 hfzb1_0; clear hczb1_1 hfzb1_1
  clear BK3
  have BK3 := hn_
  clear hn_
  have hn_ := Aside0.mk (blk_below BK38.out hq_)
  clear hczb36_0 hfzb36_0; clear hczb36_1 hfzb36_1; clear hczb36_2 hfzb36_2; clear hczb36_3 hfzb36_3; clear hczb36_4 hfzb36_4; clear hczb36_5 hfzb36_5
  clear BK38
  have BK38 := hn_
  clear hn_
  have hn_ := Aside0.mk (blk_below BK56.out hq_)
  clear hczb54_0 hfzb54_0; clear hczb54_1 hfzb54_1
  clear BK56
  have BK56 := hn_
  clear hn_
  have hn_ := Aside0.mk (blk_below BK79.out hq_)
  clear hczb77_0 hfzb77_0; clear hczb77_1 hfzb77_1; clear hczb77_2 hfzb77_2; clear hczb77_3 hfzb77_3; clear hczb77_4 hfzb77_4; clear hczb77_5 hfzb77_5
  clear BK79
  have BK79 := hn_
  clear hn_
  clear hq_
  have hczb1_0 : w87.cell? ⟨gb2, 0, none⟩ = some (.slice A0_0 l0_0.length c0_0) := (blk_cell BK3.out 0).trans rfl; have hfzb1_0 := blk_frozen BK3.out 0; have hczb1_1 : w87.cell? ⟨gb2, 1, none⟩ = some (.int .i64 a0_1) := (blk_cell BK3.out 1).trans rfl; have hfzb1_1 := blk_frozen BK3.out 1
  have hczb36_0 : w87.cell? ⟨gb37, 0, none⟩ = some (.int .i64 t21) := (blk_cell BK38.out 0).trans rfl; have hfzb36_0 := blk_frozen BK38.out 0; have hczb36_1 : w87.cell? ⟨gb37, 1, none⟩ = some (.int .i64 t22) := (blk_cell BK38.out 1).trans rfl; have hfzb36_1 := blk_frozen BK38.out 1; have hczb36_2 : w87.cell? ⟨gb37, 2, none⟩ = some (.slice A34 t23.length c35) := (blk_cell BK38.out 2).trans rfl; have hfzb36_2 := blk_frozen BK38.out 2; have hczb36_3 : w87.cell? ⟨gb37, 3, none⟩ = some (.int .i64 t24) := (blk_cell BK38.out 3).trans rfl; have hfzb36_3 := blk_frozen BK38.out 3; have hczb36_4 : w87.cell? ⟨gb37, 4, none⟩ = some (.int .i64 t25) := (blk_cell BK38.out 4).trans rfl; have hfzb36_4 := blk_frozen BK38.out 4; have hczb36_5 : w87.cell? ⟨gb37, 5, none⟩ = some (.int .i64 t26) := (blk_cell BK38.out 5).trans rfl; have hfzb36_5 := blk_frozen BK38.out 5
  have hczb54_0 : w87.cell? ⟨gb55, 0, none⟩ = some (.slice A52 t44.length c53) := (blk_cell BK56.out 0).trans rfl; have hfzb54_0 := blk_frozen BK56.out 0; have hczb54_1 : w87.cell? ⟨gb55, 1, none⟩ = some (.int .i64 t45) := (blk_cell BK56.out 1).trans rfl; have hfzb54_1 := blk_frozen BK56.out 1
  have hczb77_0 : w87.cell? ⟨gb78, 0, none⟩ = some (.int .i64 t62) := (blk_cell BK79.out 0).trans rfl; have hfzb77_0 := blk_frozen BK79.out 0; have hczb77_1 : w87.cell? ⟨gb78, 1, none⟩ = some (.int .i64 t63) := (blk_cell BK79.out 1).trans rfl; have hfzb77_1 := blk_frozen BK79.out 1; have hczb77_2 : w87.cell? ⟨gb78, 2, none⟩ = some (.slice A75 t64.length c76) := (blk_cell BK79.out 2).trans rfl; have hfzb77_2 := blk_frozen BK79.out 2; have hczb77_3 : w87.cell? ⟨gb78, 3, none⟩ = some (.int .i64 t65) := (blk_cell BK79.out 3).trans rfl; have hfzb77_3 := blk_frozen BK79.out 3; have hczb77_4 : w87.cell? ⟨gb78, 4, none⟩ = some (.int .i64 t66) := (blk_cell BK79.out 4).trans rfl; have hfzb77_4 := blk_frozen BK79.out 4; have hczb77_5 : w87.cell? ⟨gb78, 5, none⟩ = some (.int .i64 t67) := (blk_cell BK79.out 5).trans rfl; have hfzb77_5 := blk_frozen BK79.out 5
  clear hb
  go_wp2_with fail
  have hb : Below w87.heap.size w87 w87.drew := below_drew (Below.refl _ _)
  obtain ⟨w89, hw_⟩ : ∃ w89, w87.drew = w89 := ⟨_, rfl⟩
  rw [hw_] at hb
  have hq_ : Below w87.heap.size w87 w89 := ⟨hb.os, hb.tape, hb.output, hb.size, hb.block⟩
  have HZ90 := Aside0.mk (show w87.heap.size ≤ w89.heap.size from hq_.size)
  have hn_ := Aside0.mk (below_then HB.out HB.out.size hq_)
  clear HB
  have HB := hn_
  clear hn_
  have hn_ := Aside0.mk (Kd.S_below F18.out hq_)
  clear F18
  have F18 := hn_
  clear hn_
  have hn_ := Aside0.mk (Kd.R_below F33.out hq_)
  clear F33
  have F33 := hn_
  clear hn_
  have hn_ := Aside0.mk (Kd.S_below F51.out hq_)
  clear F51
  have F51 := hn_
  clear hn_
  have hn_ := Aside0.mk (Kd.R_below F74.out hq_)
  clear F74
  have F74 := hn_
  clear hn_
  have hn_ := Aside0.mk (blk_below BK3.out hq_)
  clear hczb1_0 hfzb1_0; clear hczb1_1 hfzb1_1
  clear BK3
  have BK3 := hn_
  clear hn_
  have hn_ := Aside0.mk (blk_below BK38.out hq_)
  clear hczb36_0 hfzb36_0; clear hczb36_1 hfzb36_1; clear hczb36_2 hfzb36_2; clear hczb36_3 hfzb36_3; clear hczb36_4 hfzb36_4; clear hczb36_5 hfzb36_5
  clear BK38
  have BK38 := hn_
  clear hn_
  have hn_ := Aside0.mk (blk_below BK56.out hq_)
  clear hczb54_0 hfzb54_0; clear hczb54_1 hfzb54_1
  clear BK56
  have BK56 := hn_
  clear hn_
  have hn_ := Aside0.mk (blk_below BK79.out hq_)
  clear hczb77_0 hfzb77_0; clear hczb77_1 hfzb77_1; clear hczb77_2 hfzb77_2; clear hczb77_3 hfzb77_3; clear hczb77_4 hfzb77_4; clear hczb77_5 hfzb77_5
  clear BK79
  have BK79 := hn_
  clear hn_
  clear hq_
  have hczb1_0 : w89.cell? ⟨gb2, 0, none⟩ = some (.slice A0_0 l0_0.length c0_0) := (blk_cell BK3.out 0).trans rfl; have hfzb1_0 := blk_frozen BK3.out 0; have hczb1_1 : w89.cell? ⟨gb2, 1, none⟩ = some (.int .i64 a0_1) := (blk_cell BK3.out 1).trans rfl; have hfzb1_1 := blk_frozen BK3.out 1
  have hczb36_0 : w89.cell? ⟨gb37, 0, none⟩ = some (.int .i64 t21) := (blk_cell BK38.out 0).trans rfl; have hfzb36_0 := blk_frozen BK38.out 0; have hczb36_1 : w89.cell? ⟨gb37, 1, none⟩ = some (.int .i64 t22) := (blk_cell BK38.out 1).trans rfl; have hfzb36_1 := blk_frozen BK38.out 1; have hczb36_2 : w89.cell? ⟨gb37, 2, none⟩ = some (.slice A34 t23.length c35) := (blk_cell BK38.out 2).trans rfl; have hfzb36_2 := blk_frozen BK38.out 2; have hczb36_3 : w89.cell? ⟨gb37, 3, none⟩ = some (.int .i64 t24) := (blk_cell BK38.out 3).trans rfl; have hfzb36_3 := blk_frozen BK38.out 3; have hczb36_4 : w89.cell? ⟨gb37, 4, none⟩ = some (.int .i64 t25) := (blk_cell BK38.out 4).trans rfl; have hfzb36_4 := blk_frozen BK38.out 4; have hczb36_5 : w89.cell? ⟨gb37, 5, none⟩ = some (.int .i64 t26) := (blk_cell BK38.out 5).trans rfl; have hfzb36_5 := blk_frozen BK38.out 5
  have hczb54_0 : w89.cell? ⟨gb55, 0, none⟩ = some (.slice A52 t44.length c53) := (blk_cell BK56.out 0).trans rfl; have hfzb54_0 := blk_frozen BK56.out 0; have hczb54_1 : w89.cell? ⟨gb55, 1, none⟩ = some (.int .i64 t45) := (blk_cell BK56.out 1).trans rfl; have hfzb54_1 := blk_frozen BK56.out 1
  have hczb77_0 : w89.cell? ⟨gb78, 0, none⟩ = some (.int .i64 t62) := (blk_cell BK79.out 0).trans rfl; have hfzb77_0 := blk_frozen BK79.out 0; have hczb77_1 : w89.cell? ⟨gb78, 1, none⟩ = some (.int .i64 t63) := (blk_cell BK79.out 1).trans rfl; have hfzb77_1 := blk_frozen BK79.out 1; have hczb77_2 : w89.cell? ⟨gb78, 2, none⟩ = some (.slice A75 t64.length c76) := (blk_cell BK79.out 2).trans rfl; have hfzb77_2 := blk_frozen BK79.out 2; have hczb77_3 : w89.cell? ⟨gb78, 3, none⟩ = some (.int .i64 t65) := (blk_cell BK79.out 3).trans rfl; have hfzb77_3 := blk_frozen BK79.out 3; have hczb77_4 : w89.cell? ⟨gb78, 4, none⟩ = some (.int .i64 t66) := (blk_cell BK79.out 4).trans rfl; have hfzb77_4 := blk_frozen BK79.out 4; have hczb77_5 : w89.cell? ⟨gb78, 5, none⟩ = some (.int .i64 t67) := (blk_cell BK79.out 5).trans rfl; have hfzb77_5 := blk_frozen BK79.out 5
  refine start_ (n := 5) (S := fun w' => w'.cell? ⟨gb55, 0, none⟩ = some (.slice A52 t44.length c53) ∧ w'.cell? ⟨gb55, 1, none⟩ = some (.int .i64 t45) ∧ w'.cell? ⟨gb2, 0, none⟩ = some (.slice A0_0 l0_0.length c0_0) ∧ w'.cell? ⟨gb2, 1, none⟩ = some (.int .i64 a0_1)) (ds := []) #[false, false, false, false, false] (by kernel_rfl) rfl rfl (by rw [hw_]; exact ⟨(blk_cell BK56.out 0).trans rfl, (blk_cell BK56.out 1).trans rfl, (blk_cell BK3.out 0).trans rfl, (blk_cell BK3.out 1).trans rfl⟩) (fun hHeld => ?_)
  rw [hw_] at hHeld ⊢
  clear hw_ hb
  refine take_ (i := 0) (N := some 45) (v := ?_) (a' := ?_) #[true, false, false, false, false] rfl rfl (by kernel_rfl) (fun _ _ _ h => h) (Or.inl ⟨by rfl, ?_⟩) hHeld ?_ ?_
  rotate_left
  · rintro w' ⟨s0, s1, s2, s3⟩
    go_simp
    with_reducible rfl
  rotate_left
  · simp only [Act.put, List.setIfInBounds_toArray, List.set_cons_zero, List.set_cons_succ, i64_w, i32_w]
    rfl
  refine take_ (i := 1) (N := some 46) (v := ?_) (a' := ?_) #[true, true, false, false, false] rfl rfl (by kernel_rfl) (fun _ _ _ h => h) (Or.inl ⟨by rfl, ?_⟩) hHeld ?_ ?_
  rotate_left
  · rintro w' ⟨s0, s1, s2, s3⟩
    go_simp
    with_reducible rfl
  rotate_left
  · simp only [Act.put, List.setIfInBounds_toArray, List.set_cons_zero, List.set_cons_succ, i64_w, i32_w]
    rfl
  refine one_ (i := 2) (N := some 47) #[true, true, true, false, false] rfl rfl (by kernel_rfl) (by decide) (fun K hK => ?_)
  refine goes_ Try.func15 (by kernel_rfl) rfl #[.agg #[.slice A0_0 l0_0.length c0_0, .int .i64 a0_1]] (by rfl) rfl rfl (by (try simp only [List.map_toArray, List.map_cons, List.map_nil]); first | done | rfl | (simp only [List.length_drop, List.length_take]; rfl)) ?_
  refine (laws_toWorld.calls k _ _ l0_0 a0_1 t91 t92 _ (Kd.C_below HR0_0.out HB.out) HC0_0.out H93.out).mono ?_
  rintro e_ w94 ⟨v95, rfl, f96, hb⟩
  have hq_ : Below w89.heap.size w89 w94 := ⟨hb.os, hb.tape, hb.output, hb.size, hb.block⟩
  have HZ97 := Aside0.mk (show w89.heap.size ≤ w94.heap.size from hq_.size)
  have hn_ := Aside0.mk (below_then HB.out HB.out.size hq_)
  clear HB
  have HB := hn_
  clear hn_
  have hn_ := Aside0.mk (Kd.S_below F18.out hq_)
  clear F18
  have F18 := hn_
  clear hn_
  have hn_ := Aside0.mk (Kd.R_below F33.out hq_)
  clear F33
  have F33 := hn_
  clear hn_
  have hn_ := Aside0.mk (Kd.S_below F51.out hq_)
  clear F51
  have F51 := hn_
  clear hn_
  have hn_ := Aside0.mk (Kd.R_below F74.out hq_)
  clear F74
  have F74 := hn_
  clear hn_
  have hn_ := Aside0.mk (blk_below BK3.out hq_)
  clear hczb1_0 hfzb1_0; clear hczb1_1 hfzb1_1
  clear BK3
  have BK3 := hn_
  clear hn_
  have hn_ := Aside0.mk (blk_below BK38.out hq_)
  clear hczb36_0 hfzb36_0; clear hczb36_1 hfzb36_1; clear hczb36_2 hfzb36_2; clear hczb36_3 hfzb36_3; clear hczb36_4 hfzb36_4; clear hczb36_5 hfzb36_5
  clear BK38
  have BK38 := hn_
  clear hn_
  have hn_ := Aside0.mk (blk_below BK56.out hq_)
  clear hczb54_0 hfzb54_0; clear hczb54_1 hfzb54_1
  clear BK56
  have BK56 := hn_
  clear hn_
  have hn_ := Aside0.mk (blk_below BK79.out hq_)
  clear hczb77_0 hfzb77_0; clear hczb77_1 hfzb77_1; clear hczb77_2 hfzb77_2; clear hczb77_3 hfzb77_3; clear hczb77_4 hfzb77_4; clear hczb77_5 hfzb77_5
  clear BK79
  have BK79 := hn_
  clear hn_
  clear hq_
  have hczb1_0 : w94.cell? ⟨gb2, 0, none⟩ = some (.slice A0_0 l0_0.length c0_0) := (blk_cell BK3.out 0).trans rfl; have hfzb1_0 := blk_frozen BK3.out 0; have hczb1_1 : w94.cell? ⟨gb2, 1, none⟩ = some (.int .i64 a0_1) := (blk_cell BK3.out 1).trans rfl; have hfzb1_1 := blk_frozen BK3.out 1
  have hczb36_0 : w94.cell? ⟨gb37, 0, none⟩ = some (.int .i64 t21) := (blk_cell BK38.out 0).trans rfl; have hfzb36_0 := blk_frozen BK38.out 0; have hczb36_1 : w94.cell? ⟨gb37, 1, none⟩ = some (.int .i64 t22) := (blk_cell BK38.out 1).trans rfl; have hfzb36_1 := blk_frozen BK38.out 1; have hczb36_2 : w94.cell? ⟨gb37, 2, none⟩ = some (.slice A34 t23.length c35) := (blk_cell BK38.out 2).trans rfl; have hfzb36_2 := blk_frozen BK38.out 2; have hczb36_3 : w94.cell? ⟨gb37, 3, none⟩ = some (.int .i64 t24) := (blk_cell BK38.out 3).trans rfl; have hfzb36_3 := blk_frozen BK38.out 3; have hczb36_4 : w94.cell? ⟨gb37, 4, none⟩ = some (.int .i64 t25) := (blk_cell BK38.out 4).trans rfl; have hfzb36_4 := blk_frozen BK38.out 4; have hczb36_5 : w94.cell? ⟨gb37, 5, none⟩ = some (.int .i64 t26) := (blk_cell BK38.out 5).trans rfl; have hfzb36_5 := blk_frozen BK38.out 5
  have hczb54_0 : w94.cell? ⟨gb55, 0, none⟩ = some (.slice A52 t44.length c53) := (blk_cell BK56.out 0).trans rfl; have hfzb54_0 := blk_frozen BK56.out 0; have hczb54_1 : w94.cell? ⟨gb55, 1, none⟩ = some (.int .i64 t45) := (blk_cell BK56.out 1).trans rfl; have hfzb54_1 := blk_frozen BK56.out 1
  have hczb77_0 : w94.cell? ⟨gb78, 0, none⟩ = some (.int .i64 t62) := (blk_cell BK79.out 0).trans rfl; have hfzb77_0 := blk_frozen BK79.out 0; have hczb77_1 : w94.cell? ⟨gb78, 1, none⟩ = some (.int .i64 t63) := (blk_cell BK79.out 1).trans rfl; have hfzb77_1 := blk_frozen BK79.out 1; have hczb77_2 : w94.cell? ⟨gb78, 2, none⟩ = some (.slice A75 t64.length c76) := (blk_cell BK79.out 2).trans rfl; have hfzb77_2 := blk_frozen BK79.out 2; have hczb77_3 : w94.cell? ⟨gb78, 3, none⟩ = some (.int .i64 t65) := (blk_cell BK79.out 3).trans rfl; have hfzb77_3 := blk_frozen BK79.out 3; have hczb77_4 : w94.cell? ⟨gb78, 4, none⟩ = some (.int .i64 t66) := (blk_cell BK79.out 4).trans rfl; have hfzb77_4 := blk_frozen BK79.out 4; have hczb77_5 : w94.cell? ⟨gb78, 5, none⟩ = some (.int .i64 t67) := (blk_cell BK79.out 5).trans rfl; have hfzb77_5 := blk_frozen BK79.out 5
  clear hb
  refine ⟨_, rfl, ?_⟩
  have F98 := Aside0.mk (Lk.newS (b := w89.heap.size) (base := w.heap.size) (Sep := fun k_ => True) f96 (by have := HZ6.out; have := HZ10.out; have := HZ17.out; have := HZ32.out; have := HZ41.out; have := HZ43.out; have := HZ50.out; have := HZ59.out; have := HZ61.out; have := HZ73.out; have := HZ82.out; have := HZ84.out; have := HZ88.out; have := HZ90.out; have := HZ97.out; omega) (fun k_ hk_ => hk_))
  clear f96
  obtain ⟨A99, c100, e_⟩ := Kd.S_slice F98.out
  subst e_
  refine hK.out _ _ ⟨(blk_cell BK56.out 0).trans rfl, (blk_cell BK56.out 1).trans rfl, (blk_cell BK3.out 0).trans rfl, (blk_cell BK3.out 1).trans rfl⟩ (fun hHeld => ?_)
  clear hK K
  refine norm_ (a' := ?_) ?_ ?_
  rotate_left
  · show Act.put _ (some 47) _ = _
    simp only [Act.put, List.setIfInBounds_toArray, List.set_cons_zero, List.set_cons_succ, i64_w, i32_w]
    rfl
  refine one_ (i := 3) (N := some 48) #[true, true, true, true, false] rfl rfl (by kernel_rfl) (by decide) (fun K hK => ?_)
  refine goes_ Try.func17 (by kernel_rfl) rfl #[.agg #[.slice A52 t44.length c53, .int .i64 t45], .agg #[.slice A99 t91.length c100, .int .i64 t92]] (by rfl) rfl rfl (by (try simp only [List.map_toArray, List.map_cons, List.map_nil]); first | done | rfl | (simp only [List.length_drop, List.length_take]; rfl)) ?_
  refine (laws_eqWorld.calls k _ _ t44 t45 _ _ t91 t92 true _ (Lk.Sr F51.out).2 (Lk.Sr F51.out).1 (Lk.Sr F98.out).2 (Lk.Sr F98.out).1 H102.out).mono ?_
  rintro e_ w103 ⟨rfl, hb⟩
  have hq_ : Below w94.heap.size w94 w103 := ⟨hb.os, hb.tape, hb.output, hb.size, hb.block⟩
  have HZ104 := Aside0.mk (show w94.heap.size ≤ w103.heap.size from hq_.size)
  have hn_ := Aside0.mk (below_then HB.out HB.out.size hq_)
  clear HB
  have HB := hn_
  clear hn_
  have hn_ := Aside0.mk (Kd.S_below F18.out hq_)
  clear F18
  have F18 := hn_
  clear hn_
  have hn_ := Aside0.mk (Kd.R_below F33.out hq_)
  clear F33
  have F33 := hn_
  clear hn_
  have hn_ := Aside0.mk (Kd.S_below F51.out hq_)
  clear F51
  have F51 := hn_
  clear hn_
  have hn_ := Aside0.mk (Kd.R_below F74.out hq_)
  clear F74
  have F74 := hn_
  clear hn_
  have hn_ := Aside0.mk (Kd.S_below F98.out hq_)
  clear F98
  have F98 := hn_
  clear hn_
  have hn_ := Aside0.mk (blk_below BK3.out hq_)
  clear hczb1_0 hfzb1_0; clear hczb1_1 hfzb1_1
  clear BK3
  have BK3 := hn_
  clear hn_
  have hn_ := Aside0.mk (blk_below BK38.out hq_)
  clear hczb36_0 hfzb36_0; clear hczb36_1 hfzb36_1; clear hczb36_2 hfzb36_2; clear hczb36_3 hfzb36_3; clear hczb36_4 hfzb36_4; clear hczb36_5 hfzb36_5
  clear BK38
  have BK38 := hn_
  clear hn_
  have hn_ := Aside0.mk (blk_below BK56.out hq_)
  clear hczb54_0 hfzb54_0; clear hczb54_1 hfzb54_1
  clear BK56
  have BK56 := hn_
  clear hn_
  have hn_ := Aside0.mk (blk_below BK79.out hq_)
  clear hczb77_0 hfzb77_0; clear hczb77_1 hfzb77_1; clear hczb77_2 hfzb77_2; clear hczb77_3 hfzb77_3; clear hczb77_4 hfzb77_4; clear hczb77_5 hfzb77_5
  clear BK79
  have BK79 := hn_
  clear hn_
  clear hq_
  have hczb1_0 : w103.cell? ⟨gb2, 0, none⟩ = some (.slice A0_0 l0_0.length c0_0) := (blk_cell BK3.out 0).trans rfl; have hfzb1_0 := blk_frozen BK3.out 0; have hczb1_1 : w103.cell? ⟨gb2, 1, none⟩ = some (.int .i64 a0_1) := (blk_cell BK3.out 1).trans rfl; have hfzb1_1 := blk_frozen BK3.out 1
  have hczb36_0 : w103.cell? ⟨gb37, 0, none⟩ = some (.int .i64 t21) := (blk_cell BK38.out 0).trans rfl; have hfzb36_0 := blk_frozen BK38.out 0; have hczb36_1 : w103.cell? ⟨gb37, 1, none⟩ = some (.int .i64 t22) := (blk_cell BK38.out 1).trans rfl; have hfzb36_1 := blk_frozen BK38.out 1; have hczb36_2 : w103.cell? ⟨gb37, 2, none⟩ = some (.slice A34 t23.length c35) := (blk_cell BK38.out 2).trans rfl; have hfzb36_2 := blk_frozen BK38.out 2; have hczb36_3 : w103.cell? ⟨gb37, 3, none⟩ = some (.int .i64 t24) := (blk_cell BK38.out 3).trans rfl; have hfzb36_3 := blk_frozen BK38.out 3; have hczb36_4 : w103.cell? ⟨gb37, 4, none⟩ = some (.int .i64 t25) := (blk_cell BK38.out 4).trans rfl; have hfzb36_4 := blk_frozen BK38.out 4; have hczb36_5 : w103.cell? ⟨gb37, 5, none⟩ = some (.int .i64 t26) := (blk_cell BK38.out 5).trans rfl; have hfzb36_5 := blk_frozen BK38.out 5
  have hczb54_0 : w103.cell? ⟨gb55, 0, none⟩ = some (.slice A52 t44.length c53) := (blk_cell BK56.out 0).trans rfl; have hfzb54_0 := blk_frozen BK56.out 0; have hczb54_1 : w103.cell? ⟨gb55, 1, none⟩ = some (.int .i64 t45) := (blk_cell BK56.out 1).trans rfl; have hfzb54_1 := blk_frozen BK56.out 1
  have hczb77_0 : w103.cell? ⟨gb78, 0, none⟩ = some (.int .i64 t62) := (blk_cell BK79.out 0).trans rfl; have hfzb77_0 := blk_frozen BK79.out 0; have hczb77_1 : w103.cell? ⟨gb78, 1, none⟩ = some (.int .i64 t63) := (blk_cell BK79.out 1).trans rfl; have hfzb77_1 := blk_frozen BK79.out 1; have hczb77_2 : w103.cell? ⟨gb78, 2, none⟩ = some (.slice A75 t64.length c76) := (blk_cell BK79.out 2).trans rfl; have hfzb77_2 := blk_frozen BK79.out 2; have hczb77_3 : w103.cell? ⟨gb78, 3, none⟩ = some (.int .i64 t65) := (blk_cell BK79.out 3).trans rfl; have hfzb77_3 := blk_frozen BK79.out 3; have hczb77_4 : w103.cell? ⟨gb78, 4, none⟩ = some (.int .i64 t66) := (blk_cell BK79.out 4).trans rfl; have hfzb77_4 := blk_frozen BK79.out 4; have hczb77_5 : w103.cell? ⟨gb78, 5, none⟩ = some (.int .i64 t67) := (blk_cell BK79.out 5).trans rfl; have hfzb77_5 := blk_frozen BK79.out 5
  clear hb
  refine ⟨_, rfl, ?_⟩
  refine hK.out _ _ ⟨(blk_cell BK56.out 0).trans rfl, (blk_cell BK56.out 1).trans rfl, (blk_cell BK3.out 0).trans rfl, (blk_cell BK3.out 1).trans rfl⟩ (fun hHeld => ?_)
  clear hK K
  refine norm_ (a' := ?_) ?_ ?_
  rotate_left
  · show Act.put _ (some 48) _ = _
    simp only [Act.put, List.setIfInBounds_toArray, List.set_cons_zero, List.set_cons_succ, i64_w, i32_w]
    rfl
  refine pure_ (i := 4) (N := some 49) (v := ?_) (a' := ?_) #[true, true, true, true, true] rfl rfl (by kernel_rfl) (fun _ _ _ h => h) (Or.inl ⟨by rfl, ?_⟩) ?_ ?_
  rotate_left
  · intro w'
    go_simp
    with_reducible rfl
  rotate_left
  · simp only [Act.put, List.setIfInBounds_toArray, List.set_cons_zero, List.set_cons_succ, i64_w, i32_w]
    rfl
  refine done_ (by kernel_rfl) ?_
  go_wp2_with fail
  have hn_ := H106.out
  refine (laws_markWorld.calls (fun k_ => (w42.heap.size ≤ k_ ∧ k_ < w47.heap.size) ∧ (True)) _ t44 t45 1 w _ HB.out F51.out (by omega) hn_).mono ?_
  rintro e_ w105 ⟨rfl, f0_, hb0_, hk_⟩
  have hk2_ : Kept w103 w105 (fun k_ => w42.heap.size ≤ k_ ∧ k_ < w47.heap.size) := Kept.mono hk_ (fun k_ h_ => by first | exact h_ | exact h_.1)
  have HZ107 := Aside0.mk (show w103.heap.size ≤ w105.heap.size from hk2_.1)
  clear HB
  have HB := Aside0.mk hb0_
  have hn_ := Aside0.mk (Kd.S_kept F18.out hk2_ (fun k_ h1_ h2_ => by have := HZ6.out; have := HZ10.out; have := HZ17.out; have := HZ32.out; have := HZ41.out; have := HZ43.out; have := HZ50.out; have := HZ59.out; have := HZ61.out; have := HZ73.out; have := HZ82.out; have := HZ84.out; have := HZ88.out; have := HZ90.out; have := HZ97.out; have := HZ104.out; have h3_ := h1_.1; omega))
  clear F18
  have F18 := hn_
  clear hn_
  have hn_ := Aside0.mk (Kd.R_kept F33.out hk2_ (fun k_ h1_ h2_ => by have := HZ6.out; have := HZ10.out; have := HZ17.out; have := HZ32.out; have := HZ41.out; have := HZ43.out; have := HZ50.out; have := HZ59.out; have := HZ61.out; have := HZ73.out; have := HZ82.out; have := HZ84.out; have := HZ88.out; have := HZ90.out; have := HZ97.out; have := HZ104.out; have h3_ := h1_.1; omega))
  clear F33
  have F33 := hn_
  clear hn_
  have hn_ := Aside0.mk (Kd.R_kept F74.out hk2_ (fun k_ h1_ h2_ => by have := HZ6.out; have := HZ10.out; have := HZ17.out; have := HZ32.out; have := HZ41.out; have := HZ43.out; have := HZ50.out; have := HZ59.out; have := HZ61.out; have := HZ73.out; have := HZ82.out; have := HZ84.out; have := HZ88.out; have := HZ90.out; have := HZ97.out; have := HZ104.out; have h3_ := h1_.1; omega))
  clear F74
  have F74 := hn_
  clear hn_
  have hn_ := Aside0.mk (Kd.S_kept F98.out hk2_ (fun k_ h1_ h2_ => by have := HZ6.out; have := HZ10.out; have := HZ17.out; have := HZ32.out; have := HZ41.out; have := HZ43.out; have := HZ50.out; have := HZ59.out; have := HZ61.out; have := HZ73.out; have := HZ82.out; have := HZ84.out; have := HZ88.out; have := HZ90.out; have := HZ97.out; have := HZ104.out; have h3_ := h1_.1; omega))
  clear F98
  have F98 := hn_
  clear hn_
  have hn_ := Aside0.mk (f0_)
  have F51n := hn_
  clear hn_
  clear F51
  have F51 := F51n
  clear F51n
  have hn_ := Aside0.mk (blk_kept BK3.out hk2_ (fun h_ => by have := HZ6.out; have := HZ10.out; have := HZ17.out; have := HZ32.out; have := HZ41.out; have := HZ43.out; have := HZ50.out; have := HZ59.out; have := HZ61.out; have := HZ73.out; have := HZ82.out; have := HZ84.out; have := HZ88.out; have := HZ90.out; have := HZ97.out; have := HZ104.out; have := GQ4.out; omega))
  clear hczb1_0 hfzb1_0; clear hczb1_1 hfzb1_1
  clear BK3
  have BK3 := hn_
  clear hn_
  have hn_ := Aside0.mk (blk_kept BK38.out hk2_ (fun h_ => by have := HZ6.out; have := HZ10.out; have := HZ17.out; have := HZ32.out; have := HZ41.out; have := HZ43.out; have := HZ50.out; have := HZ59.out; have := HZ61.out; have := HZ73.out; have := HZ82.out; have := HZ84.out; have := HZ88.out; have := HZ90.out; have := HZ97.out; have := HZ104.out; have := GQ39.out; omega))
  clear hczb36_0 hfzb36_0; clear hczb36_1 hfzb36_1; clear hczb36_2 hfzb36_2; clear hczb36_3 hfzb36_3; clear hczb36_4 hfzb36_4; clear hczb36_5 hfzb36_5
  clear BK38
  have BK38 := hn_
  clear hn_
  have hn_ := Aside0.mk (blk_kept BK56.out hk2_ (fun h_ => by have := HZ6.out; have := HZ10.out; have := HZ17.out; have := HZ32.out; have := HZ41.out; have := HZ43.out; have := HZ50.out; have := HZ59.out; have := HZ61.out; have := HZ73.out; have := HZ82.out; have := HZ84.out; have := HZ88.out; have := HZ90.out; have := HZ97.out; have := HZ104.out; have := GQ57.out; omega))
  clear hczb54_0 hfzb54_0; clear hczb54_1 hfzb54_1
  clear BK56
  have BK56 := hn_
  clear hn_
  have hn_ := Aside0.mk (blk_kept BK79.out hk2_ (fun h_ => by have := HZ6.out; have := HZ10.out; have := HZ17.out; have := HZ32.out; have := HZ41.out; have := HZ43.out; have := HZ50.out; have := HZ59.out; have := HZ61.out; have := HZ73.out; have := HZ82.out; have := HZ84.out; have := HZ88.out; have := HZ90.out; have := HZ97.out; have := HZ104.out; have := GQ80.out; omega))
  clear hczb77_0 hfzb77_0; clear hczb77_1 hfzb77_1; clear hczb77_2 hfzb77_2; clear hczb77_3 hfzb77_3; clear hczb77_4 hfzb77_4; clear hczb77_5 hfzb77_5
  clear BK79
  have BK79 := hn_
  clear hn_
  clear hk2_ hk_ hb0_ f0_
  have hczb1_0 : w105.cell? ⟨gb2, 0, none⟩ = some (.slice A0_0 l0_0.length c0_0) := (blk_cell BK3.out 0).trans rfl; have hfzb1_0 := blk_frozen BK3.out 0; have hczb1_1 : w105.cell? ⟨gb2, 1, none⟩ = some (.int .i64 a0_1) := (blk_cell BK3.out 1).trans rfl; have hfzb1_1 := blk_frozen BK3.out 1
  have hczb36_0 : w105.cell? ⟨gb37, 0, none⟩ = some (.int .i64 t21) := (blk_cell BK38.out 0).trans rfl; have hfzb36_0 := blk_frozen BK38.out 0; have hczb36_1 : w105.cell? ⟨gb37, 1, none⟩ = some (.int .i64 t22) := (blk_cell BK38.out 1).trans rfl; have hfzb36_1 := blk_frozen BK38.out 1; have hczb36_2 : w105.cell? ⟨gb37, 2, none⟩ = some (.slice A34 t23.length c35) := (blk_cell BK38.out 2).trans rfl; have hfzb36_2 := blk_frozen BK38.out 2; have hczb36_3 : w105.cell? ⟨gb37, 3, none⟩ = some (.int .i64 t24) := (blk_cell BK38.out 3).trans rfl; have hfzb36_3 := blk_frozen BK38.out 3; have hczb36_4 : w105.cell? ⟨gb37, 4, none⟩ = some (.int .i64 t25) := (blk_cell BK38.out 4).trans rfl; have hfzb36_4 := blk_frozen BK38.out 4; have hczb36_5 : w105.cell? ⟨gb37, 5, none⟩ = some (.int .i64 t26) := (blk_cell BK38.out 5).trans rfl; have hfzb36_5 := blk_frozen BK38.out 5
  have hczb54_0 : w105.cell? ⟨gb55, 0, none⟩ = some (.slice A52 t44.length c53) := (blk_cell BK56.out 0).trans rfl; have hfzb54_0 := blk_frozen BK56.out 0; have hczb54_1 : w105.cell? ⟨gb55, 1, none⟩ = some (.int .i64 t45) := (blk_cell BK56.out 1).trans rfl; have hfzb54_1 := blk_frozen BK56.out 1
  have hczb77_0 : w105.cell? ⟨gb78, 0, none⟩ = some (.int .i64 t62) := (blk_cell BK79.out 0).trans rfl; have hfzb77_0 := blk_frozen BK79.out 0; have hczb77_1 : w105.cell? ⟨gb78, 1, none⟩ = some (.int .i64 t63) := (blk_cell BK79.out 1).trans rfl; have hfzb77_1 := blk_frozen BK79.out 1; have hczb77_2 : w105.cell? ⟨gb78, 2, none⟩ = some (.slice A75 t64.length c76) := (blk_cell BK79.out 2).trans rfl; have hfzb77_2 := blk_frozen BK79.out 2; have hczb77_3 : w105.cell? ⟨gb78, 3, none⟩ = some (.int .i64 t65) := (blk_cell BK79.out 3).trans rfl; have hfzb77_3 := blk_frozen BK79.out 3; have hczb77_4 : w105.cell? ⟨gb78, 4, none⟩ = some (.int .i64 t66) := (blk_cell BK79.out 4).trans rfl; have hfzb77_4 := blk_frozen BK79.out 4; have hczb77_5 : w105.cell? ⟨gb78, 5, none⟩ = some (.int .i64 t67) := (blk_cell BK79.out 5).trans rfl; have hfzb77_5 := blk_frozen BK79.out 5
  have hl108 := (Kd.S_reads' F51.out).1
  have HL108 := Aside0.mk hl108
  clear hl108
  have hn1_ : decide ((1 + (markClassS_cnt t44 : Nat) : Int) < 0) = false := decide_eq_false (by omega)
  have hd109 := hn1_
  clear hn1_
  go_wp2_with fail
  refine (laws_eqCache.calls k t62 t63 _ _ t64 t65 t66 t67 t21 t22 _ _ t23 t24 t25 t26 true _ (Lk.Rr F74.out).2 (Lk.Rr F74.out).1 (Lk.Rr F33.out).2 (Lk.Rr F33.out).1 H111.out).mono ?_
  rintro e_ w112 ⟨rfl, hb⟩
  have hq_ : Below w105.heap.size w105 w112 := ⟨hb.os, hb.tape, hb.output, hb.size, hb.block⟩
  have HZ113 := Aside0.mk (show w105.heap.size ≤ w112.heap.size from hq_.size)
  have hn_ := Aside0.mk (below_then HB.out HB.out.size hq_)
  clear HB
  have HB := hn_
  clear hn_
  have hn_ := Aside0.mk (Kd.S_below F18.out hq_)
  clear F18
  have F18 := hn_
  clear hn_
  have hn_ := Aside0.mk (Kd.R_below F33.out hq_)
  clear F33
  have F33 := hn_
  clear hn_
  have hn_ := Aside0.mk (Kd.S_below F51.out hq_)
  clear F51
  have F51 := hn_
  clear hn_
  have hn_ := Aside0.mk (Kd.R_below F74.out hq_)
  clear F74
  have F74 := hn_
  clear hn_
  have hn_ := Aside0.mk (Kd.S_below F98.out hq_)
  clear F98
  have F98 := hn_
  clear hn_
  have hn_ := Aside0.mk (blk_below BK3.out hq_)
  clear hczb1_0 hfzb1_0; clear hczb1_1 hfzb1_1
  clear BK3
  have BK3 := hn_
  clear hn_
  have hn_ := Aside0.mk (blk_below BK38.out hq_)
  clear hczb36_0 hfzb36_0; clear hczb36_1 hfzb36_1; clear hczb36_2 hfzb36_2; clear hczb36_3 hfzb36_3; clear hczb36_4 hfzb36_4; clear hczb36_5 hfzb36_5
  clear BK38
  have BK38 := hn_
  clear hn_
  have hn_ := Aside0.mk (blk_below BK56.out hq_)
  clear hczb54_0 hfzb54_0; clear hczb54_1 hfzb54_1
  clear BK56
  have BK56 := hn_
  clear hn_
  have hn_ := Aside0.mk (blk_below BK79.out hq_)
  clear hczb77_0 hfzb77_0; clear hczb77_1 hfzb77_1; clear hczb77_2 hfzb77_2; clear hczb77_3 hfzb77_3; clear hczb77_4 hfzb77_4; clear hczb77_5 hfzb77_5
  clear BK79
  have BK79 := hn_
  clear hn_
  clear hq_
  have hczb1_0 : w112.cell? ⟨gb2, 0, none⟩ = some (.slice A0_0 l0_0.length c0_0) := (blk_cell BK3.out 0).trans rfl; have hfzb1_0 := blk_frozen BK3.out 0; have hczb1_1 : w112.cell? ⟨gb2, 1, none⟩ = some (.int .i64 a0_1) := (blk_cell BK3.out 1).trans rfl; have hfzb1_1 := blk_frozen BK3.out 1
  have hczb36_0 : w112.cell? ⟨gb37, 0, none⟩ = some (.int .i64 t21) := (blk_cell BK38.out 0).trans rfl; have hfzb36_0 := blk_frozen BK38.out 0; have hczb36_1 : w112.cell? ⟨gb37, 1, none⟩ = some (.int .i64 t22) := (blk_cell BK38.out 1).trans rfl; have hfzb36_1 := blk_frozen BK38.out 1; have hczb36_2 : w112.cell? ⟨gb37, 2, none⟩ = some (.slice A34 t23.length c35) := (blk_cell BK38.out 2).trans rfl; have hfzb36_2 := blk_frozen BK38.out 2; have hczb36_3 : w112.cell? ⟨gb37, 3, none⟩ = some (.int .i64 t24) := (blk_cell BK38.out 3).trans rfl; have hfzb36_3 := blk_frozen BK38.out 3; have hczb36_4 : w112.cell? ⟨gb37, 4, none⟩ = some (.int .i64 t25) := (blk_cell BK38.out 4).trans rfl; have hfzb36_4 := blk_frozen BK38.out 4; have hczb36_5 : w112.cell? ⟨gb37, 5, none⟩ = some (.int .i64 t26) := (blk_cell BK38.out 5).trans rfl; have hfzb36_5 := blk_frozen BK38.out 5
  have hczb54_0 : w112.cell? ⟨gb55, 0, none⟩ = some (.slice A52 t44.length c53) := (blk_cell BK56.out 0).trans rfl; have hfzb54_0 := blk_frozen BK56.out 0; have hczb54_1 : w112.cell? ⟨gb55, 1, none⟩ = some (.int .i64 t45) := (blk_cell BK56.out 1).trans rfl; have hfzb54_1 := blk_frozen BK56.out 1
  have hczb77_0 : w112.cell? ⟨gb78, 0, none⟩ = some (.int .i64 t62) := (blk_cell BK79.out 0).trans rfl; have hfzb77_0 := blk_frozen BK79.out 0; have hczb77_1 : w112.cell? ⟨gb78, 1, none⟩ = some (.int .i64 t63) := (blk_cell BK79.out 1).trans rfl; have hfzb77_1 := blk_frozen BK79.out 1; have hczb77_2 : w112.cell? ⟨gb78, 2, none⟩ = some (.slice A75 t64.length c76) := (blk_cell BK79.out 2).trans rfl; have hfzb77_2 := blk_frozen BK79.out 2; have hczb77_3 : w112.cell? ⟨gb78, 3, none⟩ = some (.int .i64 t65) := (blk_cell BK79.out 3).trans rfl; have hfzb77_3 := blk_frozen BK79.out 3; have hczb77_4 : w112.cell? ⟨gb78, 4, none⟩ = some (.int .i64 t66) := (blk_cell BK79.out 4).trans rfl; have hfzb77_4 := blk_frozen BK79.out 4; have hczb77_5 : w112.cell? ⟨gb78, 5, none⟩ = some (.int .i64 t67) := (blk_cell BK79.out 5).trans rfl; have hfzb77_5 := blk_frozen BK79.out 5
  clear hb
  go_wp2_with fail
  refine (laws_markCache.calls k t62 t63 (fun k_ => (w60.heap.size ≤ k_ ∧ k_ < w70.heap.size) ∧ some k_ = (.slice A75 t64.length c76 : Value).ownBlock ∧ (True)) _ t64 t65 t66 t67 1 t115 t116 w _ HB.out F74.out H117.out).mono ?_
  rintro e_ w114 ⟨rfl, f0_, hb0_, hk_⟩
  have hk2_ : Kept w112 w114 (fun k_ => w60.heap.size ≤ k_ ∧ k_ < w70.heap.size) := Kept.mono hk_ (fun k_ h_ => by first | exact h_ | exact h_.1)
  have HZ119 := Aside0.mk (show w112.heap.size ≤ w114.heap.size from hk2_.1)
  clear HB
  have HB := Aside0.mk hb0_
  have hn_ := Aside0.mk (Kd.S_kept F18.out hk2_ (fun k_ h1_ h2_ => by have := HZ6.out; have := HZ10.out; have := HZ17.out; have := HZ32.out; have := HZ41.out; have := HZ43.out; have := HZ50.out; have := HZ59.out; have := HZ61.out; have := HZ73.out; have := HZ82.out; have := HZ84.out; have := HZ88.out; have := HZ90.out; have := HZ97.out; have := HZ104.out; have := HZ107.out; have := HZ113.out; have h3_ := h1_.1; omega))
  clear F18
  have F18 := hn_
  clear hn_
  have hn_ := Aside0.mk (Kd.R_kept F33.out hk2_ (fun k_ h1_ h2_ => by have := HZ6.out; have := HZ10.out; have := HZ17.out; have := HZ32.out; have := HZ41.out; have := HZ43.out; have := HZ50.out; have := HZ59.out; have := HZ61.out; have := HZ73.out; have := HZ82.out; have := HZ84.out; have := HZ88.out; have := HZ90.out; have := HZ97.out; have := HZ104.out; have := HZ107.out; have := HZ113.out; have h3_ := h1_.1; omega))
  clear F33
  have F33 := hn_
  clear hn_
  have hn_ := Aside0.mk (Kd.S_kept F51.out hk2_ (fun k_ h1_ h2_ => by have := HZ6.out; have := HZ10.out; have := HZ17.out; have := HZ32.out; have := HZ41.out; have := HZ43.out; have := HZ50.out; have := HZ59.out; have := HZ61.out; have := HZ73.out; have := HZ82.out; have := HZ84.out; have := HZ88.out; have := HZ90.out; have := HZ97.out; have := HZ104.out; have := HZ107.out; have := HZ113.out; have h3_ := h1_.1; omega))
  clear F51
  have F51 := hn_
  clear hn_
  have hn_ := Aside0.mk (Kd.S_kept F98.out hk2_ (fun k_ h1_ h2_ => by have := HZ6.out; have := HZ10.out; have := HZ17.out; have := HZ32.out; have := HZ41.out; have := HZ43.out; have := HZ50.out; have := HZ59.out; have := HZ61.out; have := HZ73.out; have := HZ82.out; have := HZ84.out; have := HZ88.out; have := HZ90.out; have := HZ97.out; have := HZ104.out; have := HZ107.out; have := HZ113.out; have h3_ := h1_.1; omega))
  clear F98
  have F98 := hn_
  clear hn_
  have hn_ := Aside0.mk (Lk.markedR rfl f0_ (fun k_ e_ => (show (w60.heap.size ≤ k_ ∧ k_ < w70.heap.size) ∧ some k_ = (.slice A75 t64.length c76 : Value).ownBlock ∧ (True) from (F74.out.1 k_ e_.symm))))
  have F74n := hn_
  clear hn_
  clear F74
  have F74 := F74n
  clear F74n
  have hn_ := Aside0.mk (blk_kept BK3.out hk2_ (fun h_ => by have := HZ6.out; have := HZ10.out; have := HZ17.out; have := HZ32.out; have := HZ41.out; have := HZ43.out; have := HZ50.out; have := HZ59.out; have := HZ61.out; have := HZ73.out; have := HZ82.out; have := HZ84.out; have := HZ88.out; have := HZ90.out; have := HZ97.out; have := HZ104.out; have := HZ107.out; have := HZ113.out; have := GQ4.out; omega))
  clear hczb1_0 hfzb1_0; clear hczb1_1 hfzb1_1
  clear BK3
  have BK3 := hn_
  clear hn_
  have hn_ := Aside0.mk (blk_kept BK38.out hk2_ (fun h_ => by have := HZ6.out; have := HZ10.out; have := HZ17.out; have := HZ32.out; have := HZ41.out; have := HZ43.out; have := HZ50.out; have := HZ59.out; have := HZ61.out; have := HZ73.out; have := HZ82.out; have := HZ84.out; have := HZ88.out; have := HZ90.out; have := HZ97.out; have := HZ104.out; have := HZ107.out; have := HZ113.out; have := GQ39.out; omega))
  clear hczb36_0 hfzb36_0; clear hczb36_1 hfzb36_1; clear hczb36_2 hfzb36_2; clear hczb36_3 hfzb36_3; clear hczb36_4 hfzb36_4; clear hczb36_5 hfzb36_5
  clear BK38
  have BK38 := hn_
  clear hn_
  have hn_ := Aside0.mk (blk_kept BK56.out hk2_ (fun h_ => by have := HZ6.out; have := HZ10.out; have := HZ17.out; have := HZ32.out; have := HZ41.out; have := HZ43.out; have := HZ50.out; have := HZ59.out; have := HZ61.out; have := HZ73.out; have := HZ82.out; have := HZ84.out; have := HZ88.out; have := HZ90.out; have := HZ97.out; have := HZ104.out; have := HZ107.out; have := HZ113.out; have := GQ57.out; omega))
  clear hczb54_0 hfzb54_0; clear hczb54_1 hfzb54_1
  clear BK56
  have BK56 := hn_
  clear hn_
  have hn_ := Aside0.mk (blk_kept BK79.out hk2_ (fun h_ => by have := HZ6.out; have := HZ10.out; have := HZ17.out; have := HZ32.out; have := HZ41.out; have := HZ43.out; have := HZ50.out; have := HZ59.out; have := HZ61.out; have := HZ73.out; have := HZ82.out; have := HZ84.out; have := HZ88.out; have := HZ90.out; have := HZ97.out; have := HZ104.out; have := HZ107.out; have := HZ113.out; have := GQ80.out; omega))
  clear hczb77_0 hfzb77_0; clear hczb77_1 hfzb77_1; clear hczb77_2 hfzb77_2; clear hczb77_3 hfzb77_3; clear hczb77_4 hfzb77_4; clear hczb77_5 hfzb77_5
  clear BK79
  have BK79 := hn_
  clear hn_
  clear hk2_ hk_ hb0_ f0_
  have hczb1_0 : w114.cell? ⟨gb2, 0, none⟩ = some (.slice A0_0 l0_0.length c0_0) := (blk_cell BK3.out 0).trans rfl; have hfzb1_0 := blk_frozen BK3.out 0; have hczb1_1 : w114.cell? ⟨gb2, 1, none⟩ = some (.int .i64 a0_1) := (blk_cell BK3.out 1).trans rfl; have hfzb1_1 := blk_frozen BK3.out 1
  have hczb36_0 : w114.cell? ⟨gb37, 0, none⟩ = some (.int .i64 t21) := (blk_cell BK38.out 0).trans rfl; have hfzb36_0 := blk_frozen BK38.out 0; have hczb36_1 : w114.cell? ⟨gb37, 1, none⟩ = some (.int .i64 t22) := (blk_cell BK38.out 1).trans rfl; have hfzb36_1 := blk_frozen BK38.out 1; have hczb36_2 : w114.cell? ⟨gb37, 2, none⟩ = some (.slice A34 t23.length c35) := (blk_cell BK38.out 2).trans rfl; have hfzb36_2 := blk_frozen BK38.out 2; have hczb36_3 : w114.cell? ⟨gb37, 3, none⟩ = some (.int .i64 t24) := (blk_cell BK38.out 3).trans rfl; have hfzb36_3 := blk_frozen BK38.out 3; have hczb36_4 : w114.cell? ⟨gb37, 4, none⟩ = some (.int .i64 t25) := (blk_cell BK38.out 4).trans rfl; have hfzb36_4 := blk_frozen BK38.out 4; have hczb36_5 : w114.cell? ⟨gb37, 5, none⟩ = some (.int .i64 t26) := (blk_cell BK38.out 5).trans rfl; have hfzb36_5 := blk_frozen BK38.out 5
  have hczb54_0 : w114.cell? ⟨gb55, 0, none⟩ = some (.slice A52 t44.length c53) := (blk_cell BK56.out 0).trans rfl; have hfzb54_0 := blk_frozen BK56.out 0; have hczb54_1 : w114.cell? ⟨gb55, 1, none⟩ = some (.int .i64 t45) := (blk_cell BK56.out 1).trans rfl; have hfzb54_1 := blk_frozen BK56.out 1
  have hczb77_0 : w114.cell? ⟨gb78, 0, none⟩ = some (.int .i64 t62) := (blk_cell BK79.out 0).trans rfl; have hfzb77_0 := blk_frozen BK79.out 0; have hczb77_1 : w114.cell? ⟨gb78, 1, none⟩ = some (.int .i64 t63) := (blk_cell BK79.out 1).trans rfl; have hfzb77_1 := blk_frozen BK79.out 1; have hczb77_2 : w114.cell? ⟨gb78, 2, none⟩ = some (.slice A75 t64.length c76) := (blk_cell BK79.out 2).trans rfl; have hfzb77_2 := blk_frozen BK79.out 2; have hczb77_3 : w114.cell? ⟨gb78, 3, none⟩ = some (.int .i64 t65) := (blk_cell BK79.out 3).trans rfl; have hfzb77_3 := blk_frozen BK79.out 3; have hczb77_4 : w114.cell? ⟨gb78, 4, none⟩ = some (.int .i64 t66) := (blk_cell BK79.out 4).trans rfl; have hfzb77_4 := blk_frozen BK79.out 4; have hczb77_5 : w114.cell? ⟨gb78, 5, none⟩ = some (.int .i64 t67) := (blk_cell BK79.out 5).trans rfl; have hfzb77_5 := blk_frozen BK79.out 5
  have hl120 := (Kd.R_reads' F74.out).1
  have HL120 := Aside0.mk hl120
  clear hl120
  have hn1_ : decide (t115 < 0) = false := decide_eq_false (by have := H118.out; omega)
  have hd121 := hn1_
  clear hn1_
  go_wp2_with fail
  have hc_ := laws_heldCache.calls k t62 t63 _ _ t116 t65 t66 t67 1 t115 _ (Lk.Rr F74.out).2 (Lk.Rr F74.out).1 H123.out
  simp only [← HL120.out] at hc_
  refine hc_.mono ?_
  clear hc_
  rintro e_ w124 ⟨rfl, hb⟩
  have hq_ : Below w114.heap.size w114 w124 := ⟨hb.os, hb.tape, hb.output, hb.size, hb.block⟩
  have HZ125 := Aside0.mk (show w114.heap.size ≤ w124.heap.size from hq_.size)
  have hn_ := Aside0.mk (below_then HB.out HB.out.size hq_)
  clear HB
  have HB := hn_
  clear hn_
  have hn_ := Aside0.mk (Kd.S_below F18.out hq_)
  clear F18
  have F18 := hn_
  clear hn_
  have hn_ := Aside0.mk (Kd.R_below F33.out hq_)
  clear F33
  have F33 := hn_
  clear hn_
  have hn_ := Aside0.mk (Kd.S_below F51.out hq_)
  clear F51
  have F51 := hn_
  clear hn_
  have hn_ := Aside0.mk (Kd.R_below F74.out hq_)
  clear F74
  have F74 := hn_
  clear hn_
  have hn_ := Aside0.mk (Kd.S_below F98.out hq_)
  clear F98
  have F98 := hn_
  clear hn_
  have hn_ := Aside0.mk (blk_below BK3.out hq_)
  clear hczb1_0 hfzb1_0; clear hczb1_1 hfzb1_1
  clear BK3
  have BK3 := hn_
  clear hn_
  have hn_ := Aside0.mk (blk_below BK38.out hq_)
  clear hczb36_0 hfzb36_0; clear hczb36_1 hfzb36_1; clear hczb36_2 hfzb36_2; clear hczb36_3 hfzb36_3; clear hczb36_4 hfzb36_4; clear hczb36_5 hfzb36_5
  clear BK38
  have BK38 := hn_
  clear hn_
  have hn_ := Aside0.mk (blk_below BK56.out hq_)
  clear hczb54_0 hfzb54_0; clear hczb54_1 hfzb54_1
  clear BK56
  have BK56 := hn_
  clear hn_
  have hn_ := Aside0.mk (blk_below BK79.out hq_)
  clear hczb77_0 hfzb77_0; clear hczb77_1 hfzb77_1; clear hczb77_2 hfzb77_2; clear hczb77_3 hfzb77_3; clear hczb77_4 hfzb77_4; clear hczb77_5 hfzb77_5
  clear BK79
  have BK79 := hn_
  clear hn_
  clear hq_
  have hczb1_0 : w124.cell? ⟨gb2, 0, none⟩ = some (.slice A0_0 l0_0.length c0_0) := (blk_cell BK3.out 0).trans rfl; have hfzb1_0 := blk_frozen BK3.out 0; have hczb1_1 : w124.cell? ⟨gb2, 1, none⟩ = some (.int .i64 a0_1) := (blk_cell BK3.out 1).trans rfl; have hfzb1_1 := blk_frozen BK3.out 1
  have hczb36_0 : w124.cell? ⟨gb37, 0, none⟩ = some (.int .i64 t21) := (blk_cell BK38.out 0).trans rfl; have hfzb36_0 := blk_frozen BK38.out 0; have hczb36_1 : w124.cell? ⟨gb37, 1, none⟩ = some (.int .i64 t22) := (blk_cell BK38.out 1).trans rfl; have hfzb36_1 := blk_frozen BK38.out 1; have hczb36_2 : w124.cell? ⟨gb37, 2, none⟩ = some (.slice A34 t23.length c35) := (blk_cell BK38.out 2).trans rfl; have hfzb36_2 := blk_frozen BK38.out 2; have hczb36_3 : w124.cell? ⟨gb37, 3, none⟩ = some (.int .i64 t24) := (blk_cell BK38.out 3).trans rfl; have hfzb36_3 := blk_frozen BK38.out 3; have hczb36_4 : w124.cell? ⟨gb37, 4, none⟩ = some (.int .i64 t25) := (blk_cell BK38.out 4).trans rfl; have hfzb36_4 := blk_frozen BK38.out 4; have hczb36_5 : w124.cell? ⟨gb37, 5, none⟩ = some (.int .i64 t26) := (blk_cell BK38.out 5).trans rfl; have hfzb36_5 := blk_frozen BK38.out 5
  have hczb54_0 : w124.cell? ⟨gb55, 0, none⟩ = some (.slice A52 t44.length c53) := (blk_cell BK56.out 0).trans rfl; have hfzb54_0 := blk_frozen BK56.out 0; have hczb54_1 : w124.cell? ⟨gb55, 1, none⟩ = some (.int .i64 t45) := (blk_cell BK56.out 1).trans rfl; have hfzb54_1 := blk_frozen BK56.out 1
  have hczb77_0 : w124.cell? ⟨gb78, 0, none⟩ = some (.int .i64 t62) := (blk_cell BK79.out 0).trans rfl; have hfzb77_0 := blk_frozen BK79.out 0; have hczb77_1 : w124.cell? ⟨gb78, 1, none⟩ = some (.int .i64 t63) := (blk_cell BK79.out 1).trans rfl; have hfzb77_1 := blk_frozen BK79.out 1; have hczb77_2 : w124.cell? ⟨gb78, 2, none⟩ = some (.slice A75 t64.length c76) := (blk_cell BK79.out 2).trans rfl; have hfzb77_2 := blk_frozen BK79.out 2; have hczb77_3 : w124.cell? ⟨gb78, 3, none⟩ = some (.int .i64 t65) := (blk_cell BK79.out 3).trans rfl; have hfzb77_3 := blk_frozen BK79.out 3; have hczb77_4 : w124.cell? ⟨gb78, 4, none⟩ = some (.int .i64 t66) := (blk_cell BK79.out 4).trans rfl; have hfzb77_4 := blk_frozen BK79.out 4; have hczb77_5 : w124.cell? ⟨gb78, 5, none⟩ = some (.int .i64 t67) := (blk_cell BK79.out 5).trans rfl; have hfzb77_5 := blk_frozen BK79.out 5
  clear hb
  go_wp2_with fail
  refine (laws_toWorld.calls k _ _ l0_0 a0_1 t126 t127 _ (Kd.C_below HR0_0.out HB.out) HC0_0.out H128.out).mono ?_
  rintro e_ w129 ⟨v130, rfl, f131, hb⟩
  have hq_ : Below w124.heap.size w124 w129 := ⟨hb.os, hb.tape, hb.output, hb.size, hb.block⟩
  have HZ132 := Aside0.mk (show w124.heap.size ≤ w129.heap.size from hq_.size)
  have hn_ := Aside0.mk (below_then HB.out HB.out.size hq_)
  clear HB
  have HB := hn_
  clear hn_
  have hn_ := Aside0.mk (Kd.S_below F18.out hq_)
  clear F18
  have F18 := hn_
  clear hn_
  have hn_ := Aside0.mk (Kd.R_below F33.out hq_)
  clear F33
  have F33 := hn_
  clear hn_
  have hn_ := Aside0.mk (Kd.S_below F51.out hq_)
  clear F51
  have F51 := hn_
  clear hn_
  have hn_ := Aside0.mk (Kd.R_below F74.out hq_)
  clear F74
  have F74 := hn_
  clear hn_
  have hn_ := Aside0.mk (Kd.S_below F98.out hq_)
  clear F98
  have F98 := hn_
  clear hn_
  have hn_ := Aside0.mk (blk_below BK3.out hq_)
  clear hczb1_0 hfzb1_0; clear hczb1_1 hfzb1_1
  clear BK3
  have BK3 := hn_
  clear hn_
  have hn_ := Aside0.mk (blk_below BK38.out hq_)
  clear hczb36_0 hfzb36_0; clear hczb36_1 hfzb36_1; clear hczb36_2 hfzb36_2; clear hczb36_3 hfzb36_3; clear hczb36_4 hfzb36_4; clear hczb36_5 hfzb36_5
  clear BK38
  have BK38 := hn_
  clear hn_
  have hn_ := Aside0.mk (blk_below BK56.out hq_)
  clear hczb54_0 hfzb54_0; clear hczb54_1 hfzb54_1
  clear BK56
  have BK56 := hn_
  clear hn_
  have hn_ := Aside0.mk (blk_below BK79.out hq_)
  clear hczb77_0 hfzb77_0; clear hczb77_1 hfzb77_1; clear hczb77_2 hfzb77_2; clear hczb77_3 hfzb77_3; clear hczb77_4 hfzb77_4; clear hczb77_5 hfzb77_5
  clear BK79
  have BK79 := hn_
  clear hn_
  clear hq_
  have hczb1_0 : w129.cell? ⟨gb2, 0, none⟩ = some (.slice A0_0 l0_0.length c0_0) := (blk_cell BK3.out 0).trans rfl; have hfzb1_0 := blk_frozen BK3.out 0; have hczb1_1 : w129.cell? ⟨gb2, 1, none⟩ = some (.int .i64 a0_1) := (blk_cell BK3.out 1).trans rfl; have hfzb1_1 := blk_frozen BK3.out 1
  have hczb36_0 : w129.cell? ⟨gb37, 0, none⟩ = some (.int .i64 t21) := (blk_cell BK38.out 0).trans rfl; have hfzb36_0 := blk_frozen BK38.out 0; have hczb36_1 : w129.cell? ⟨gb37, 1, none⟩ = some (.int .i64 t22) := (blk_cell BK38.out 1).trans rfl; have hfzb36_1 := blk_frozen BK38.out 1; have hczb36_2 : w129.cell? ⟨gb37, 2, none⟩ = some (.slice A34 t23.length c35) := (blk_cell BK38.out 2).trans rfl; have hfzb36_2 := blk_frozen BK38.out 2; have hczb36_3 : w129.cell? ⟨gb37, 3, none⟩ = some (.int .i64 t24) := (blk_cell BK38.out 3).trans rfl; have hfzb36_3 := blk_frozen BK38.out 3; have hczb36_4 : w129.cell? ⟨gb37, 4, none⟩ = some (.int .i64 t25) := (blk_cell BK38.out 4).trans rfl; have hfzb36_4 := blk_frozen BK38.out 4; have hczb36_5 : w129.cell? ⟨gb37, 5, none⟩ = some (.int .i64 t26) := (blk_cell BK38.out 5).trans rfl; have hfzb36_5 := blk_frozen BK38.out 5
  have hczb54_0 : w129.cell? ⟨gb55, 0, none⟩ = some (.slice A52 t44.length c53) := (blk_cell BK56.out 0).trans rfl; have hfzb54_0 := blk_frozen BK56.out 0; have hczb54_1 : w129.cell? ⟨gb55, 1, none⟩ = some (.int .i64 t45) := (blk_cell BK56.out 1).trans rfl; have hfzb54_1 := blk_frozen BK56.out 1
  have hczb77_0 : w129.cell? ⟨gb78, 0, none⟩ = some (.int .i64 t62) := (blk_cell BK79.out 0).trans rfl; have hfzb77_0 := blk_frozen BK79.out 0; have hczb77_1 : w129.cell? ⟨gb78, 1, none⟩ = some (.int .i64 t63) := (blk_cell BK79.out 1).trans rfl; have hfzb77_1 := blk_frozen BK79.out 1; have hczb77_2 : w129.cell? ⟨gb78, 2, none⟩ = some (.slice A75 t64.length c76) := (blk_cell BK79.out 2).trans rfl; have hfzb77_2 := blk_frozen BK79.out 2; have hczb77_3 : w129.cell? ⟨gb78, 3, none⟩ = some (.int .i64 t65) := (blk_cell BK79.out 3).trans rfl; have hfzb77_3 := blk_frozen BK79.out 3; have hczb77_4 : w129.cell? ⟨gb78, 4, none⟩ = some (.int .i64 t66) := (blk_cell BK79.out 4).trans rfl; have hfzb77_4 := blk_frozen BK79.out 4; have hczb77_5 : w129.cell? ⟨gb78, 5, none⟩ = some (.int .i64 t67) := (blk_cell BK79.out 5).trans rfl; have hfzb77_5 := blk_frozen BK79.out 5
  clear hb
  have F133 := Aside0.mk (Lk.newS (b := w124.heap.size) (base := w.heap.size) (Sep := fun k_ => True) f131 (by have := HZ6.out; have := HZ10.out; have := HZ17.out; have := HZ32.out; have := HZ41.out; have := HZ43.out; have := HZ50.out; have := HZ59.out; have := HZ61.out; have := HZ73.out; have := HZ82.out; have := HZ84.out; have := HZ88.out; have := HZ90.out; have := HZ97.out; have := HZ104.out; have := HZ107.out; have := HZ113.out; have := HZ119.out; have := HZ125.out; have := HZ132.out; omega) (fun k_ hk_ => hk_))
  clear f131
  obtain ⟨A134, c135, e_⟩ := Kd.S_slice F133.out
  subst e_
  go_wp2_with fail
  refine (impl_NewCache.calls k _ _ t126 t127 a1 t136 t137 t138 t139 t140 t141 t27 _ (Lk.Sr F133.out).2 (Lk.Sr F133.out).1 H143.out).mono ?_
  rintro e_ w144 ⟨v145, rfl, f146, hb⟩
  have hq_ : Below w129.heap.size w129 w144 := ⟨hb.os, hb.tape, hb.output, hb.size, hb.block⟩
  have HZ147 := Aside0.mk (show w129.heap.size ≤ w144.heap.size from hq_.size)
  have hn_ := Aside0.mk (below_then HB.out HB.out.size hq_)
  clear HB
  have HB := hn_
  clear hn_
  have hn_ := Aside0.mk (Kd.S_below F18.out hq_)
  clear F18
  have F18 := hn_
  clear hn_
  have hn_ := Aside0.mk (Kd.R_below F33.out hq_)
  clear F33
  have F33 := hn_
  clear hn_
  have hn_ := Aside0.mk (Kd.S_below F51.out hq_)
  clear F51
  have F51 := hn_
  clear hn_
  have hn_ := Aside0.mk (Kd.R_below F74.out hq_)
  clear F74
  have F74 := hn_
  clear hn_
  have hn_ := Aside0.mk (Kd.S_below F98.out hq_)
  clear F98
  have F98 := hn_
  clear hn_
  have hn_ := Aside0.mk (Kd.S_below F133.out hq_)
  clear F133
  have F133 := hn_
  clear hn_
  have hn_ := Aside0.mk (blk_below BK3.out hq_)
  clear hczb1_0 hfzb1_0; clear hczb1_1 hfzb1_1
  clear BK3
  have BK3 := hn_
  clear hn_
  have hn_ := Aside0.mk (blk_below BK38.out hq_)
  clear hczb36_0 hfzb36_0; clear hczb36_1 hfzb36_1; clear hczb36_2 hfzb36_2; clear hczb36_3 hfzb36_3; clear hczb36_4 hfzb36_4; clear hczb36_5 hfzb36_5
  clear BK38
  have BK38 := hn_
  clear hn_
  have hn_ := Aside0.mk (blk_below BK56.out hq_)
  clear hczb54_0 hfzb54_0; clear hczb54_1 hfzb54_1
  clear BK56
  have BK56 := hn_
  clear hn_
  have hn_ := Aside0.mk (blk_below BK79.out hq_)
  clear hczb77_0 hfzb77_0; clear hczb77_1 hfzb77_1; clear hczb77_2 hfzb77_2; clear hczb77_3 hfzb77_3; clear hczb77_4 hfzb77_4; clear hczb77_5 hfzb77_5
  clear BK79
  have BK79 := hn_
  clear hn_
  clear hq_
  have hczb1_0 : w144.cell? ⟨gb2, 0, none⟩ = some (.slice A0_0 l0_0.length c0_0) := (blk_cell BK3.out 0).trans rfl; have hfzb1_0 := blk_frozen BK3.out 0; have hczb1_1 : w144.cell? ⟨gb2, 1, none⟩ = some (.int .i64 a0_1) := (blk_cell BK3.out 1).trans rfl; have hfzb1_1 := blk_frozen BK3.out 1
  have hczb36_0 : w144.cell? ⟨gb37, 0, none⟩ = some (.int .i64 t21) := (blk_cell BK38.out 0).trans rfl; have hfzb36_0 := blk_frozen BK38.out 0; have hczb36_1 : w144.cell? ⟨gb37, 1, none⟩ = some (.int .i64 t22) := (blk_cell BK38.out 1).trans rfl; have hfzb36_1 := blk_frozen BK38.out 1; have hczb36_2 : w144.cell? ⟨gb37, 2, none⟩ = some (.slice A34 t23.length c35) := (blk_cell BK38.out 2).trans rfl; have hfzb36_2 := blk_frozen BK38.out 2; have hczb36_3 : w144.cell? ⟨gb37, 3, none⟩ = some (.int .i64 t24) := (blk_cell BK38.out 3).trans rfl; have hfzb36_3 := blk_frozen BK38.out 3; have hczb36_4 : w144.cell? ⟨gb37, 4, none⟩ = some (.int .i64 t25) := (blk_cell BK38.out 4).trans rfl; have hfzb36_4 := blk_frozen BK38.out 4; have hczb36_5 : w144.cell? ⟨gb37, 5, none⟩ = some (.int .i64 t26) := (blk_cell BK38.out 5).trans rfl; have hfzb36_5 := blk_frozen BK38.out 5
  have hczb54_0 : w144.cell? ⟨gb55, 0, none⟩ = some (.slice A52 t44.length c53) := (blk_cell BK56.out 0).trans rfl; have hfzb54_0 := blk_frozen BK56.out 0; have hczb54_1 : w144.cell? ⟨gb55, 1, none⟩ = some (.int .i64 t45) := (blk_cell BK56.out 1).trans rfl; have hfzb54_1 := blk_frozen BK56.out 1
  have hczb77_0 : w144.cell? ⟨gb78, 0, none⟩ = some (.int .i64 t62) := (blk_cell BK79.out 0).trans rfl; have hfzb77_0 := blk_frozen BK79.out 0; have hczb77_1 : w144.cell? ⟨gb78, 1, none⟩ = some (.int .i64 t63) := (blk_cell BK79.out 1).trans rfl; have hfzb77_1 := blk_frozen BK79.out 1; have hczb77_2 : w144.cell? ⟨gb78, 2, none⟩ = some (.slice A75 t64.length c76) := (blk_cell BK79.out 2).trans rfl; have hfzb77_2 := blk_frozen BK79.out 2; have hczb77_3 : w144.cell? ⟨gb78, 3, none⟩ = some (.int .i64 t65) := (blk_cell BK79.out 3).trans rfl; have hfzb77_3 := blk_frozen BK79.out 3; have hczb77_4 : w144.cell? ⟨gb78, 4, none⟩ = some (.int .i64 t66) := (blk_cell BK79.out 4).trans rfl; have hfzb77_4 := blk_frozen BK79.out 4; have hczb77_5 : w144.cell? ⟨gb78, 5, none⟩ = some (.int .i64 t67) := (blk_cell BK79.out 5).trans rfl; have hfzb77_5 := blk_frozen BK79.out 5
  clear hb
  have F148 := Aside0.mk (Lk.newR (b := w129.heap.size) (base := w.heap.size) (Sep := fun k_ => True) rfl f146 (by have := HZ6.out; have := HZ10.out; have := HZ17.out; have := HZ32.out; have := HZ41.out; have := HZ43.out; have := HZ50.out; have := HZ59.out; have := HZ61.out; have := HZ73.out; have := HZ82.out; have := HZ84.out; have := HZ88.out; have := HZ90.out; have := HZ97.out; have := HZ104.out; have := HZ107.out; have := HZ113.out; have := HZ119.out; have := HZ125.out; have := HZ132.out; have := HZ147.out; omega) (fun k_ hk_ => hk_))
  clear f146
  obtain ⟨A149, c150, e_⟩ := Kd.R_slice F148.out
  subst e_
  go_wp2_with (first | ((with_reducible refine gate_dst (N := 14) rfl ?_); refine box_event ?hg (N := 14) ?hd (cs := #[.int .i64 0, .int .i64 0, .slice none 0 0, .int .i64 0, .int .i64 0, .int .i64 0]) (t := 44) ?hr ?_; (case hd => rfl); (case hg => rfl); (case hr => first | (go_simp; done) | (go_simp; rfl)); intro gb152 hg_ w155 hx_ hb; have hg2_ : gb152 = w144.heap.size := hg_; have hq_ : Below w144.heap.size w144 w155 := ⟨hb.os, hb.tape, hb.output, hb.size, hb.block⟩; have HZ156 := Aside0.mk (show w144.heap.size ≤ w155.heap.size from hq_.size); have hn_ := Aside0.mk (below_then HB.out HB.out.size hq_); clear HB; have HB := hn_; clear hn_; have hn_ := Aside0.mk (Kd.S_below F18.out hq_); clear F18; have F18 := hn_; clear hn_; have hn_ := Aside0.mk (Kd.R_below F33.out hq_); clear F33; have F33 := hn_; clear hn_; have hn_ := Aside0.mk (Kd.S_below F51.out hq_); clear F51; have F51 := hn_; clear hn_; have hn_ := Aside0.mk (Kd.R_below F74.out hq_); clear F74; have F74 := hn_; clear hn_; have hn_ := Aside0.mk (Kd.S_below F98.out hq_); clear F98; have F98 := hn_; clear hn_; have hn_ := Aside0.mk (Kd.S_below F133.out hq_); clear F133; have F133 := hn_; clear hn_; have hn_ := Aside0.mk (Kd.R_below F148.out hq_); clear F148; have F148 := hn_; clear hn_; have hn_ := Aside0.mk (blk_below BK3.out hq_); clear hczb1_0 hfzb1_0; clear hczb1_1 hfzb1_1; clear BK3; have BK3 := hn_; clear hn_; have hn_ := Aside0.mk (blk_below BK38.out hq_); clear hczb36_0 hfzb36_0; clear hczb36_1 hfzb36_1; clear hczb36_2 hfzb36_2; clear hczb36_3 hfzb36_3; clear hczb36_4 hfzb36_4; clear hczb36_5 hfzb36_5; clear BK38; have BK38 := hn_; clear hn_; have hn_ := Aside0.mk (blk_below BK56.out hq_); clear hczb54_0 hfzb54_0; clear hczb54_1 hfzb54_1; clear BK56; have BK56 := hn_; clear hn_; have hn_ := Aside0.mk (blk_below BK79.out hq_); clear hczb77_0 hfzb77_0; clear hczb77_1 hfzb77_1; clear hczb77_2 hfzb77_2; clear hczb77_3 hfzb77_3; clear hczb77_4 hfzb77_4; clear hczb77_5 hfzb77_5; clear BK79; have BK79 := hn_; clear hn_; clear hq_; have hczb1_0 : w155.cell? ⟨gb2, 0, none⟩ = some (.slice A0_0 l0_0.length c0_0) := (blk_cell BK3.out 0).trans rfl; have hfzb1_0 := blk_frozen BK3.out 0; have hczb1_1 : w155.cell? ⟨gb2, 1, none⟩ = some (.int .i64 a0_1) := (blk_cell BK3.out 1).trans rfl; have hfzb1_1 := blk_frozen BK3.out 1; have hczb36_0 : w155.cell? ⟨gb37, 0, none⟩ = some (.int .i64 t21) := (blk_cell BK38.out 0).trans rfl; have hfzb36_0 := blk_frozen BK38.out 0; have hczb36_1 : w155.cell? ⟨gb37, 1, none⟩ = some (.int .i64 t22) := (blk_cell BK38.out 1).trans rfl; have hfzb36_1 := blk_frozen BK38.out 1; have hczb36_2 : w155.cell? ⟨gb37, 2, none⟩ = some (.slice A34 t23.length c35) := (blk_cell BK38.out 2).trans rfl; have hfzb36_2 := blk_frozen BK38.out 2; have hczb36_3 : w155.cell? ⟨gb37, 3, none⟩ = some (.int .i64 t24) := (blk_cell BK38.out 3).trans rfl; have hfzb36_3 := blk_frozen BK38.out 3; have hczb36_4 : w155.cell? ⟨gb37, 4, none⟩ = some (.int .i64 t25) := (blk_cell BK38.out 4).trans rfl; have hfzb36_4 := blk_frozen BK38.out 4; have hczb36_5 : w155.cell? ⟨gb37, 5, none⟩ = some (.int .i64 t26) := (blk_cell BK38.out 5).trans rfl; have hfzb36_5 := blk_frozen BK38.out 5; have hczb54_0 : w155.cell? ⟨gb55, 0, none⟩ = some (.slice A52 t44.length c53) := (blk_cell BK56.out 0).trans rfl; have hfzb54_0 := blk_frozen BK56.out 0; have hczb54_1 : w155.cell? ⟨gb55, 1, none⟩ = some (.int .i64 t45) := (blk_cell BK56.out 1).trans rfl; have hfzb54_1 := blk_frozen BK56.out 1; have hczb77_0 : w155.cell? ⟨gb78, 0, none⟩ = some (.int .i64 t62) := (blk_cell BK79.out 0).trans rfl; have hfzb77_0 := blk_frozen BK79.out 0; have hczb77_1 : w155.cell? ⟨gb78, 1, none⟩ = some (.int .i64 t63) := (blk_cell BK79.out 1).trans rfl; have hfzb77_1 := blk_frozen BK79.out 1; have hczb77_2 : w155.cell? ⟨gb78, 2, none⟩ = some (.slice A75 t64.length c76) := (blk_cell BK79.out 2).trans rfl; have hfzb77_2 := blk_frozen BK79.out 2; have hczb77_3 : w155.cell? ⟨gb78, 3, none⟩ = some (.int .i64 t65) := (blk_cell BK79.out 3).trans rfl; have hfzb77_3 := blk_frozen BK79.out 3; have hczb77_4 : w155.cell? ⟨gb78, 4, none⟩ = some (.int .i64 t66) := (blk_cell BK79.out 4).trans rfl; have hfzb77_4 := blk_frozen BK79.out 4; have hczb77_5 : w155.cell? ⟨gb78, 5, none⟩ = some (.int .i64 t67) := (blk_cell BK79.out 5).trans rfl; have hfzb77_5 := blk_frozen BK79.out 5; have BK153 := Aside0.mk hx_; have GQ154 := Aside0.mk (show w144.heap.size ≤ gb152 ∧ gb152 < w155.heap.size from ⟨Nat.le_of_eq hg2_.symm, blk_lt hx_⟩); clear hb hg_ hg2_ hx_; have hczb151_0 : w155.cell? ⟨gb152, 0, none⟩ = some (.int .i64 0) := (blk_cell BK153.out 0).trans rfl; have hfzb151_0 := blk_frozen BK153.out 0; have hczb151_1 : w155.cell? ⟨gb152, 1, none⟩ = some (.int .i64 0) := (blk_cell BK153.out 1).trans rfl; have hfzb151_1 := blk_frozen BK153.out 1; have hczb151_2 : w155.cell? ⟨gb152, 2, none⟩ = some (.slice none 0 0) := (blk_cell BK153.out 2).trans rfl; have hfzb151_2 := blk_frozen BK153.out 2; have hczb151_3 : w155.cell? ⟨gb152, 3, none⟩ = some (.int .i64 0) := (blk_cell BK153.out 3).trans rfl; have hfzb151_3 := blk_frozen BK153.out 3; have hczb151_4 : w155.cell? ⟨gb152, 4, none⟩ = some (.int .i64 0) := (blk_cell BK153.out 4).trans rfl; have hfzb151_4 := blk_frozen BK153.out 4; have hczb151_5 : w155.cell? ⟨gb152, 5, none⟩ = some (.int .i64 0) := (blk_cell BK153.out 5).trans rfl; have hfzb151_5 := blk_frozen BK153.out 5) | ((with_reducible refine gate_store (t := 44) (p := 14) rfl ?_); refine store_event (t := 44) (p := 14) (v := ?vo_w157) (w1 := ((((((w155.setCell ⟨gb152, 0, none⟩ (.int .i64 t136)).setCell ⟨gb152, 1, none⟩ (.int .i64 t137)).setCell ⟨gb152, 2, none⟩ (.slice A149 t138.length c150)).setCell ⟨gb152, 3, none⟩ (.int .i64 t139)).setCell ⟨gb152, 4, none⟩ (.int .i64 t140)).setCell ⟨gb152, 5, none⟩ (.int .i64 t141))) ?hg ?ho ?hn ?hr ?_; (case ho => rfl); (case hg => rfl); (case hn => rfl); (case hr => first | (go_simp; done) | (go_simp; rfl)); intro w157 hw_; have hx_ : w157.heap[gb152]? = some (.cells #[(.int .i64 t136), (.int .i64 t137), (.slice A149 t138.length c150), (.int .i64 t139), (.int .i64 t140), (.int .i64 t141)] 44 (0, 0)) := (by rw [hw_]; exact Lk.filled (us := [(.int .i64 t136), (.int .i64 t137), (.slice A149 t138.length c150), (.int .i64 t139), (.int .i64 t140), (.int .i64 t141)]) BK153.out rfl); have hk2_ : Kept w155 w157 (fun k_ => k_ = gb152) := (by rw [hw_]; exact Lk.fill_kept [(.int .i64 t136), (.int .i64 t137), (.slice A149 t138.length c150), (.int .i64 t139), (.int .i64 t140), (.int .i64 t141)] 0 w155); have hB_ := Aside0.mk (show Below w.heap.size w w157 by rw [hw_]; exact Lk.fill_below [(.int .i64 t136), (.int .i64 t137), (.slice A149 t138.length c150), (.int .i64 t139), (.int .i64 t140), (.int .i64 t141)] 0 w w155 HB.out (by have := HZ6.out; have := HZ10.out; have := HZ17.out; have := HZ32.out; have := HZ41.out; have := HZ43.out; have := HZ50.out; have := HZ59.out; have := HZ61.out; have := HZ73.out; have := HZ82.out; have := HZ84.out; have := HZ88.out; have := HZ90.out; have := HZ97.out; have := HZ104.out; have := HZ107.out; have := HZ113.out; have := HZ119.out; have := HZ125.out; have := HZ132.out; have := HZ147.out; have := HZ156.out; have := GQ154.out; omega)); clear HB; have HB := hB_; clear hB_; have HZ158 := Aside0.mk (show w155.heap.size ≤ w157.heap.size from hk2_.1); have hn_ := Aside0.mk (Kd.S_kept F18.out hk2_ (fun k_ h1_ h2_ => by have := HZ6.out; have := HZ10.out; have := HZ17.out; have := HZ32.out; have := HZ41.out; have := HZ43.out; have := HZ50.out; have := HZ59.out; have := HZ61.out; have := HZ73.out; have := HZ82.out; have := HZ84.out; have := HZ88.out; have := HZ90.out; have := HZ97.out; have := HZ104.out; have := HZ107.out; have := HZ113.out; have := HZ119.out; have := HZ125.out; have := HZ132.out; have := HZ147.out; have := HZ156.out; have := GQ154.out; have h3_ := h1_.1; omega)); clear F18; have F18 := hn_; clear hn_; have hn_ := Aside0.mk (Kd.R_kept F33.out hk2_ (fun k_ h1_ h2_ => by have := HZ6.out; have := HZ10.out; have := HZ17.out; have := HZ32.out; have := HZ41.out; have := HZ43.out; have := HZ50.out; have := HZ59.out; have := HZ61.out; have := HZ73.out; have := HZ82.out; have := HZ84.out; have := HZ88.out; have := HZ90.out; have := HZ97.out; have := HZ104.out; have := HZ107.out; have := HZ113.out; have := HZ119.out; have := HZ125.out; have := HZ132.out; have := HZ147.out; have := HZ156.out; have := GQ154.out; have h3_ := h1_.1; omega)); clear F33; have F33 := hn_; clear hn_; have hn_ := Aside0.mk (Kd.S_kept F51.out hk2_ (fun k_ h1_ h2_ => by have := HZ6.out; have := HZ10.out; have := HZ17.out; have := HZ32.out; have := HZ41.out; have := HZ43.out; have := HZ50.out; have := HZ59.out; have := HZ61.out; have := HZ73.out; have := HZ82.out; have := HZ84.out; have := HZ88.out; have := HZ90.out; have := HZ97.out; have := HZ104.out; have := HZ107.out; have := HZ113.out; have := HZ119.out; have := HZ125.out; have := HZ132.out; have := HZ147.out; have := HZ156.out; have := GQ154.out; have h3_ := h1_.1; omega)); clear F51; have F51 := hn_; clear hn_; have hn_ := Aside0.mk (Kd.R_kept F74.out hk2_ (fun k_ h1_ h2_ => by have := HZ6.out; have := HZ10.out; have := HZ17.out; have := HZ32.out; have := HZ41.out; have := HZ43.out; have := HZ50.out; have := HZ59.out; have := HZ61.out; have := HZ73.out; have := HZ82.out; have := HZ84.out; have := HZ88.out; have := HZ90.out; have := HZ97.out; have := HZ104.out; have := HZ107.out; have := HZ113.out; have := HZ119.out; have := HZ125.out; have := HZ132.out; have := HZ147.out; have := HZ156.out; have := GQ154.out; have h3_ := h1_.1; omega)); clear F74; have F74 := hn_; clear hn_; have hn_ := Aside0.mk (Kd.S_kept F98.out hk2_ (fun k_ h1_ h2_ => by have := HZ6.out; have := HZ10.out; have := HZ17.out; have := HZ32.out; have := HZ41.out; have := HZ43.out; have := HZ50.out; have := HZ59.out; have := HZ61.out; have := HZ73.out; have := HZ82.out; have := HZ84.out; have := HZ88.out; have := HZ90.out; have := HZ97.out; have := HZ104.out; have := HZ107.out; have := HZ113.out; have := HZ119.out; have := HZ125.out; have := HZ132.out; have := HZ147.out; have := HZ156.out; have := GQ154.out; have h3_ := h1_.1; omega)); clear F98; have F98 := hn_; clear hn_; have hn_ := Aside0.mk (Kd.S_kept F133.out hk2_ (fun k_ h1_ h2_ => by have := HZ6.out; have := HZ10.out; have := HZ17.out; have := HZ32.out; have := HZ41.out; have := HZ43.out; have := HZ50.out; have := HZ59.out; have := HZ61.out; have := HZ73.out; have := HZ82.out; have := HZ84.out; have := HZ88.out; have := HZ90.out; have := HZ97.out; have := HZ104.out; have := HZ107.out; have := HZ113.out; have := HZ119.out; have := HZ125.out; have := HZ132.out; have := HZ147.out; have := HZ156.out; have := GQ154.out; have h3_ := h1_.1; omega)); clear F133; have F133 := hn_; clear hn_; have hn_ := Aside0.mk (Kd.R_kept F148.out hk2_ (fun k_ h1_ h2_ => by have := HZ6.out; have := HZ10.out; have := HZ17.out; have := HZ32.out; have := HZ41.out; have := HZ43.out; have := HZ50.out; have := HZ59.out; have := HZ61.out; have := HZ73.out; have := HZ82.out; have := HZ84.out; have := HZ88.out; have := HZ90.out; have := HZ97.out; have := HZ104.out; have := HZ107.out; have := HZ113.out; have := HZ119.out; have := HZ125.out; have := HZ132.out; have := HZ147.out; have := HZ156.out; have := GQ154.out; have h3_ := h1_.1; omega)); clear F148; have F148 := hn_; clear hn_; clear hczb1_0 hfzb1_0; clear hczb1_1 hfzb1_1; have hn_ := Aside0.mk (blk_kept BK3.out hk2_ (fun h_ => by have := HZ6.out; have := HZ10.out; have := HZ17.out; have := HZ32.out; have := HZ41.out; have := HZ43.out; have := HZ50.out; have := HZ59.out; have := HZ61.out; have := HZ73.out; have := HZ82.out; have := HZ84.out; have := HZ88.out; have := HZ90.out; have := HZ97.out; have := HZ104.out; have := HZ107.out; have := HZ113.out; have := HZ119.out; have := HZ125.out; have := HZ132.out; have := HZ147.out; have := HZ156.out; have := GQ154.out; have := GQ4.out; omega)); clear BK3; have BK3 := hn_; clear hn_; clear hczb36_0 hfzb36_0; clear hczb36_1 hfzb36_1; clear hczb36_2 hfzb36_2; clear hczb36_3 hfzb36_3; clear hczb36_4 hfzb36_4; clear hczb36_5 hfzb36_5; have hn_ := Aside0.mk (blk_kept BK38.out hk2_ (fun h_ => by have := HZ6.out; have := HZ10.out; have := HZ17.out; have := HZ32.out; have := HZ41.out; have := HZ43.out; have := HZ50.out; have := HZ59.out; have := HZ61.out; have := HZ73.out; have := HZ82.out; have := HZ84.out; have := HZ88.out; have := HZ90.out; have := HZ97.out; have := HZ104.out; have := HZ107.out; have := HZ113.out; have := HZ119.out; have := HZ125.out; have := HZ132.out; have := HZ147.out; have := HZ156.out; have := GQ154.out; have := GQ39.out; omega)); clear BK38; have BK38 := hn_; clear hn_; clear hczb54_0 hfzb54_0; clear hczb54_1 hfzb54_1; have hn_ := Aside0.mk (blk_kept BK56.out hk2_ (fun h_ => by have := HZ6.out; have := HZ10.out; have := HZ17.out; have := HZ32.out; have := HZ41.out; have := HZ43.out; have := HZ50.out; have := HZ59.out; have := HZ61.out; have := HZ73.out; have := HZ82.out; have := HZ84.out; have := HZ88.out; have := HZ90.out; have := HZ97.out; have := HZ104.out; have := HZ107.out; have := HZ113.out; have := HZ119.out; have := HZ125.out; have := HZ132.out; have := HZ147.out; have := HZ156.out; have := GQ154.out; have := GQ57.out; omega)); clear BK56; have BK56 := hn_; clear hn_; clear hczb77_0 hfzb77_0; clear hczb77_1 hfzb77_1; clear hczb77_2 hfzb77_2; clear hczb77_3 hfzb77_3; clear hczb77_4 hfzb77_4; clear hczb77_5 hfzb77_5; have hn_ := Aside0.mk (blk_kept BK79.out hk2_ (fun h_ => by have := HZ6.out; have := HZ10.out; have := HZ17.out; have := HZ32.out; have := HZ41.out; have := HZ43.out; have := HZ50.out; have := HZ59.out; have := HZ61.out; have := HZ73.out; have := HZ82.out; have := HZ84.out; have := HZ88.out; have := HZ90.out; have := HZ97.out; have := HZ104.out; have := HZ107.out; have := HZ113.out; have := HZ119.out; have := HZ125.out; have := HZ132.out; have := HZ147.out; have := HZ156.out; have := GQ154.out; have := GQ80.out; omega)); clear BK79; have BK79 := hn_; clear hn_; clear hczb151_0 hfzb151_0; clear hczb151_1 hfzb151_1; clear hczb151_2 hfzb151_2; clear hczb151_3 hfzb151_3; clear hczb151_4 hfzb151_4; clear hczb151_5 hfzb151_5; clear BK153; have BK153 := Aside0.mk hx_; clear hk2_ hx_ hw_; have hczb1_0 : w157.cell? ⟨gb2, 0, none⟩ = some (.slice A0_0 l0_0.length c0_0) := (blk_cell BK3.out 0).trans rfl; have hfzb1_0 := blk_frozen BK3.out 0; have hczb1_1 : w157.cell? ⟨gb2, 1, none⟩ = some (.int .i64 a0_1) := (blk_cell BK3.out 1).trans rfl; have hfzb1_1 := blk_frozen BK3.out 1; have hczb36_0 : w157.cell? ⟨gb37, 0, none⟩ = some (.int .i64 t21) := (blk_cell BK38.out 0).trans rfl; have hfzb36_0 := blk_frozen BK38.out 0; have hczb36_1 : w157.cell? ⟨gb37, 1, none⟩ = some (.int .i64 t22) := (blk_cell BK38.out 1).trans rfl; have hfzb36_1 := blk_frozen BK38.out 1; have hczb36_2 : w157.cell? ⟨gb37, 2, none⟩ = some (.slice A34 t23.length c35) := (blk_cell BK38.out 2).trans rfl; have hfzb36_2 := blk_frozen BK38.out 2; have hczb36_3 : w157.cell? ⟨gb37, 3, none⟩ = some (.int .i64 t24) := (blk_cell BK38.out 3).trans rfl; have hfzb36_3 := blk_frozen BK38.out 3; have hczb36_4 : w157.cell? ⟨gb37, 4, none⟩ = some (.int .i64 t25) := (blk_cell BK38.out 4).trans rfl; have hfzb36_4 := blk_frozen BK38.out 4; have hczb36_5 : w157.cell? ⟨gb37, 5, none⟩ = some (.int .i64 t26) := (blk_cell BK38.out 5).trans rfl; have hfzb36_5 := blk_frozen BK38.out 5; have hczb54_0 : w157.cell? ⟨gb55, 0, none⟩ = some (.slice A52 t44.length c53) := (blk_cell BK56.out 0).trans rfl; have hfzb54_0 := blk_frozen BK56.out 0; have hczb54_1 : w157.cell? ⟨gb55, 1, none⟩ = some (.int .i64 t45) := (blk_cell BK56.out 1).trans rfl; have hfzb54_1 := blk_frozen BK56.out 1; have hczb77_0 : w157.cell? ⟨gb78, 0, none⟩ = some (.int .i64 t62) := (blk_cell BK79.out 0).trans rfl; have hfzb77_0 := blk_frozen BK79.out 0; have hczb77_1 : w157.cell? ⟨gb78, 1, none⟩ = some (.int .i64 t63) := (blk_cell BK79.out 1).trans rfl; have hfzb77_1 := blk_frozen BK79.out 1; have hczb77_2 : w157.cell? ⟨gb78, 2, none⟩ = some (.slice A75 t64.length c76) := (blk_cell BK79.out 2).trans rfl; have hfzb77_2 := blk_frozen BK79.out 2; have hczb77_3 : w157.cell? ⟨gb78, 3, none⟩ = some (.int .i64 t65) := (blk_cell BK79.out 3).trans rfl; have hfzb77_3 := blk_frozen BK79.out 3; have hczb77_4 : w157.cell? ⟨gb78, 4, none⟩ = some (.int .i64 t66) := (blk_cell BK79.out 4).trans rfl; have hfzb77_4 := blk_frozen BK79.out 4; have hczb77_5 : w157.cell? ⟨gb78, 5, none⟩ = some (.int .i64 t67) := (blk_cell BK79.out 5).trans rfl; have hfzb77_5 := blk_frozen BK79.out 5; have hczb151_0 : w157.cell? ⟨gb152, 0, none⟩ = some (.int .i64 t136) := (blk_cell BK153.out 0).trans rfl; have hfzb151_0 := blk_frozen BK153.out 0; have hczb151_1 : w157.cell? ⟨gb152, 1, none⟩ = some (.int .i64 t137) := (blk_cell BK153.out 1).trans rfl; have hfzb151_1 := blk_frozen BK153.out 1; have hczb151_2 : w157.cell? ⟨gb152, 2, none⟩ = some (.slice A149 t138.length c150) := (blk_cell BK153.out 2).trans rfl; have hfzb151_2 := blk_frozen BK153.out 2; have hczb151_3 : w157.cell? ⟨gb152, 3, none⟩ = some (.int .i64 t139) := (blk_cell BK153.out 3).trans rfl; have hfzb151_3 := blk_frozen BK153.out 3; have hczb151_4 : w157.cell? ⟨gb152, 4, none⟩ = some (.int .i64 t140) := (blk_cell BK153.out 4).trans rfl; have hfzb151_4 := blk_frozen BK153.out 4; have hczb151_5 : w157.cell? ⟨gb152, 5, none⟩ = some (.int .i64 t141) := (blk_cell BK153.out 5).trans rfl; have hfzb151_5 := blk_frozen BK153.out 5))
  refine (laws_eqCache.calls k t136 t137 _ _ t138 t139 t140 t141 t21 t22 _ _ t23 t24 t25 t26 true _ (Lk.Rr F148.out).2 (Lk.Rr F148.out).1 (Lk.Rr F33.out).2 (Lk.Rr F33.out).1 H160.out).mono ?_
  rintro e_ w161 ⟨rfl, hb⟩
  have hq_ : Below w157.heap.size w157 w161 := ⟨hb.os, hb.tape, hb.output, hb.size, hb.block⟩
  have HZ162 := Aside0.mk (show w157.heap.size ≤ w161.heap.size from hq_.size)
  have hn_ := Aside0.mk (below_then HB.out HB.out.size hq_)
  clear HB
  have HB := hn_
  clear hn_
  have hn_ := Aside0.mk (Kd.S_below F18.out hq_)
  clear F18
  have F18 := hn_
  clear hn_
  have hn_ := Aside0.mk (Kd.R_below F33.out hq_)
  clear F33
  have F33 := hn_
  clear hn_
  have hn_ := Aside0.mk (Kd.S_below F51.out hq_)
  clear F51
  have F51 := hn_
  clear hn_
  have hn_ := Aside0.mk (Kd.R_below F74.out hq_)
  clear F74
  have F74 := hn_
  clear hn_
  have hn_ := Aside0.mk (Kd.S_below F98.out hq_)
  clear F98
  have F98 := hn_
  clear hn_
  have hn_ := Aside0.mk (Kd.S_below F133.out hq_)
  clear F133
  have F133 := hn_
  clear hn_
  have hn_ := Aside0.mk (Kd.R_below F148.out hq_)
  clear F148
  have F148 := hn_
  clear hn_
  have hn_ := Aside0.mk (blk_below BK3.out hq_)
  clear hczb1_0 hfzb1_0; clear hczb1_1 hfzb1_1
  clear BK3
  have BK3 := hn_
  clear hn_
  have hn_ := Aside0.mk (blk_below BK38.out hq_)
  clear hczb36_0 hfzb36_0; clear hczb36_1 hfzb36_1; clear hczb36_2 hfzb36_2; clear hczb36_3 hfzb36_3; clear hczb36_4 hfzb36_4; clear hczb36_5 hfzb36_5
  clear BK38
  have BK38 := hn_
  clear hn_
  have hn_ := Aside0.mk (blk_below BK56.out hq_)
  clear hczb54_0 hfzb54_0; clear hczb54_1 hfzb54_1
  clear BK56
  have BK56 := hn_
  clear hn_
  have hn_ := Aside0.mk (blk_below BK79.out hq_)
  clear hczb77_0 hfzb77_0; clear hczb77_1 hfzb77_1; clear hczb77_2 hfzb77_2; clear hczb77_3 hfzb77_3; clear hczb77_4 hfzb77_4; clear hczb77_5 hfzb77_5
  clear BK79
  have BK79 := hn_
  clear hn_
  have hn_ := Aside0.mk (blk_below BK153.out hq_)
  clear hczb151_0 hfzb151_0; clear hczb151_1 hfzb151_1; clear hczb151_2 hfzb151_2; clear hczb151_3 hfzb151_3; clear hczb151_4 hfzb151_4; clear hczb151_5 hfzb151_5
  clear BK153
  have BK153 := hn_
  clear hn_
  clear hq_
  have hczb1_0 : w161.cell? ⟨gb2, 0, none⟩ = some (.slice A0_0 l0_0.length c0_0) := (blk_cell BK3.out 0).trans rfl; have hfzb1_0 := blk_frozen BK3.out 0; have hczb1_1 : w161.cell? ⟨gb2, 1, none⟩ = some (.int .i64 a0_1) := (blk_cell BK3.out 1).trans rfl; have hfzb1_1 := blk_frozen BK3.out 1
  have hczb36_0 : w161.cell? ⟨gb37, 0, none⟩ = some (.int .i64 t21) := (blk_cell BK38.out 0).trans rfl; have hfzb36_0 := blk_frozen BK38.out 0; have hczb36_1 : w161.cell? ⟨gb37, 1, none⟩ = some (.int .i64 t22) := (blk_cell BK38.out 1).trans rfl; have hfzb36_1 := blk_frozen BK38.out 1; have hczb36_2 : w161.cell? ⟨gb37, 2, none⟩ = some (.slice A34 t23.length c35) := (blk_cell BK38.out 2).trans rfl; have hfzb36_2 := blk_frozen BK38.out 2; have hczb36_3 : w161.cell? ⟨gb37, 3, none⟩ = some (.int .i64 t24) := (blk_cell BK38.out 3).trans rfl; have hfzb36_3 := blk_frozen BK38.out 3; have hczb36_4 : w161.cell? ⟨gb37, 4, none⟩ = some (.int .i64 t25) := (blk_cell BK38.out 4).trans rfl; have hfzb36_4 := blk_frozen BK38.out 4; have hczb36_5 : w161.cell? ⟨gb37, 5, none⟩ = some (.int .i64 t26) := (blk_cell BK38.out 5).trans rfl; have hfzb36_5 := blk_frozen BK38.out 5
  have hczb54_0 : w161.cell? ⟨gb55, 0, none⟩ = some (.slice A52 t44.length c53) := (blk_cell BK56.out 0).trans rfl; have hfzb54_0 := blk_frozen BK56.out 0; have hczb54_1 : w161.cell? ⟨gb55, 1, none⟩ = some (.int .i64 t45) := (blk_cell BK56.out 1).trans rfl; have hfzb54_1 := blk_frozen BK56.out 1
  have hczb77_0 : w161.cell? ⟨gb78, 0, none⟩ = some (.int .i64 t62) := (blk_cell BK79.out 0).trans rfl; have hfzb77_0 := blk_frozen BK79.out 0; have hczb77_1 : w161.cell? ⟨gb78, 1, none⟩ = some (.int .i64 t63) := (blk_cell BK79.out 1).trans rfl; have hfzb77_1 := blk_frozen BK79.out 1; have hczb77_2 : w161.cell? ⟨gb78, 2, none⟩ = some (.slice A75 t64.length c76) := (blk_cell BK79.out 2).trans rfl; have hfzb77_2 := blk_frozen BK79.out 2; have hczb77_3 : w161.cell? ⟨gb78, 3, none⟩ = some (.int .i64 t65) := (blk_cell BK79.out 3).trans rfl; have hfzb77_3 := blk_frozen BK79.out 3; have hczb77_4 : w161.cell? ⟨gb78, 4, none⟩ = some (.int .i64 t66) := (blk_cell BK79.out 4).trans rfl; have hfzb77_4 := blk_frozen BK79.out 4; have hczb77_5 : w161.cell? ⟨gb78, 5, none⟩ = some (.int .i64 t67) := (blk_cell BK79.out 5).trans rfl; have hfzb77_5 := blk_frozen BK79.out 5
  have hczb151_0 : w161.cell? ⟨gb152, 0, none⟩ = some (.int .i64 t136) := (blk_cell BK153.out 0).trans rfl; have hfzb151_0 := blk_frozen BK153.out 0; have hczb151_1 : w161.cell? ⟨gb152, 1, none⟩ = some (.int .i64 t137) := (blk_cell BK153.out 1).trans rfl; have hfzb151_1 := blk_frozen BK153.out 1; have hczb151_2 : w161.cell? ⟨gb152, 2, none⟩ = some (.slice A149 t138.length c150) := (blk_cell BK153.out 2).trans rfl; have hfzb151_2 := blk_frozen BK153.out 2; have hczb151_3 : w161.cell? ⟨gb152, 3, none⟩ = some (.int .i64 t139) := (blk_cell BK153.out 3).trans rfl; have hfzb151_3 := blk_frozen BK153.out 3; have hczb151_4 : w161.cell? ⟨gb152, 4, none⟩ = some (.int .i64 t140) := (blk_cell BK153.out 4).trans rfl; have hfzb151_4 := blk_frozen BK153.out 4; have hczb151_5 : w161.cell? ⟨gb152, 5, none⟩ = some (.int .i64 t141) := (blk_cell BK153.out 5).trans rfl; have hfzb151_5 := blk_frozen BK153.out 5
  clear hb
  go_wp2_with fail
  have hc_ := laws_heldCache.calls k t62 t63 _ _ t116 t65 t66 t67 1 t115 _ (Lk.Rr F74.out).2 (Lk.Rr F74.out).1 H164.out
  simp only [← HL120.out] at hc_
  refine hc_.mono ?_
  clear hc_
  rintro e_ w165 ⟨rfl, hb⟩
  have hq_ : Below w161.heap.size w161 w165 := ⟨hb.os, hb.tape, hb.output, hb.size, hb.block⟩
  have HZ166 := Aside0.mk (show w161.heap.size ≤ w165.heap.size from hq_.size)
  have hn_ := Aside0.mk (below_then HB.out HB.out.size hq_)
  clear HB
  have HB := hn_
  clear hn_
  have hn_ := Aside0.mk (Kd.S_below F18.out hq_)
  clear F18
  have F18 := hn_
  clear hn_
  have hn_ := Aside0.mk (Kd.R_below F33.out hq_)
  clear F33
  have F33 := hn_
  clear hn_
  have hn_ := Aside0.mk (Kd.S_below F51.out hq_)
  clear F51
  have F51 := hn_
  clear hn_
  have hn_ := Aside0.mk (Kd.R_below F74.out hq_)
  clear F74
  have F74 := hn_
  clear hn_
  have hn_ := Aside0.mk (Kd.S_below F98.out hq_)
  clear F98
  have F98 := hn_
  clear hn_
  have hn_ := Aside0.mk (Kd.S_below F133.out hq_)
  clear F133
  have F133 := hn_
  clear hn_
  have hn_ := Aside0.mk (Kd.R_below F148.out hq_)
  clear F148
  have F148 := hn_
  clear hn_
  have hn_ := Aside0.mk (blk_below BK3.out hq_)
  clear hczb1_0 hfzb1_0; clear hczb1_1 hfzb1_1
  clear BK3
  have BK3 := hn_
  clear hn_
  have hn_ := Aside0.mk (blk_below BK38.out hq_)
  clear hczb36_0 hfzb36_0; clear hczb36_1 hfzb36_1; clear hczb36_2 hfzb36_2; clear hczb36_3 hfzb36_3; clear hczb36_4 hfzb36_4; clear hczb36_5 hfzb36_5
  clear BK38
  have BK38 := hn_
  clear hn_
  have hn_ := Aside0.mk (blk_below BK56.out hq_)
  clear hczb54_0 hfzb54_0; clear hczb54_1 hfzb54_1
  clear BK56
  have BK56 := hn_
  clear hn_
  have hn_ := Aside0.mk (blk_below BK79.out hq_)
  clear hczb77_0 hfzb77_0; clear hczb77_1 hfzb77_1; clear hczb77_2 hfzb77_2; clear hczb77_3 hfzb77_3; clear hczb77_4 hfzb77_4; clear hczb77_5 hfzb77_5
  clear BK79
  have BK79 := hn_
  clear hn_
  have hn_ := Aside0.mk (blk_below BK153.out hq_)
  clear hczb151_0 hfzb151_0; clear hczb151_1 hfzb151_1; clear hczb151_2 hfzb151_2; clear hczb151_3 hfzb151_3; clear hczb151_4 hfzb151_4; clear hczb151_5 hfzb151_5
  clear BK153
  have BK153 := hn_
  clear hn_
  clear hq_
  have hczb1_0 : w165.cell? ⟨gb2, 0, none⟩ = some (.slice A0_0 l0_0.length c0_0) := (blk_cell BK3.out 0).trans rfl; have hfzb1_0 := blk_frozen BK3.out 0; have hczb1_1 : w165.cell? ⟨gb2, 1, none⟩ = some (.int .i64 a0_1) := (blk_cell BK3.out 1).trans rfl; have hfzb1_1 := blk_frozen BK3.out 1
  have hczb36_0 : w165.cell? ⟨gb37, 0, none⟩ = some (.int .i64 t21) := (blk_cell BK38.out 0).trans rfl; have hfzb36_0 := blk_frozen BK38.out 0; have hczb36_1 : w165.cell? ⟨gb37, 1, none⟩ = some (.int .i64 t22) := (blk_cell BK38.out 1).trans rfl; have hfzb36_1 := blk_frozen BK38.out 1; have hczb36_2 : w165.cell? ⟨gb37, 2, none⟩ = some (.slice A34 t23.length c35) := (blk_cell BK38.out 2).trans rfl; have hfzb36_2 := blk_frozen BK38.out 2; have hczb36_3 : w165.cell? ⟨gb37, 3, none⟩ = some (.int .i64 t24) := (blk_cell BK38.out 3).trans rfl; have hfzb36_3 := blk_frozen BK38.out 3; have hczb36_4 : w165.cell? ⟨gb37, 4, none⟩ = some (.int .i64 t25) := (blk_cell BK38.out 4).trans rfl; have hfzb36_4 := blk_frozen BK38.out 4; have hczb36_5 : w165.cell? ⟨gb37, 5, none⟩ = some (.int .i64 t26) := (blk_cell BK38.out 5).trans rfl; have hfzb36_5 := blk_frozen BK38.out 5
  have hczb54_0 : w165.cell? ⟨gb55, 0, none⟩ = some (.slice A52 t44.length c53) := (blk_cell BK56.out 0).trans rfl; have hfzb54_0 := blk_frozen BK56.out 0; have hczb54_1 : w165.cell? ⟨gb55, 1, none⟩ = some (.int .i64 t45) := (blk_cell BK56.out 1).trans rfl; have hfzb54_1 := blk_frozen BK56.out 1
  have hczb77_0 : w165.cell? ⟨gb78, 0, none⟩ = some (.int .i64 t62) := (blk_cell BK79.out 0).trans rfl; have hfzb77_0 := blk_frozen BK79.out 0; have hczb77_1 : w165.cell? ⟨gb78, 1, none⟩ = some (.int .i64 t63) := (blk_cell BK79.out 1).trans rfl; have hfzb77_1 := blk_frozen BK79.out 1; have hczb77_2 : w165.cell? ⟨gb78, 2, none⟩ = some (.slice A75 t64.length c76) := (blk_cell BK79.out 2).trans rfl; have hfzb77_2 := blk_frozen BK79.out 2; have hczb77_3 : w165.cell? ⟨gb78, 3, none⟩ = some (.int .i64 t65) := (blk_cell BK79.out 3).trans rfl; have hfzb77_3 := blk_frozen BK79.out 3; have hczb77_4 : w165.cell? ⟨gb78, 4, none⟩ = some (.int .i64 t66) := (blk_cell BK79.out 4).trans rfl; have hfzb77_4 := blk_frozen BK79.out 4; have hczb77_5 : w165.cell? ⟨gb78, 5, none⟩ = some (.int .i64 t67) := (blk_cell BK79.out 5).trans rfl; have hfzb77_5 := blk_frozen BK79.out 5
  have hczb151_0 : w165.cell? ⟨gb152, 0, none⟩ = some (.int .i64 t136) := (blk_cell BK153.out 0).trans rfl; have hfzb151_0 := blk_frozen BK153.out 0; have hczb151_1 : w165.cell? ⟨gb152, 1, none⟩ = some (.int .i64 t137) := (blk_cell BK153.out 1).trans rfl; have hfzb151_1 := blk_frozen BK153.out 1; have hczb151_2 : w165.cell? ⟨gb152, 2, none⟩ = some (.slice A149 t138.length c150) := (blk_cell BK153.out 2).trans rfl; have hfzb151_2 := blk_frozen BK153.out 2; have hczb151_3 : w165.cell? ⟨gb152, 3, none⟩ = some (.int .i64 t139) := (blk_cell BK153.out 3).trans rfl; have hfzb151_3 := blk_frozen BK153.out 3; have hczb151_4 : w165.cell? ⟨gb152, 4, none⟩ = some (.int .i64 t140) := (blk_cell BK153.out 4).trans rfl; have hfzb151_4 := blk_frozen BK153.out 4; have hczb151_5 : w165.cell? ⟨gb152, 5, none⟩ = some (.int .i64 t141) := (blk_cell BK153.out 5).trans rfl; have hfzb151_5 := blk_frozen BK153.out 5
  clear hb
  go_wp2_with fail
  go_ret
  exact ⟨rfl, HB.out⟩
end Go.Proofs.Ytjmgleomljfieaa.Q
