/- The law FnExactGoodCache of this seat: the walk along its one way. Conditions: none. -/
import Derived.Test.YtjmgleomljfieaaQx0
import Derived.Test.YtjmgleomljfieaaQx1
import Derived.Test.YtjmgleomljfieaaQx2
import Derived.Test.YtjmgleomljfieaaQx3
import Derived.Test.YtjmgleomljfieaaQx5
import Derived.Test.YtjmgleomljfieaaQx6
import Derived.Test.YtjmgleomljfieaaQx8
import Derived.Test.YtjmgleomljfieaaGoodFnExactGoodCache
import Derived.Test.YtjmgleomljfieaaLk
namespace Go.Proofs.Ytjmgleomljfieaa.Q
open Go.RowKit Go.Proofs.YtjmgleomljfieaaW.PrintWords Go.Proofs.YtjmgleomljfieaaW.PrintLast Go.Proofs.YtjmgleomljfieaaW.PrintMore
set_option linter.unusedVariables false
set_option linter.unusedSimpArgs false
open Lk in
set_option maxHeartbeats 8000000 in
set_option maxRecDepth 100000 in
theorem laws_FnExactGoodCache.calls (k : Nat) (A0_0 : Option Addr) (c0_0 : Nat) (l0_0 : List (S111)) (a0_1 : Int) (a1_0 : Int) (a1_1 : Int) (A1_2 : Option Addr) (c1_2 : Nat) (l1_2 : List (S117)) (a1_3 : Int) (a1_4 : Int) (a1_5 : Int) (r : Bool) (w : World) (hr0_0 : Kd.C k111 w A0_0 l0_0.length l0_0) (hc0_0 : l0_0.length ≤ c0_0) (hr1_2 : Kd.C k117 w A1_2 l1_2.length l1_2) (hc1_2 : l1_2.length ≤ c1_2) (h : laws_FnExactGoodCache.f k l0_0 a0_1 a1_0 a1_1 l1_2 a1_3 a1_4 a1_5 = some r) :
    Calls Try.prog 8 #[.agg #[.slice A0_0 l0_0.length c0_0, .int .i64 a0_1], .agg #[.int .i64 a1_0, .int .i64 a1_1, .slice A1_2 l1_2.length c1_2, .int .i64 a1_3, .int .i64 a1_4, .int .i64 a1_5]] w fun e w' => e = .returned (.bool r) ∧ Below w.heap.size w w' := by
  unfold laws_FnExactGoodCache.f at h
  split at h
  case isFalse => cases h
  rename_i hg
  obtain rfl := Option.some.inj h
  clear h
  have HR0_0 := Aside0.mk hr0_0
  have HC0_0 := Aside0.mk hc0_0
  clear hr0_0 hc0_0
  have HR1_2 := Aside0.mk hr1_2
  have HC1_2 := Aside0.mk hc1_2
  clear hr1_2 hc1_2
  have HB := Aside0.mk (Below.refl w.heap.size w)
  unfold laws_FnExactGoodCache.good at hg
  obtain ⟨t13, H140, hg⟩ := hg
  have H14 := Aside0.mk H140
  clear H140
  rcases hg with hs | ⟨hs, hg⟩
  · have hs1_ : decide (t13 < 0) = true := decide_eq_true hs
    clear hs
    go_enter Try.func8, Try.ntmps8
    go_wp2_with (first | ((with_reducible refine gate_dst (N := 2) rfl ?_); refine box_event ?hg (N := 2) ?hd (cs := #[.slice A0_0 l0_0.length c0_0, .int .i64 a0_1]) (t := 24) ?hr ?_; (case hd => rfl); (case hg => rfl); (case hr => first | (go_simp; done) | (go_simp; rfl)); intro gb2 hg_ w5 hx_ hb; have hg2_ : gb2 = w.heap.size := hg_; have hq_ : Below w.heap.size w w5 := ⟨hb.os, hb.tape, hb.output, hb.size, hb.block⟩; have HZ6 := Aside0.mk (show w.heap.size ≤ w5.heap.size from hq_.size); have hn_ := Aside0.mk (below_then HB.out HB.out.size hq_); clear HB; have HB := hn_; clear hn_; clear hq_; have BK3 := Aside0.mk hx_; have GQ4 := Aside0.mk (show w.heap.size ≤ gb2 ∧ gb2 < w5.heap.size from ⟨Nat.le_of_eq hg2_.symm, blk_lt hx_⟩); clear hb hg_ hg2_ hx_; have hczb1_0 : w5.cell? ⟨gb2, 0, none⟩ = some (.slice A0_0 l0_0.length c0_0) := (blk_cell BK3.out 0).trans rfl; have hfzb1_0 := blk_frozen BK3.out 0; have hczb1_1 : w5.cell? ⟨gb2, 1, none⟩ = some (.int .i64 a0_1) := (blk_cell BK3.out 1).trans rfl; have hfzb1_1 := blk_frozen BK3.out 1) | ((with_reducible refine gate_dst (N := 3) rfl ?_); refine box_event ?hg (N := 3) ?hd (cs := #[.int .i64 a1_0, .int .i64 a1_1, .slice A1_2 l1_2.length c1_2, .int .i64 a1_3, .int .i64 a1_4, .int .i64 a1_5]) (t := 52) ?hr ?_; (case hd => rfl); (case hg => rfl); (case hr => first | (go_simp; done) | (go_simp; rfl)); intro gb8 hg_ w11 hx_ hb; have hg2_ : gb8 = w5.heap.size := hg_; have hq_ : Below w5.heap.size w5 w11 := ⟨hb.os, hb.tape, hb.output, hb.size, hb.block⟩; have HZ12 := Aside0.mk (show w5.heap.size ≤ w11.heap.size from hq_.size); have hn_ := Aside0.mk (below_then HB.out HB.out.size hq_); clear HB; have HB := hn_; clear hn_; have hn_ := Aside0.mk (blk_below BK3.out hq_); clear hczb1_0 hfzb1_0; clear hczb1_1 hfzb1_1; clear BK3; have BK3 := hn_; clear hn_; clear hq_; have hczb1_0 : w11.cell? ⟨gb2, 0, none⟩ = some (.slice A0_0 l0_0.length c0_0) := (blk_cell BK3.out 0).trans rfl; have hfzb1_0 := blk_frozen BK3.out 0; have hczb1_1 : w11.cell? ⟨gb2, 1, none⟩ = some (.int .i64 a0_1) := (blk_cell BK3.out 1).trans rfl; have hfzb1_1 := blk_frozen BK3.out 1; have BK9 := Aside0.mk hx_; have GQ10 := Aside0.mk (show w5.heap.size ≤ gb8 ∧ gb8 < w11.heap.size from ⟨Nat.le_of_eq hg2_.symm, blk_lt hx_⟩); clear hb hg_ hg2_ hx_; have hczb7_0 : w11.cell? ⟨gb8, 0, none⟩ = some (.int .i64 a1_0) := (blk_cell BK9.out 0).trans rfl; have hfzb7_0 := blk_frozen BK9.out 0; have hczb7_1 : w11.cell? ⟨gb8, 1, none⟩ = some (.int .i64 a1_1) := (blk_cell BK9.out 1).trans rfl; have hfzb7_1 := blk_frozen BK9.out 1; have hczb7_2 : w11.cell? ⟨gb8, 2, none⟩ = some (.slice A1_2 l1_2.length c1_2) := (blk_cell BK9.out 2).trans rfl; have hfzb7_2 := blk_frozen BK9.out 2; have hczb7_3 : w11.cell? ⟨gb8, 3, none⟩ = some (.int .i64 a1_3) := (blk_cell BK9.out 3).trans rfl; have hfzb7_3 := blk_frozen BK9.out 3; have hczb7_4 : w11.cell? ⟨gb8, 4, none⟩ = some (.int .i64 a1_4) := (blk_cell BK9.out 4).trans rfl; have hfzb7_4 := blk_frozen BK9.out 4; have hczb7_5 : w11.cell? ⟨gb8, 5, none⟩ = some (.int .i64 a1_5) := (blk_cell BK9.out 5).trans rfl; have hfzb7_5 := blk_frozen BK9.out 5))
    refine (laws_szWorld.calls k _ _ l0_0 a0_1 1048576 t13 _ (Kd.C_below HR0_0.out HB.out) HC0_0.out H14.out).mono ?_
    rintro e_ w15 ⟨rfl, hb⟩
    have hq_ : Below w11.heap.size w11 w15 := ⟨hb.os, hb.tape, hb.output, hb.size, hb.block⟩
    have HZ16 := Aside0.mk (show w11.heap.size ≤ w15.heap.size from hq_.size)
    have hn_ := Aside0.mk (below_then HB.out HB.out.size hq_)
    clear HB
    have HB := hn_
    clear hn_
    have hn_ := Aside0.mk (blk_below BK3.out hq_)
    clear hczb1_0 hfzb1_0; clear hczb1_1 hfzb1_1
    clear BK3
    have BK3 := hn_
    clear hn_
    have hn_ := Aside0.mk (blk_below BK9.out hq_)
    clear hczb7_0 hfzb7_0; clear hczb7_1 hfzb7_1; clear hczb7_2 hfzb7_2; clear hczb7_3 hfzb7_3; clear hczb7_4 hfzb7_4; clear hczb7_5 hfzb7_5
    clear BK9
    have BK9 := hn_
    clear hn_
    clear hq_
    have hczb1_0 : w15.cell? ⟨gb2, 0, none⟩ = some (.slice A0_0 l0_0.length c0_0) := (blk_cell BK3.out 0).trans rfl; have hfzb1_0 := blk_frozen BK3.out 0; have hczb1_1 : w15.cell? ⟨gb2, 1, none⟩ = some (.int .i64 a0_1) := (blk_cell BK3.out 1).trans rfl; have hfzb1_1 := blk_frozen BK3.out 1
    have hczb7_0 : w15.cell? ⟨gb8, 0, none⟩ = some (.int .i64 a1_0) := (blk_cell BK9.out 0).trans rfl; have hfzb7_0 := blk_frozen BK9.out 0; have hczb7_1 : w15.cell? ⟨gb8, 1, none⟩ = some (.int .i64 a1_1) := (blk_cell BK9.out 1).trans rfl; have hfzb7_1 := blk_frozen BK9.out 1; have hczb7_2 : w15.cell? ⟨gb8, 2, none⟩ = some (.slice A1_2 l1_2.length c1_2) := (blk_cell BK9.out 2).trans rfl; have hfzb7_2 := blk_frozen BK9.out 2; have hczb7_3 : w15.cell? ⟨gb8, 3, none⟩ = some (.int .i64 a1_3) := (blk_cell BK9.out 3).trans rfl; have hfzb7_3 := blk_frozen BK9.out 3; have hczb7_4 : w15.cell? ⟨gb8, 4, none⟩ = some (.int .i64 a1_4) := (blk_cell BK9.out 4).trans rfl; have hfzb7_4 := blk_frozen BK9.out 4; have hczb7_5 : w15.cell? ⟨gb8, 5, none⟩ = some (.int .i64 a1_5) := (blk_cell BK9.out 5).trans rfl; have hfzb7_5 := blk_frozen BK9.out 5
    clear hb
    go_wp2_with fail
    go_ret
    exact ⟨rfl, HB.out⟩
  have hs2_ : decide (t13 < 0) = false := decide_eq_false hs
  clear hs
  obtain ⟨t17, H180, hg⟩ := hg
  have H18 := Aside0.mk H180
  clear H180
  rcases hg with hs | ⟨hs, hg⟩
  · have hs1_ : decide (t17 < 0) = true := decide_eq_true hs
    clear hs
    go_enter Try.func8, Try.ntmps8
    go_wp2_with (first | ((with_reducible refine gate_dst (N := 2) rfl ?_); refine box_event ?hg (N := 2) ?hd (cs := #[.slice A0_0 l0_0.length c0_0, .int .i64 a0_1]) (t := 24) ?hr ?_; (case hd => rfl); (case hg => rfl); (case hr => first | (go_simp; done) | (go_simp; rfl)); intro gb2 hg_ w5 hx_ hb; have hg2_ : gb2 = w.heap.size := hg_; have hq_ : Below w.heap.size w w5 := ⟨hb.os, hb.tape, hb.output, hb.size, hb.block⟩; have HZ6 := Aside0.mk (show w.heap.size ≤ w5.heap.size from hq_.size); have hn_ := Aside0.mk (below_then HB.out HB.out.size hq_); clear HB; have HB := hn_; clear hn_; clear hq_; have BK3 := Aside0.mk hx_; have GQ4 := Aside0.mk (show w.heap.size ≤ gb2 ∧ gb2 < w5.heap.size from ⟨Nat.le_of_eq hg2_.symm, blk_lt hx_⟩); clear hb hg_ hg2_ hx_; have hczb1_0 : w5.cell? ⟨gb2, 0, none⟩ = some (.slice A0_0 l0_0.length c0_0) := (blk_cell BK3.out 0).trans rfl; have hfzb1_0 := blk_frozen BK3.out 0; have hczb1_1 : w5.cell? ⟨gb2, 1, none⟩ = some (.int .i64 a0_1) := (blk_cell BK3.out 1).trans rfl; have hfzb1_1 := blk_frozen BK3.out 1) | ((with_reducible refine gate_dst (N := 3) rfl ?_); refine box_event ?hg (N := 3) ?hd (cs := #[.int .i64 a1_0, .int .i64 a1_1, .slice A1_2 l1_2.length c1_2, .int .i64 a1_3, .int .i64 a1_4, .int .i64 a1_5]) (t := 52) ?hr ?_; (case hd => rfl); (case hg => rfl); (case hr => first | (go_simp; done) | (go_simp; rfl)); intro gb8 hg_ w11 hx_ hb; have hg2_ : gb8 = w5.heap.size := hg_; have hq_ : Below w5.heap.size w5 w11 := ⟨hb.os, hb.tape, hb.output, hb.size, hb.block⟩; have HZ12 := Aside0.mk (show w5.heap.size ≤ w11.heap.size from hq_.size); have hn_ := Aside0.mk (below_then HB.out HB.out.size hq_); clear HB; have HB := hn_; clear hn_; have hn_ := Aside0.mk (blk_below BK3.out hq_); clear hczb1_0 hfzb1_0; clear hczb1_1 hfzb1_1; clear BK3; have BK3 := hn_; clear hn_; clear hq_; have hczb1_0 : w11.cell? ⟨gb2, 0, none⟩ = some (.slice A0_0 l0_0.length c0_0) := (blk_cell BK3.out 0).trans rfl; have hfzb1_0 := blk_frozen BK3.out 0; have hczb1_1 : w11.cell? ⟨gb2, 1, none⟩ = some (.int .i64 a0_1) := (blk_cell BK3.out 1).trans rfl; have hfzb1_1 := blk_frozen BK3.out 1; have BK9 := Aside0.mk hx_; have GQ10 := Aside0.mk (show w5.heap.size ≤ gb8 ∧ gb8 < w11.heap.size from ⟨Nat.le_of_eq hg2_.symm, blk_lt hx_⟩); clear hb hg_ hg2_ hx_; have hczb7_0 : w11.cell? ⟨gb8, 0, none⟩ = some (.int .i64 a1_0) := (blk_cell BK9.out 0).trans rfl; have hfzb7_0 := blk_frozen BK9.out 0; have hczb7_1 : w11.cell? ⟨gb8, 1, none⟩ = some (.int .i64 a1_1) := (blk_cell BK9.out 1).trans rfl; have hfzb7_1 := blk_frozen BK9.out 1; have hczb7_2 : w11.cell? ⟨gb8, 2, none⟩ = some (.slice A1_2 l1_2.length c1_2) := (blk_cell BK9.out 2).trans rfl; have hfzb7_2 := blk_frozen BK9.out 2; have hczb7_3 : w11.cell? ⟨gb8, 3, none⟩ = some (.int .i64 a1_3) := (blk_cell BK9.out 3).trans rfl; have hfzb7_3 := blk_frozen BK9.out 3; have hczb7_4 : w11.cell? ⟨gb8, 4, none⟩ = some (.int .i64 a1_4) := (blk_cell BK9.out 4).trans rfl; have hfzb7_4 := blk_frozen BK9.out 4; have hczb7_5 : w11.cell? ⟨gb8, 5, none⟩ = some (.int .i64 a1_5) := (blk_cell BK9.out 5).trans rfl; have hfzb7_5 := blk_frozen BK9.out 5))
    refine (laws_szWorld.calls k _ _ l0_0 a0_1 1048576 t13 _ (Kd.C_below HR0_0.out HB.out) HC0_0.out H14.out).mono ?_
    rintro e_ w15 ⟨rfl, hb⟩
    have hq_ : Below w11.heap.size w11 w15 := ⟨hb.os, hb.tape, hb.output, hb.size, hb.block⟩
    have HZ16 := Aside0.mk (show w11.heap.size ≤ w15.heap.size from hq_.size)
    have hn_ := Aside0.mk (below_then HB.out HB.out.size hq_)
    clear HB
    have HB := hn_
    clear hn_
    have hn_ := Aside0.mk (blk_below BK3.out hq_)
    clear hczb1_0 hfzb1_0; clear hczb1_1 hfzb1_1
    clear BK3
    have BK3 := hn_
    clear hn_
    have hn_ := Aside0.mk (blk_below BK9.out hq_)
    clear hczb7_0 hfzb7_0; clear hczb7_1 hfzb7_1; clear hczb7_2 hfzb7_2; clear hczb7_3 hfzb7_3; clear hczb7_4 hfzb7_4; clear hczb7_5 hfzb7_5
    clear BK9
    have BK9 := hn_
    clear hn_
    clear hq_
    have hczb1_0 : w15.cell? ⟨gb2, 0, none⟩ = some (.slice A0_0 l0_0.length c0_0) := (blk_cell BK3.out 0).trans rfl; have hfzb1_0 := blk_frozen BK3.out 0; have hczb1_1 : w15.cell? ⟨gb2, 1, none⟩ = some (.int .i64 a0_1) := (blk_cell BK3.out 1).trans rfl; have hfzb1_1 := blk_frozen BK3.out 1
    have hczb7_0 : w15.cell? ⟨gb8, 0, none⟩ = some (.int .i64 a1_0) := (blk_cell BK9.out 0).trans rfl; have hfzb7_0 := blk_frozen BK9.out 0; have hczb7_1 : w15.cell? ⟨gb8, 1, none⟩ = some (.int .i64 a1_1) := (blk_cell BK9.out 1).trans rfl; have hfzb7_1 := blk_frozen BK9.out 1; have hczb7_2 : w15.cell? ⟨gb8, 2, none⟩ = some (.slice A1_2 l1_2.length c1_2) := (blk_cell BK9.out 2).trans rfl; have hfzb7_2 := blk_frozen BK9.out 2; have hczb7_3 : w15.cell? ⟨gb8, 3, none⟩ = some (.int .i64 a1_3) := (blk_cell BK9.out 3).trans rfl; have hfzb7_3 := blk_frozen BK9.out 3; have hczb7_4 : w15.cell? ⟨gb8, 4, none⟩ = some (.int .i64 a1_4) := (blk_cell BK9.out 4).trans rfl; have hfzb7_4 := blk_frozen BK9.out 4; have hczb7_5 : w15.cell? ⟨gb8, 5, none⟩ = some (.int .i64 a1_5) := (blk_cell BK9.out 5).trans rfl; have hfzb7_5 := blk_frozen BK9.out 5
    clear hb
    go_wp2_with fail
    refine (laws_szCache.calls a1_0 a1_1 _ _ l1_2 a1_3 a1_4 a1_5 t13 t17 _ (Kd.C_below HR1_2.out HB.out) HC1_2.out H18.out).mono ?_
    rintro e_ w19 ⟨rfl, hb⟩
    have hq_ : Below w15.heap.size w15 w19 := ⟨hb.os, hb.tape, hb.output, hb.size, hb.block⟩
    have HZ20 := Aside0.mk (show w15.heap.size ≤ w19.heap.size from hq_.size)
    have hn_ := Aside0.mk (below_then HB.out HB.out.size hq_)
    clear HB
    have HB := hn_
    clear hn_
    have hn_ := Aside0.mk (blk_below BK3.out hq_)
    clear hczb1_0 hfzb1_0; clear hczb1_1 hfzb1_1
    clear BK3
    have BK3 := hn_
    clear hn_
    have hn_ := Aside0.mk (blk_below BK9.out hq_)
    clear hczb7_0 hfzb7_0; clear hczb7_1 hfzb7_1; clear hczb7_2 hfzb7_2; clear hczb7_3 hfzb7_3; clear hczb7_4 hfzb7_4; clear hczb7_5 hfzb7_5
    clear BK9
    have BK9 := hn_
    clear hn_
    clear hq_
    have hczb1_0 : w19.cell? ⟨gb2, 0, none⟩ = some (.slice A0_0 l0_0.length c0_0) := (blk_cell BK3.out 0).trans rfl; have hfzb1_0 := blk_frozen BK3.out 0; have hczb1_1 : w19.cell? ⟨gb2, 1, none⟩ = some (.int .i64 a0_1) := (blk_cell BK3.out 1).trans rfl; have hfzb1_1 := blk_frozen BK3.out 1
    have hczb7_0 : w19.cell? ⟨gb8, 0, none⟩ = some (.int .i64 a1_0) := (blk_cell BK9.out 0).trans rfl; have hfzb7_0 := blk_frozen BK9.out 0; have hczb7_1 : w19.cell? ⟨gb8, 1, none⟩ = some (.int .i64 a1_1) := (blk_cell BK9.out 1).trans rfl; have hfzb7_1 := blk_frozen BK9.out 1; have hczb7_2 : w19.cell? ⟨gb8, 2, none⟩ = some (.slice A1_2 l1_2.length c1_2) := (blk_cell BK9.out 2).trans rfl; have hfzb7_2 := blk_frozen BK9.out 2; have hczb7_3 : w19.cell? ⟨gb8, 3, none⟩ = some (.int .i64 a1_3) := (blk_cell BK9.out 3).trans rfl; have hfzb7_3 := blk_frozen BK9.out 3; have hczb7_4 : w19.cell? ⟨gb8, 4, none⟩ = some (.int .i64 a1_4) := (blk_cell BK9.out 4).trans rfl; have hfzb7_4 := blk_frozen BK9.out 4; have hczb7_5 : w19.cell? ⟨gb8, 5, none⟩ = some (.int .i64 a1_5) := (blk_cell BK9.out 5).trans rfl; have hfzb7_5 := blk_frozen BK9.out 5
    clear hb
    go_wp2_with fail
    go_ret
    exact ⟨rfl, HB.out⟩
  have hs3_ : decide (t17 < 0) = false := decide_eq_false hs
  clear hs
  obtain ⟨t23, t24, H250, t33, t34, t35, t36, t37, t38, H390, t47, H480, t51, t52, H530, t69, t70, t71, t72, t73, t74, H750, H920, t97, t98, H990, H1080, t113, t114, t115, t116, t117, t118, H1190, H1280, hg⟩ := hg
  have H25 := Aside0.mk H250
  clear H250
  have H39 := Aside0.mk H390
  clear H390
  have H48 := Aside0.mk H480
  clear H480
  have H53 := Aside0.mk H530
  clear H530
  have H75 := Aside0.mk H750
  clear H750
  have H92 := Aside0.mk H920
  clear H920
  have H99 := Aside0.mk H990
  clear H990
  have H108 := Aside0.mk H1080
  clear H1080
  have H119 := Aside0.mk H1190
  clear H1190
  have H128 := Aside0.mk H1280
  clear H1280
  clear hg
  go_enter Try.func8, Try.ntmps8
  go_wp2_with (first | ((with_reducible refine gate_dst (N := 2) rfl ?_); refine box_event ?hg (N := 2) ?hd (cs := #[.slice A0_0 l0_0.length c0_0, .int .i64 a0_1]) (t := 24) ?hr ?_; (case hd => rfl); (case hg => rfl); (case hr => first | (go_simp; done) | (go_simp; rfl)); intro gb2 hg_ w5 hx_ hb; have hg2_ : gb2 = w.heap.size := hg_; have hq_ : Below w.heap.size w w5 := ⟨hb.os, hb.tape, hb.output, hb.size, hb.block⟩; have HZ6 := Aside0.mk (show w.heap.size ≤ w5.heap.size from hq_.size); have hn_ := Aside0.mk (below_then HB.out HB.out.size hq_); clear HB; have HB := hn_; clear hn_; clear hq_; have BK3 := Aside0.mk hx_; have GQ4 := Aside0.mk (show w.heap.size ≤ gb2 ∧ gb2 < w5.heap.size from ⟨Nat.le_of_eq hg2_.symm, blk_lt hx_⟩); clear hb hg_ hg2_ hx_; have hczb1_0 : w5.cell? ⟨gb2, 0, none⟩ = some (.slice A0_0 l0_0.length c0_0) := (blk_cell BK3.out 0).trans rfl; have hfzb1_0 := blk_frozen BK3.out 0; have hczb1_1 : w5.cell? ⟨gb2, 1, none⟩ = some (.int .i64 a0_1) := (blk_cell BK3.out 1).trans rfl; have hfzb1_1 := blk_frozen BK3.out 1) | ((with_reducible refine gate_dst (N := 3) rfl ?_); refine box_event ?hg (N := 3) ?hd (cs := #[.int .i64 a1_0, .int .i64 a1_1, .slice A1_2 l1_2.length c1_2, .int .i64 a1_3, .int .i64 a1_4, .int .i64 a1_5]) (t := 52) ?hr ?_; (case hd => rfl); (case hg => rfl); (case hr => first | (go_simp; done) | (go_simp; rfl)); intro gb8 hg_ w11 hx_ hb; have hg2_ : gb8 = w5.heap.size := hg_; have hq_ : Below w5.heap.size w5 w11 := ⟨hb.os, hb.tape, hb.output, hb.size, hb.block⟩; have HZ12 := Aside0.mk (show w5.heap.size ≤ w11.heap.size from hq_.size); have hn_ := Aside0.mk (below_then HB.out HB.out.size hq_); clear HB; have HB := hn_; clear hn_; have hn_ := Aside0.mk (blk_below BK3.out hq_); clear hczb1_0 hfzb1_0; clear hczb1_1 hfzb1_1; clear BK3; have BK3 := hn_; clear hn_; clear hq_; have hczb1_0 : w11.cell? ⟨gb2, 0, none⟩ = some (.slice A0_0 l0_0.length c0_0) := (blk_cell BK3.out 0).trans rfl; have hfzb1_0 := blk_frozen BK3.out 0; have hczb1_1 : w11.cell? ⟨gb2, 1, none⟩ = some (.int .i64 a0_1) := (blk_cell BK3.out 1).trans rfl; have hfzb1_1 := blk_frozen BK3.out 1; have BK9 := Aside0.mk hx_; have GQ10 := Aside0.mk (show w5.heap.size ≤ gb8 ∧ gb8 < w11.heap.size from ⟨Nat.le_of_eq hg2_.symm, blk_lt hx_⟩); clear hb hg_ hg2_ hx_; have hczb7_0 : w11.cell? ⟨gb8, 0, none⟩ = some (.int .i64 a1_0) := (blk_cell BK9.out 0).trans rfl; have hfzb7_0 := blk_frozen BK9.out 0; have hczb7_1 : w11.cell? ⟨gb8, 1, none⟩ = some (.int .i64 a1_1) := (blk_cell BK9.out 1).trans rfl; have hfzb7_1 := blk_frozen BK9.out 1; have hczb7_2 : w11.cell? ⟨gb8, 2, none⟩ = some (.slice A1_2 l1_2.length c1_2) := (blk_cell BK9.out 2).trans rfl; have hfzb7_2 := blk_frozen BK9.out 2; have hczb7_3 : w11.cell? ⟨gb8, 3, none⟩ = some (.int .i64 a1_3) := (blk_cell BK9.out 3).trans rfl; have hfzb7_3 := blk_frozen BK9.out 3; have hczb7_4 : w11.cell? ⟨gb8, 4, none⟩ = some (.int .i64 a1_4) := (blk_cell BK9.out 4).trans rfl; have hfzb7_4 := blk_frozen BK9.out 4; have hczb7_5 : w11.cell? ⟨gb8, 5, none⟩ = some (.int .i64 a1_5) := (blk_cell BK9.out 5).trans rfl; have hfzb7_5 := blk_frozen BK9.out 5))
  refine (laws_szWorld.calls k _ _ l0_0 a0_1 1048576 t13 _ (Kd.C_below HR0_0.out HB.out) HC0_0.out H14.out).mono ?_
  rintro e_ w15 ⟨rfl, hb⟩
  have hq_ : Below w11.heap.size w11 w15 := ⟨hb.os, hb.tape, hb.output, hb.size, hb.block⟩
  have HZ16 := Aside0.mk (show w11.heap.size ≤ w15.heap.size from hq_.size)
  have hn_ := Aside0.mk (below_then HB.out HB.out.size hq_)
  clear HB
  have HB := hn_
  clear hn_
  have hn_ := Aside0.mk (blk_below BK3.out hq_)
  clear hczb1_0 hfzb1_0; clear hczb1_1 hfzb1_1
  clear BK3
  have BK3 := hn_
  clear hn_
  have hn_ := Aside0.mk (blk_below BK9.out hq_)
  clear hczb7_0 hfzb7_0; clear hczb7_1 hfzb7_1; clear hczb7_2 hfzb7_2; clear hczb7_3 hfzb7_3; clear hczb7_4 hfzb7_4; clear hczb7_5 hfzb7_5
  clear BK9
  have BK9 := hn_
  clear hn_
  clear hq_
  have hczb1_0 : w15.cell? ⟨gb2, 0, none⟩ = some (.slice A0_0 l0_0.length c0_0) := (blk_cell BK3.out 0).trans rfl; have hfzb1_0 := blk_frozen BK3.out 0; have hczb1_1 : w15.cell? ⟨gb2, 1, none⟩ = some (.int .i64 a0_1) := (blk_cell BK3.out 1).trans rfl; have hfzb1_1 := blk_frozen BK3.out 1
  have hczb7_0 : w15.cell? ⟨gb8, 0, none⟩ = some (.int .i64 a1_0) := (blk_cell BK9.out 0).trans rfl; have hfzb7_0 := blk_frozen BK9.out 0; have hczb7_1 : w15.cell? ⟨gb8, 1, none⟩ = some (.int .i64 a1_1) := (blk_cell BK9.out 1).trans rfl; have hfzb7_1 := blk_frozen BK9.out 1; have hczb7_2 : w15.cell? ⟨gb8, 2, none⟩ = some (.slice A1_2 l1_2.length c1_2) := (blk_cell BK9.out 2).trans rfl; have hfzb7_2 := blk_frozen BK9.out 2; have hczb7_3 : w15.cell? ⟨gb8, 3, none⟩ = some (.int .i64 a1_3) := (blk_cell BK9.out 3).trans rfl; have hfzb7_3 := blk_frozen BK9.out 3; have hczb7_4 : w15.cell? ⟨gb8, 4, none⟩ = some (.int .i64 a1_4) := (blk_cell BK9.out 4).trans rfl; have hfzb7_4 := blk_frozen BK9.out 4; have hczb7_5 : w15.cell? ⟨gb8, 5, none⟩ = some (.int .i64 a1_5) := (blk_cell BK9.out 5).trans rfl; have hfzb7_5 := blk_frozen BK9.out 5
  clear hb
  go_wp2_with fail
  refine (laws_szCache.calls a1_0 a1_1 _ _ l1_2 a1_3 a1_4 a1_5 t13 t17 _ (Kd.C_below HR1_2.out HB.out) HC1_2.out H18.out).mono ?_
  rintro e_ w19 ⟨rfl, hb⟩
  have hq_ : Below w15.heap.size w15 w19 := ⟨hb.os, hb.tape, hb.output, hb.size, hb.block⟩
  have HZ20 := Aside0.mk (show w15.heap.size ≤ w19.heap.size from hq_.size)
  have hn_ := Aside0.mk (below_then HB.out HB.out.size hq_)
  clear HB
  have HB := hn_
  clear hn_
  have hn_ := Aside0.mk (blk_below BK3.out hq_)
  clear hczb1_0 hfzb1_0; clear hczb1_1 hfzb1_1
  clear BK3
  have BK3 := hn_
  clear hn_
  have hn_ := Aside0.mk (blk_below BK9.out hq_)
  clear hczb7_0 hfzb7_0; clear hczb7_1 hfzb7_1; clear hczb7_2 hfzb7_2; clear hczb7_3 hfzb7_3; clear hczb7_4 hfzb7_4; clear hczb7_5 hfzb7_5
  clear BK9
  have BK9 := hn_
  clear hn_
  clear hq_
  have hczb1_0 : w19.cell? ⟨gb2, 0, none⟩ = some (.slice A0_0 l0_0.length c0_0) := (blk_cell BK3.out 0).trans rfl; have hfzb1_0 := blk_frozen BK3.out 0; have hczb1_1 : w19.cell? ⟨gb2, 1, none⟩ = some (.int .i64 a0_1) := (blk_cell BK3.out 1).trans rfl; have hfzb1_1 := blk_frozen BK3.out 1
  have hczb7_0 : w19.cell? ⟨gb8, 0, none⟩ = some (.int .i64 a1_0) := (blk_cell BK9.out 0).trans rfl; have hfzb7_0 := blk_frozen BK9.out 0; have hczb7_1 : w19.cell? ⟨gb8, 1, none⟩ = some (.int .i64 a1_1) := (blk_cell BK9.out 1).trans rfl; have hfzb7_1 := blk_frozen BK9.out 1; have hczb7_2 : w19.cell? ⟨gb8, 2, none⟩ = some (.slice A1_2 l1_2.length c1_2) := (blk_cell BK9.out 2).trans rfl; have hfzb7_2 := blk_frozen BK9.out 2; have hczb7_3 : w19.cell? ⟨gb8, 3, none⟩ = some (.int .i64 a1_3) := (blk_cell BK9.out 3).trans rfl; have hfzb7_3 := blk_frozen BK9.out 3; have hczb7_4 : w19.cell? ⟨gb8, 4, none⟩ = some (.int .i64 a1_4) := (blk_cell BK9.out 4).trans rfl; have hfzb7_4 := blk_frozen BK9.out 4; have hczb7_5 : w19.cell? ⟨gb8, 5, none⟩ = some (.int .i64 a1_5) := (blk_cell BK9.out 5).trans rfl; have hfzb7_5 := blk_frozen BK9.out 5
  clear hb
  go_wp2_with fail
  have hb : Below w19.heap.size w19 w19.drew := below_drew (Below.refl _ _)
  obtain ⟨w21, hw_⟩ : ∃ w21, w19.drew = w21 := ⟨_, rfl⟩
  rw [hw_] at hb
  have hq_ : Below w19.heap.size w19 w21 := ⟨hb.os, hb.tape, hb.output, hb.size, hb.block⟩
  have HZ22 := Aside0.mk (show w19.heap.size ≤ w21.heap.size from hq_.size)
  have hn_ := Aside0.mk (below_then HB.out HB.out.size hq_)
  clear HB
  have HB := hn_
  clear hn_
  have hn_ := Aside0.mk (blk_below BK3.out hq_)
  clear hczb1_0 hfzb1_0; clear hczb1_1 hfzb1_1
  clear BK3
  have BK3 := hn_
  clear hn_
  have hn_ := Aside0.mk (blk_below BK9.out hq_)
  clear hczb7_0 hfzb7_0; clear hczb7_1 hfzb7_1; clear hczb7_2 hfzb7_2; clear hczb7_3 hfzb7_3; clear hczb7_4 hfzb7_4; clear hczb7_5 hfzb7_5
  clear BK9
  have BK9 := hn_
  clear hn_
  clear hq_
  have hczb1_0 : w21.cell? ⟨gb2, 0, none⟩ = some (.slice A0_0 l0_0.length c0_0) := (blk_cell BK3.out 0).trans rfl; have hfzb1_0 := blk_frozen BK3.out 0; have hczb1_1 : w21.cell? ⟨gb2, 1, none⟩ = some (.int .i64 a0_1) := (blk_cell BK3.out 1).trans rfl; have hfzb1_1 := blk_frozen BK3.out 1
  have hczb7_0 : w21.cell? ⟨gb8, 0, none⟩ = some (.int .i64 a1_0) := (blk_cell BK9.out 0).trans rfl; have hfzb7_0 := blk_frozen BK9.out 0; have hczb7_1 : w21.cell? ⟨gb8, 1, none⟩ = some (.int .i64 a1_1) := (blk_cell BK9.out 1).trans rfl; have hfzb7_1 := blk_frozen BK9.out 1; have hczb7_2 : w21.cell? ⟨gb8, 2, none⟩ = some (.slice A1_2 l1_2.length c1_2) := (blk_cell BK9.out 2).trans rfl; have hfzb7_2 := blk_frozen BK9.out 2; have hczb7_3 : w21.cell? ⟨gb8, 3, none⟩ = some (.int .i64 a1_3) := (blk_cell BK9.out 3).trans rfl; have hfzb7_3 := blk_frozen BK9.out 3; have hczb7_4 : w21.cell? ⟨gb8, 4, none⟩ = some (.int .i64 a1_4) := (blk_cell BK9.out 4).trans rfl; have hfzb7_4 := blk_frozen BK9.out 4; have hczb7_5 : w21.cell? ⟨gb8, 5, none⟩ = some (.int .i64 a1_5) := (blk_cell BK9.out 5).trans rfl; have hfzb7_5 := blk_frozen BK9.out 5
  refine start_ (n := 6) (S := fun w' => w'.cell? ⟨gb2, 0, none⟩ = some (.slice A0_0 l0_0.length c0_0) ∧ w'.cell? ⟨gb2, 1, none⟩ = some (.int .i64 a0_1) ∧ w'.cell? ⟨gb8, 0, none⟩ = some (.int .i64 a1_0) ∧ w'.cell? ⟨gb8, 1, none⟩ = some (.int .i64 a1_1) ∧ w'.cell? ⟨gb8, 2, none⟩ = some (.slice A1_2 l1_2.length c1_2) ∧ w'.cell? ⟨gb8, 3, none⟩ = some (.int .i64 a1_3) ∧ w'.cell? ⟨gb8, 4, none⟩ = some (.int .i64 a1_4) ∧ w'.cell? ⟨gb8, 5, none⟩ = some (.int .i64 a1_5)) (ds := []) #[false, false, false, false, false, false] (by kernel_rfl) rfl rfl (by rw [hw_]; exact ⟨(blk_cell BK3.out 0).trans rfl, (blk_cell BK3.out 1).trans rfl, (blk_cell BK9.out 0).trans rfl, (blk_cell BK9.out 1).trans rfl, (blk_cell BK9.out 2).trans rfl, (blk_cell BK9.out 3).trans rfl, (blk_cell BK9.out 4).trans rfl, (blk_cell BK9.out 5).trans rfl⟩) (fun hHeld => ?_)
  rw [hw_] at hHeld ⊢
  clear hw_ hb
  refine take_ (i := 0) (N := some 20) (v := ?_) (a' := ?_) #[true, false, false, false, false, false] rfl rfl (by kernel_rfl) (fun _ _ _ h => h) (Or.inl ⟨by rfl, ?_⟩) hHeld ?_ ?_
  rotate_left
  · rintro w' ⟨s0, s1, s2, s3, s4, s5, s6, s7⟩
    go_simp
    with_reducible rfl
  rotate_left
  · simp only [Act.put, List.setIfInBounds_toArray, List.set_cons_zero, List.set_cons_succ, i64_w, i32_w]
    rfl
  refine take_ (i := 2) (N := some 22) (v := ?_) (a' := ?_) #[true, false, true, false, false, false] rfl rfl (by kernel_rfl) (fun _ _ _ h => h) (Or.inl ⟨by rfl, ?_⟩) hHeld ?_ ?_
  rotate_left
  · rintro w' ⟨s0, s1, s2, s3, s4, s5, s6, s7⟩
    go_simp
    with_reducible rfl
  rotate_left
  · simp only [Act.put, List.setIfInBounds_toArray, List.set_cons_zero, List.set_cons_succ, i64_w, i32_w]
    rfl
  refine one_ (i := 1) (N := some 21) #[true, true, true, false, false, false] rfl rfl (by kernel_rfl) (by decide) (fun K hK => ?_)
  refine goes_ Try.func15 (by kernel_rfl) rfl #[.agg #[.slice A0_0 l0_0.length c0_0, .int .i64 a0_1]] (by rfl) rfl rfl (by (try simp only [List.map_toArray, List.map_cons, List.map_nil]); first | done | rfl | (simp only [List.length_drop, List.length_take]; rfl)) ?_
  refine (laws_toWorld.calls k _ _ l0_0 a0_1 t23 t24 _ (Kd.C_below HR0_0.out HB.out) HC0_0.out H25.out).mono ?_
  rintro e_ w26 ⟨v27, rfl, f28, hb⟩
  have hq_ : Below w21.heap.size w21 w26 := ⟨hb.os, hb.tape, hb.output, hb.size, hb.block⟩
  have HZ29 := Aside0.mk (show w21.heap.size ≤ w26.heap.size from hq_.size)
  have hn_ := Aside0.mk (below_then HB.out HB.out.size hq_)
  clear HB
  have HB := hn_
  clear hn_
  have hn_ := Aside0.mk (blk_below BK3.out hq_)
  clear hczb1_0 hfzb1_0; clear hczb1_1 hfzb1_1
  clear BK3
  have BK3 := hn_
  clear hn_
  have hn_ := Aside0.mk (blk_below BK9.out hq_)
  clear hczb7_0 hfzb7_0; clear hczb7_1 hfzb7_1; clear hczb7_2 hfzb7_2; clear hczb7_3 hfzb7_3; clear hczb7_4 hfzb7_4; clear hczb7_5 hfzb7_5
  clear BK9
  have BK9 := hn_
  clear hn_
  clear hq_
  have hczb1_0 : w26.cell? ⟨gb2, 0, none⟩ = some (.slice A0_0 l0_0.length c0_0) := (blk_cell BK3.out 0).trans rfl; have hfzb1_0 := blk_frozen BK3.out 0; have hczb1_1 : w26.cell? ⟨gb2, 1, none⟩ = some (.int .i64 a0_1) := (blk_cell BK3.out 1).trans rfl; have hfzb1_1 := blk_frozen BK3.out 1
  have hczb7_0 : w26.cell? ⟨gb8, 0, none⟩ = some (.int .i64 a1_0) := (blk_cell BK9.out 0).trans rfl; have hfzb7_0 := blk_frozen BK9.out 0; have hczb7_1 : w26.cell? ⟨gb8, 1, none⟩ = some (.int .i64 a1_1) := (blk_cell BK9.out 1).trans rfl; have hfzb7_1 := blk_frozen BK9.out 1; have hczb7_2 : w26.cell? ⟨gb8, 2, none⟩ = some (.slice A1_2 l1_2.length c1_2) := (blk_cell BK9.out 2).trans rfl; have hfzb7_2 := blk_frozen BK9.out 2; have hczb7_3 : w26.cell? ⟨gb8, 3, none⟩ = some (.int .i64 a1_3) := (blk_cell BK9.out 3).trans rfl; have hfzb7_3 := blk_frozen BK9.out 3; have hczb7_4 : w26.cell? ⟨gb8, 4, none⟩ = some (.int .i64 a1_4) := (blk_cell BK9.out 4).trans rfl; have hfzb7_4 := blk_frozen BK9.out 4; have hczb7_5 : w26.cell? ⟨gb8, 5, none⟩ = some (.int .i64 a1_5) := (blk_cell BK9.out 5).trans rfl; have hfzb7_5 := blk_frozen BK9.out 5
  clear hb
  refine ⟨_, rfl, ?_⟩
  have F30 := Aside0.mk (Lk.newS (b := w21.heap.size) (base := w.heap.size) (Sep := fun k_ => True) f28 (by have := HZ6.out; have := HZ12.out; have := HZ16.out; have := HZ20.out; have := HZ22.out; have := HZ29.out; omega) (fun k_ hk_ => hk_))
  clear f28
  obtain ⟨A31, c32, e_⟩ := Kd.S_slice F30.out
  subst e_
  refine hK.out _ _ ⟨(blk_cell BK3.out 0).trans rfl, (blk_cell BK3.out 1).trans rfl, (blk_cell BK9.out 0).trans rfl, (blk_cell BK9.out 1).trans rfl, (blk_cell BK9.out 2).trans rfl, (blk_cell BK9.out 3).trans rfl, (blk_cell BK9.out 4).trans rfl, (blk_cell BK9.out 5).trans rfl⟩ (fun hHeld => ?_)
  clear hK K
  refine norm_ (a' := ?_) ?_ ?_
  rotate_left
  · show Act.put _ (some 21) _ = _
    simp only [Act.put, List.setIfInBounds_toArray, List.set_cons_zero, List.set_cons_succ, i64_w, i32_w]
    rfl
  refine one_ (i := 3) (N := some 23) #[true, true, true, true, false, false] rfl rfl (by kernel_rfl) (by decide) (fun K hK => ?_)
  refine goes_ Try.func33 (by kernel_rfl) rfl #[.agg #[.int .i64 a1_0, .int .i64 a1_1, .slice A1_2 l1_2.length c1_2, .int .i64 a1_3, .int .i64 a1_4, .int .i64 a1_5]] (by rfl) rfl rfl (by (try simp only [List.map_toArray, List.map_cons, List.map_nil]); first | done | rfl | (simp only [List.length_drop, List.length_take]; rfl)) ?_
  refine (laws_toCache.calls k a1_0 a1_1 _ _ l1_2 a1_3 a1_4 a1_5 t33 t34 t35 t36 t37 t38 _ (Kd.C_below HR1_2.out HB.out) HC1_2.out H39.out).mono ?_
  rintro e_ w40 ⟨v41, rfl, f42, hb⟩
  have hq_ : Below w26.heap.size w26 w40 := ⟨hb.os, hb.tape, hb.output, hb.size, hb.block⟩
  have HZ43 := Aside0.mk (show w26.heap.size ≤ w40.heap.size from hq_.size)
  have hn_ := Aside0.mk (below_then HB.out HB.out.size hq_)
  clear HB
  have HB := hn_
  clear hn_
  have hn_ := Aside0.mk (Kd.S_below F30.out hq_)
  clear F30
  have F30 := hn_
  clear hn_
  have hn_ := Aside0.mk (blk_below BK3.out hq_)
  clear hczb1_0 hfzb1_0; clear hczb1_1 hfzb1_1
  clear BK3
  have BK3 := hn_
  clear hn_
  have hn_ := Aside0.mk (blk_below BK9.out hq_)
  clear hczb7_0 hfzb7_0; clear hczb7_1 hfzb7_1; clear hczb7_2 hfzb7_2; clear hczb7_3 hfzb7_3; clear hczb7_4 hfzb7_4; clear hczb7_5 hfzb7_5
  clear BK9
  have BK9 := hn_
  clear hn_
  clear hq_
  have hczb1_0 : w40.cell? ⟨gb2, 0, none⟩ = some (.slice A0_0 l0_0.length c0_0) := (blk_cell BK3.out 0).trans rfl; have hfzb1_0 := blk_frozen BK3.out 0; have hczb1_1 : w40.cell? ⟨gb2, 1, none⟩ = some (.int .i64 a0_1) := (blk_cell BK3.out 1).trans rfl; have hfzb1_1 := blk_frozen BK3.out 1
  have hczb7_0 : w40.cell? ⟨gb8, 0, none⟩ = some (.int .i64 a1_0) := (blk_cell BK9.out 0).trans rfl; have hfzb7_0 := blk_frozen BK9.out 0; have hczb7_1 : w40.cell? ⟨gb8, 1, none⟩ = some (.int .i64 a1_1) := (blk_cell BK9.out 1).trans rfl; have hfzb7_1 := blk_frozen BK9.out 1; have hczb7_2 : w40.cell? ⟨gb8, 2, none⟩ = some (.slice A1_2 l1_2.length c1_2) := (blk_cell BK9.out 2).trans rfl; have hfzb7_2 := blk_frozen BK9.out 2; have hczb7_3 : w40.cell? ⟨gb8, 3, none⟩ = some (.int .i64 a1_3) := (blk_cell BK9.out 3).trans rfl; have hfzb7_3 := blk_frozen BK9.out 3; have hczb7_4 : w40.cell? ⟨gb8, 4, none⟩ = some (.int .i64 a1_4) := (blk_cell BK9.out 4).trans rfl; have hfzb7_4 := blk_frozen BK9.out 4; have hczb7_5 : w40.cell? ⟨gb8, 5, none⟩ = some (.int .i64 a1_5) := (blk_cell BK9.out 5).trans rfl; have hfzb7_5 := blk_frozen BK9.out 5
  clear hb
  refine ⟨_, rfl, ?_⟩
  have F44 := Aside0.mk (Lk.newR (b := w26.heap.size) (base := w.heap.size) (Sep := fun k_ => True) rfl f42 (by have := HZ6.out; have := HZ12.out; have := HZ16.out; have := HZ20.out; have := HZ22.out; have := HZ29.out; have := HZ43.out; omega) (fun k_ hk_ => hk_))
  clear f42
  obtain ⟨A45, c46, e_⟩ := Kd.R_slice F44.out
  subst e_
  refine hK.out _ _ ⟨(blk_cell BK3.out 0).trans rfl, (blk_cell BK3.out 1).trans rfl, (blk_cell BK9.out 0).trans rfl, (blk_cell BK9.out 1).trans rfl, (blk_cell BK9.out 2).trans rfl, (blk_cell BK9.out 3).trans rfl, (blk_cell BK9.out 4).trans rfl, (blk_cell BK9.out 5).trans rfl⟩ (fun hHeld => ?_)
  clear hK K
  refine norm_ (a' := ?_) ?_ ?_
  rotate_left
  · show Act.put _ (some 23) _ = _
    simp only [Act.put, List.setIfInBounds_toArray, List.set_cons_zero, List.set_cons_succ, i64_w, i32_w]
    rfl
  refine one_ (i := 4) (N := some 24) #[true, true, true, true, true, false] rfl rfl (by kernel_rfl) (by decide) (fun K hK => ?_)
  refine goes_ Try.func32 (by kernel_rfl) rfl #[.agg #[.slice A31 t23.length c32, .int .i64 t24], .agg #[.int .i64 t33, .int .i64 t34, .slice A45 t35.length c46, .int .i64 t36, .int .i64 t37, .int .i64 t38]] (by rfl) rfl rfl (by (try simp only [List.map_toArray, List.map_cons, List.map_nil]); first | done | rfl | (simp only [List.length_drop, List.length_take]; rfl)) ?_
  refine (spec_GoodCache.calls k _ _ t23 t24 t33 t34 _ _ t35 t36 t37 t38 t47 _ (Lk.Sr F30.out).2 (Lk.Sr F30.out).1 (Lk.Rr F44.out).2 (Lk.Rr F44.out).1 H48.out).mono ?_
  rintro e_ w49 ⟨rfl, hb⟩
  have hq_ : Below w40.heap.size w40 w49 := ⟨hb.os, hb.tape, hb.output, hb.size, hb.block⟩
  have HZ50 := Aside0.mk (show w40.heap.size ≤ w49.heap.size from hq_.size)
  have hn_ := Aside0.mk (below_then HB.out HB.out.size hq_)
  clear HB
  have HB := hn_
  clear hn_
  have hn_ := Aside0.mk (Kd.S_below F30.out hq_)
  clear F30
  have F30 := hn_
  clear hn_
  have hn_ := Aside0.mk (Kd.R_below F44.out hq_)
  clear F44
  have F44 := hn_
  clear hn_
  have hn_ := Aside0.mk (blk_below BK3.out hq_)
  clear hczb1_0 hfzb1_0; clear hczb1_1 hfzb1_1
  clear BK3
  have BK3 := hn_
  clear hn_
  have hn_ := Aside0.mk (blk_below BK9.out hq_)
  clear hczb7_0 hfzb7_0; clear hczb7_1 hfzb7_1; clear hczb7_2 hfzb7_2; clear hczb7_3 hfzb7_3; clear hczb7_4 hfzb7_4; clear hczb7_5 hfzb7_5
  clear BK9
  have BK9 := hn_
  clear hn_
  clear hq_
  have hczb1_0 : w49.cell? ⟨gb2, 0, none⟩ = some (.slice A0_0 l0_0.length c0_0) := (blk_cell BK3.out 0).trans rfl; have hfzb1_0 := blk_frozen BK3.out 0; have hczb1_1 : w49.cell? ⟨gb2, 1, none⟩ = some (.int .i64 a0_1) := (blk_cell BK3.out 1).trans rfl; have hfzb1_1 := blk_frozen BK3.out 1
  have hczb7_0 : w49.cell? ⟨gb8, 0, none⟩ = some (.int .i64 a1_0) := (blk_cell BK9.out 0).trans rfl; have hfzb7_0 := blk_frozen BK9.out 0; have hczb7_1 : w49.cell? ⟨gb8, 1, none⟩ = some (.int .i64 a1_1) := (blk_cell BK9.out 1).trans rfl; have hfzb7_1 := blk_frozen BK9.out 1; have hczb7_2 : w49.cell? ⟨gb8, 2, none⟩ = some (.slice A1_2 l1_2.length c1_2) := (blk_cell BK9.out 2).trans rfl; have hfzb7_2 := blk_frozen BK9.out 2; have hczb7_3 : w49.cell? ⟨gb8, 3, none⟩ = some (.int .i64 a1_3) := (blk_cell BK9.out 3).trans rfl; have hfzb7_3 := blk_frozen BK9.out 3; have hczb7_4 : w49.cell? ⟨gb8, 4, none⟩ = some (.int .i64 a1_4) := (blk_cell BK9.out 4).trans rfl; have hfzb7_4 := blk_frozen BK9.out 4; have hczb7_5 : w49.cell? ⟨gb8, 5, none⟩ = some (.int .i64 a1_5) := (blk_cell BK9.out 5).trans rfl; have hfzb7_5 := blk_frozen BK9.out 5
  clear hb
  refine ⟨_, rfl, ?_⟩
  refine hK.out _ _ ⟨(blk_cell BK3.out 0).trans rfl, (blk_cell BK3.out 1).trans rfl, (blk_cell BK9.out 0).trans rfl, (blk_cell BK9.out 1).trans rfl, (blk_cell BK9.out 2).trans rfl, (blk_cell BK9.out 3).trans rfl, (blk_cell BK9.out 4).trans rfl, (blk_cell BK9.out 5).trans rfl⟩ (fun hHeld => ?_)
  clear hK K
  refine norm_ (a' := ?_) ?_ ?_
  rotate_left
  · show Act.put _ (some 24) _ = _
    simp only [Act.put, List.setIfInBounds_toArray, List.set_cons_zero, List.set_cons_succ, i64_w, i32_w]
    rfl
  refine pure_ (i := 5) (N := some 6) (v := ?_) (a' := ?_) #[true, true, true, true, true, true] rfl rfl (by kernel_rfl) (fun _ _ _ h => h) (Or.inl ⟨by rfl, ?_⟩) ?_ ?_
  rotate_left
  · intro w'
    go_simp
    with_reducible rfl
  rotate_left
  · simp only [Act.put, List.setIfInBounds_toArray, List.set_cons_zero, List.set_cons_succ, i64_w, i32_w]
    rfl
  refine done_ (by kernel_rfl) ?_
  go_wp2_with fail
  refine (laws_toWorld.calls k _ _ l0_0 a0_1 t51 t52 _ (Kd.C_below HR0_0.out HB.out) HC0_0.out H53.out).mono ?_
  rintro e_ w54 ⟨v55, rfl, f56, hb⟩
  have hq_ : Below w49.heap.size w49 w54 := ⟨hb.os, hb.tape, hb.output, hb.size, hb.block⟩
  have HZ57 := Aside0.mk (show w49.heap.size ≤ w54.heap.size from hq_.size)
  have hn_ := Aside0.mk (below_then HB.out HB.out.size hq_)
  clear HB
  have HB := hn_
  clear hn_
  have hn_ := Aside0.mk (Kd.S_below F30.out hq_)
  clear F30
  have F30 := hn_
  clear hn_
  have hn_ := Aside0.mk (Kd.R_below F44.out hq_)
  clear F44
  have F44 := hn_
  clear hn_
  have hn_ := Aside0.mk (blk_below BK3.out hq_)
  clear hczb1_0 hfzb1_0; clear hczb1_1 hfzb1_1
  clear BK3
  have BK3 := hn_
  clear hn_
  have hn_ := Aside0.mk (blk_below BK9.out hq_)
  clear hczb7_0 hfzb7_0; clear hczb7_1 hfzb7_1; clear hczb7_2 hfzb7_2; clear hczb7_3 hfzb7_3; clear hczb7_4 hfzb7_4; clear hczb7_5 hfzb7_5
  clear BK9
  have BK9 := hn_
  clear hn_
  clear hq_
  have hczb1_0 : w54.cell? ⟨gb2, 0, none⟩ = some (.slice A0_0 l0_0.length c0_0) := (blk_cell BK3.out 0).trans rfl; have hfzb1_0 := blk_frozen BK3.out 0; have hczb1_1 : w54.cell? ⟨gb2, 1, none⟩ = some (.int .i64 a0_1) := (blk_cell BK3.out 1).trans rfl; have hfzb1_1 := blk_frozen BK3.out 1
  have hczb7_0 : w54.cell? ⟨gb8, 0, none⟩ = some (.int .i64 a1_0) := (blk_cell BK9.out 0).trans rfl; have hfzb7_0 := blk_frozen BK9.out 0; have hczb7_1 : w54.cell? ⟨gb8, 1, none⟩ = some (.int .i64 a1_1) := (blk_cell BK9.out 1).trans rfl; have hfzb7_1 := blk_frozen BK9.out 1; have hczb7_2 : w54.cell? ⟨gb8, 2, none⟩ = some (.slice A1_2 l1_2.length c1_2) := (blk_cell BK9.out 2).trans rfl; have hfzb7_2 := blk_frozen BK9.out 2; have hczb7_3 : w54.cell? ⟨gb8, 3, none⟩ = some (.int .i64 a1_3) := (blk_cell BK9.out 3).trans rfl; have hfzb7_3 := blk_frozen BK9.out 3; have hczb7_4 : w54.cell? ⟨gb8, 4, none⟩ = some (.int .i64 a1_4) := (blk_cell BK9.out 4).trans rfl; have hfzb7_4 := blk_frozen BK9.out 4; have hczb7_5 : w54.cell? ⟨gb8, 5, none⟩ = some (.int .i64 a1_5) := (blk_cell BK9.out 5).trans rfl; have hfzb7_5 := blk_frozen BK9.out 5
  clear hb
  have F58 := Aside0.mk (Lk.newS (b := w49.heap.size) (base := w.heap.size) (Sep := fun k_ => True) f56 (by have := HZ6.out; have := HZ12.out; have := HZ16.out; have := HZ20.out; have := HZ22.out; have := HZ29.out; have := HZ43.out; have := HZ50.out; have := HZ57.out; omega) (fun k_ hk_ => hk_))
  clear f56
  obtain ⟨A59, c60, e_⟩ := Kd.S_slice F58.out
  subst e_
  go_wp2_with (first | ((with_reducible refine gate_dst (N := 7) rfl ?_); refine box_event ?hg (N := 7) ?hd (cs := #[.slice none 0 0, .int .i64 0]) (t := 29) ?hr ?_; (case hd => rfl); (case hg => rfl); (case hr => first | (go_simp; done) | (go_simp; rfl)); intro gb62 hg_ w65 hx_ hb; have hg2_ : gb62 = w54.heap.size := hg_; have hq_ : Below w54.heap.size w54 w65 := ⟨hb.os, hb.tape, hb.output, hb.size, hb.block⟩; have HZ66 := Aside0.mk (show w54.heap.size ≤ w65.heap.size from hq_.size); have hn_ := Aside0.mk (below_then HB.out HB.out.size hq_); clear HB; have HB := hn_; clear hn_; have hn_ := Aside0.mk (Kd.S_below F30.out hq_); clear F30; have F30 := hn_; clear hn_; have hn_ := Aside0.mk (Kd.R_below F44.out hq_); clear F44; have F44 := hn_; clear hn_; have hn_ := Aside0.mk (Kd.S_below F58.out hq_); clear F58; have F58 := hn_; clear hn_; have hn_ := Aside0.mk (blk_below BK3.out hq_); clear hczb1_0 hfzb1_0; clear hczb1_1 hfzb1_1; clear BK3; have BK3 := hn_; clear hn_; have hn_ := Aside0.mk (blk_below BK9.out hq_); clear hczb7_0 hfzb7_0; clear hczb7_1 hfzb7_1; clear hczb7_2 hfzb7_2; clear hczb7_3 hfzb7_3; clear hczb7_4 hfzb7_4; clear hczb7_5 hfzb7_5; clear BK9; have BK9 := hn_; clear hn_; clear hq_; have hczb1_0 : w65.cell? ⟨gb2, 0, none⟩ = some (.slice A0_0 l0_0.length c0_0) := (blk_cell BK3.out 0).trans rfl; have hfzb1_0 := blk_frozen BK3.out 0; have hczb1_1 : w65.cell? ⟨gb2, 1, none⟩ = some (.int .i64 a0_1) := (blk_cell BK3.out 1).trans rfl; have hfzb1_1 := blk_frozen BK3.out 1; have hczb7_0 : w65.cell? ⟨gb8, 0, none⟩ = some (.int .i64 a1_0) := (blk_cell BK9.out 0).trans rfl; have hfzb7_0 := blk_frozen BK9.out 0; have hczb7_1 : w65.cell? ⟨gb8, 1, none⟩ = some (.int .i64 a1_1) := (blk_cell BK9.out 1).trans rfl; have hfzb7_1 := blk_frozen BK9.out 1; have hczb7_2 : w65.cell? ⟨gb8, 2, none⟩ = some (.slice A1_2 l1_2.length c1_2) := (blk_cell BK9.out 2).trans rfl; have hfzb7_2 := blk_frozen BK9.out 2; have hczb7_3 : w65.cell? ⟨gb8, 3, none⟩ = some (.int .i64 a1_3) := (blk_cell BK9.out 3).trans rfl; have hfzb7_3 := blk_frozen BK9.out 3; have hczb7_4 : w65.cell? ⟨gb8, 4, none⟩ = some (.int .i64 a1_4) := (blk_cell BK9.out 4).trans rfl; have hfzb7_4 := blk_frozen BK9.out 4; have hczb7_5 : w65.cell? ⟨gb8, 5, none⟩ = some (.int .i64 a1_5) := (blk_cell BK9.out 5).trans rfl; have hfzb7_5 := blk_frozen BK9.out 5; have BK63 := Aside0.mk hx_; have GQ64 := Aside0.mk (show w54.heap.size ≤ gb62 ∧ gb62 < w65.heap.size from ⟨Nat.le_of_eq hg2_.symm, blk_lt hx_⟩); clear hb hg_ hg2_ hx_; have hczb61_0 : w65.cell? ⟨gb62, 0, none⟩ = some (.slice none 0 0) := (blk_cell BK63.out 0).trans rfl; have hfzb61_0 := blk_frozen BK63.out 0; have hczb61_1 : w65.cell? ⟨gb62, 1, none⟩ = some (.int .i64 0) := (blk_cell BK63.out 1).trans rfl; have hfzb61_1 := blk_frozen BK63.out 1) | ((with_reducible refine gate_store (t := 29) (p := 7) rfl ?_); refine store_event (t := 29) (p := 7) (v := ?vo_w67) (w1 := ((w65.setCell ⟨gb62, 0, none⟩ (.slice A59 t51.length c60)).setCell ⟨gb62, 1, none⟩ (.int .i64 t52))) ?hg ?ho ?hn ?hr ?_; (case ho => rfl); (case hg => rfl); (case hn => rfl); (case hr => first | (go_simp; done) | (go_simp; rfl)); intro w67 hw_; have hx_ : w67.heap[gb62]? = some (.cells #[(.slice A59 t51.length c60), (.int .i64 t52)] 29 (0, 0)) := (by rw [hw_]; exact Lk.filled (us := [(.slice A59 t51.length c60), (.int .i64 t52)]) BK63.out rfl); have hk2_ : Kept w65 w67 (fun k_ => k_ = gb62) := (by rw [hw_]; exact Lk.fill_kept [(.slice A59 t51.length c60), (.int .i64 t52)] 0 w65); have hB_ := Aside0.mk (show Below w.heap.size w w67 by rw [hw_]; exact Lk.fill_below [(.slice A59 t51.length c60), (.int .i64 t52)] 0 w w65 HB.out (by have := HZ6.out; have := HZ12.out; have := HZ16.out; have := HZ20.out; have := HZ22.out; have := HZ29.out; have := HZ43.out; have := HZ50.out; have := HZ57.out; have := HZ66.out; have := GQ64.out; omega)); clear HB; have HB := hB_; clear hB_; have HZ68 := Aside0.mk (show w65.heap.size ≤ w67.heap.size from hk2_.1); have hn_ := Aside0.mk (Kd.S_kept F30.out hk2_ (fun k_ h1_ h2_ => by have := HZ6.out; have := HZ12.out; have := HZ16.out; have := HZ20.out; have := HZ22.out; have := HZ29.out; have := HZ43.out; have := HZ50.out; have := HZ57.out; have := HZ66.out; have := GQ64.out; have h3_ := h1_.1; omega)); clear F30; have F30 := hn_; clear hn_; have hn_ := Aside0.mk (Kd.R_kept F44.out hk2_ (fun k_ h1_ h2_ => by have := HZ6.out; have := HZ12.out; have := HZ16.out; have := HZ20.out; have := HZ22.out; have := HZ29.out; have := HZ43.out; have := HZ50.out; have := HZ57.out; have := HZ66.out; have := GQ64.out; have h3_ := h1_.1; omega)); clear F44; have F44 := hn_; clear hn_; have hn_ := Aside0.mk (Kd.S_kept F58.out hk2_ (fun k_ h1_ h2_ => by have := HZ6.out; have := HZ12.out; have := HZ16.out; have := HZ20.out; have := HZ22.out; have := HZ29.out; have := HZ43.out; have := HZ50.out; have := HZ57.out; have := HZ66.out; have := GQ64.out; have h3_ := h1_.1; omega)); clear F58; have F58 := hn_; clear hn_; clear hczb1_0 hfzb1_0; clear hczb1_1 hfzb1_1; have hn_ := Aside0.mk (blk_kept BK3.out hk2_ (fun h_ => by have := HZ6.out; have := HZ12.out; have := HZ16.out; have := HZ20.out; have := HZ22.out; have := HZ29.out; have := HZ43.out; have := HZ50.out; have := HZ57.out; have := HZ66.out; have := GQ64.out; have := GQ4.out; omega)); clear BK3; have BK3 := hn_; clear hn_; clear hczb7_0 hfzb7_0; clear hczb7_1 hfzb7_1; clear hczb7_2 hfzb7_2; clear hczb7_3 hfzb7_3; clear hczb7_4 hfzb7_4; clear hczb7_5 hfzb7_5; have hn_ := Aside0.mk (blk_kept BK9.out hk2_ (fun h_ => by have := HZ6.out; have := HZ12.out; have := HZ16.out; have := HZ20.out; have := HZ22.out; have := HZ29.out; have := HZ43.out; have := HZ50.out; have := HZ57.out; have := HZ66.out; have := GQ64.out; have := GQ10.out; omega)); clear BK9; have BK9 := hn_; clear hn_; clear hczb61_0 hfzb61_0; clear hczb61_1 hfzb61_1; clear BK63; have BK63 := Aside0.mk hx_; clear hk2_ hx_ hw_; have hczb1_0 : w67.cell? ⟨gb2, 0, none⟩ = some (.slice A0_0 l0_0.length c0_0) := (blk_cell BK3.out 0).trans rfl; have hfzb1_0 := blk_frozen BK3.out 0; have hczb1_1 : w67.cell? ⟨gb2, 1, none⟩ = some (.int .i64 a0_1) := (blk_cell BK3.out 1).trans rfl; have hfzb1_1 := blk_frozen BK3.out 1; have hczb7_0 : w67.cell? ⟨gb8, 0, none⟩ = some (.int .i64 a1_0) := (blk_cell BK9.out 0).trans rfl; have hfzb7_0 := blk_frozen BK9.out 0; have hczb7_1 : w67.cell? ⟨gb8, 1, none⟩ = some (.int .i64 a1_1) := (blk_cell BK9.out 1).trans rfl; have hfzb7_1 := blk_frozen BK9.out 1; have hczb7_2 : w67.cell? ⟨gb8, 2, none⟩ = some (.slice A1_2 l1_2.length c1_2) := (blk_cell BK9.out 2).trans rfl; have hfzb7_2 := blk_frozen BK9.out 2; have hczb7_3 : w67.cell? ⟨gb8, 3, none⟩ = some (.int .i64 a1_3) := (blk_cell BK9.out 3).trans rfl; have hfzb7_3 := blk_frozen BK9.out 3; have hczb7_4 : w67.cell? ⟨gb8, 4, none⟩ = some (.int .i64 a1_4) := (blk_cell BK9.out 4).trans rfl; have hfzb7_4 := blk_frozen BK9.out 4; have hczb7_5 : w67.cell? ⟨gb8, 5, none⟩ = some (.int .i64 a1_5) := (blk_cell BK9.out 5).trans rfl; have hfzb7_5 := blk_frozen BK9.out 5; have hczb61_0 : w67.cell? ⟨gb62, 0, none⟩ = some (.slice A59 t51.length c60) := (blk_cell BK63.out 0).trans rfl; have hfzb61_0 := blk_frozen BK63.out 0; have hczb61_1 : w67.cell? ⟨gb62, 1, none⟩ = some (.int .i64 t52) := (blk_cell BK63.out 1).trans rfl; have hfzb61_1 := blk_frozen BK63.out 1))
  refine (laws_toCache.calls k a1_0 a1_1 _ _ l1_2 a1_3 a1_4 a1_5 t69 t70 t71 t72 t73 t74 _ (Kd.C_below HR1_2.out HB.out) HC1_2.out H75.out).mono ?_
  rintro e_ w76 ⟨v77, rfl, f78, hb⟩
  have hq_ : Below w67.heap.size w67 w76 := ⟨hb.os, hb.tape, hb.output, hb.size, hb.block⟩
  have HZ79 := Aside0.mk (show w67.heap.size ≤ w76.heap.size from hq_.size)
  have hn_ := Aside0.mk (below_then HB.out HB.out.size hq_)
  clear HB
  have HB := hn_
  clear hn_
  have hn_ := Aside0.mk (Kd.S_below F30.out hq_)
  clear F30
  have F30 := hn_
  clear hn_
  have hn_ := Aside0.mk (Kd.R_below F44.out hq_)
  clear F44
  have F44 := hn_
  clear hn_
  have hn_ := Aside0.mk (Kd.S_below F58.out hq_)
  clear F58
  have F58 := hn_
  clear hn_
  have hn_ := Aside0.mk (blk_below BK3.out hq_)
  clear hczb1_0 hfzb1_0; clear hczb1_1 hfzb1_1
  clear BK3
  have BK3 := hn_
  clear hn_
  have hn_ := Aside0.mk (blk_below BK9.out hq_)
  clear hczb7_0 hfzb7_0; clear hczb7_1 hfzb7_1; clear hczb7_2 hfzb7_2; clear hczb7_3 hfzb7_3; clear hczb7_4 hfzb7_4; clear hczb7_5 hfzb7_5
  clear BK9
  have BK9 := hn_
  clear hn_
  have hn_ := Aside0.mk (blk_below BK63.out hq_)
  clear hczb61_0 hfzb61_0; clear hczb61_1 hfzb61_1
  clear BK63
  have BK63 := hn_
  clear hn_
  clear hq_
  have hczb1_0 : w76.cell? ⟨gb2, 0, none⟩ = some (.slice A0_0 l0_0.length c0_0) := (blk_cell BK3.out 0).trans rfl; have hfzb1_0 := blk_frozen BK3.out 0; have hczb1_1 : w76.cell? ⟨gb2, 1, none⟩ = some (.int .i64 a0_1) := (blk_cell BK3.out 1).trans rfl; have hfzb1_1 := blk_frozen BK3.out 1
  have hczb7_0 : w76.cell? ⟨gb8, 0, none⟩ = some (.int .i64 a1_0) := (blk_cell BK9.out 0).trans rfl; have hfzb7_0 := blk_frozen BK9.out 0; have hczb7_1 : w76.cell? ⟨gb8, 1, none⟩ = some (.int .i64 a1_1) := (blk_cell BK9.out 1).trans rfl; have hfzb7_1 := blk_frozen BK9.out 1; have hczb7_2 : w76.cell? ⟨gb8, 2, none⟩ = some (.slice A1_2 l1_2.length c1_2) := (blk_cell BK9.out 2).trans rfl; have hfzb7_2 := blk_frozen BK9.out 2; have hczb7_3 : w76.cell? ⟨gb8, 3, none⟩ = some (.int .i64 a1_3) := (blk_cell BK9.out 3).trans rfl; have hfzb7_3 := blk_frozen BK9.out 3; have hczb7_4 : w76.cell? ⟨gb8, 4, none⟩ = some (.int .i64 a1_4) := (blk_cell BK9.out 4).trans rfl; have hfzb7_4 := blk_frozen BK9.out 4; have hczb7_5 : w76.cell? ⟨gb8, 5, none⟩ = some (.int .i64 a1_5) := (blk_cell BK9.out 5).trans rfl; have hfzb7_5 := blk_frozen BK9.out 5
  have hczb61_0 : w76.cell? ⟨gb62, 0, none⟩ = some (.slice A59 t51.length c60) := (blk_cell BK63.out 0).trans rfl; have hfzb61_0 := blk_frozen BK63.out 0; have hczb61_1 : w76.cell? ⟨gb62, 1, none⟩ = some (.int .i64 t52) := (blk_cell BK63.out 1).trans rfl; have hfzb61_1 := blk_frozen BK63.out 1
  clear hb
  have F80 := Aside0.mk (Lk.newR (b := w67.heap.size) (base := w.heap.size) (Sep := fun k_ => True) rfl f78 (by have := HZ6.out; have := HZ12.out; have := HZ16.out; have := HZ20.out; have := HZ22.out; have := HZ29.out; have := HZ43.out; have := HZ50.out; have := HZ57.out; have := HZ66.out; have := HZ68.out; have := HZ79.out; omega) (fun k_ hk_ => hk_))
  clear f78
  obtain ⟨A81, c82, e_⟩ := Kd.R_slice F80.out
  subst e_
  go_wp2_with (first | ((with_reducible refine gate_dst (N := 8) rfl ?_); refine box_event ?hg (N := 8) ?hd (cs := #[.int .i64 0, .int .i64 0, .slice none 0 0, .int .i64 0, .int .i64 0, .int .i64 0]) (t := 44) ?hr ?_; (case hd => rfl); (case hg => rfl); (case hr => first | (go_simp; done) | (go_simp; rfl)); intro gb84 hg_ w87 hx_ hb; have hg2_ : gb84 = w76.heap.size := hg_; have hq_ : Below w76.heap.size w76 w87 := ⟨hb.os, hb.tape, hb.output, hb.size, hb.block⟩; have HZ88 := Aside0.mk (show w76.heap.size ≤ w87.heap.size from hq_.size); have hn_ := Aside0.mk (below_then HB.out HB.out.size hq_); clear HB; have HB := hn_; clear hn_; have hn_ := Aside0.mk (Kd.S_below F30.out hq_); clear F30; have F30 := hn_; clear hn_; have hn_ := Aside0.mk (Kd.R_below F44.out hq_); clear F44; have F44 := hn_; clear hn_; have hn_ := Aside0.mk (Kd.S_below F58.out hq_); clear F58; have F58 := hn_; clear hn_; have hn_ := Aside0.mk (Kd.R_below F80.out hq_); clear F80; have F80 := hn_; clear hn_; have hn_ := Aside0.mk (blk_below BK3.out hq_); clear hczb1_0 hfzb1_0; clear hczb1_1 hfzb1_1; clear BK3; have BK3 := hn_; clear hn_; have hn_ := Aside0.mk (blk_below BK9.out hq_); clear hczb7_0 hfzb7_0; clear hczb7_1 hfzb7_1; clear hczb7_2 hfzb7_2; clear hczb7_3 hfzb7_3; clear hczb7_4 hfzb7_4; clear hczb7_5 hfzb7_5; clear BK9; have BK9 := hn_; clear hn_; have hn_ := Aside0.mk (blk_below BK63.out hq_); clear hczb61_0 hfzb61_0; clear hczb61_1 hfzb61_1; clear BK63; have BK63 := hn_; clear hn_; clear hq_; have hczb1_0 : w87.cell? ⟨gb2, 0, none⟩ = some (.slice A0_0 l0_0.length c0_0) := (blk_cell BK3.out 0).trans rfl; have hfzb1_0 := blk_frozen BK3.out 0; have hczb1_1 : w87.cell? ⟨gb2, 1, none⟩ = some (.int .i64 a0_1) := (blk_cell BK3.out 1).trans rfl; have hfzb1_1 := blk_frozen BK3.out 1; have hczb7_0 : w87.cell? ⟨gb8, 0, none⟩ = some (.int .i64 a1_0) := (blk_cell BK9.out 0).trans rfl; have hfzb7_0 := blk_frozen BK9.out 0; have hczb7_1 : w87.cell? ⟨gb8, 1, none⟩ = some (.int .i64 a1_1) := (blk_cell BK9.out 1).trans rfl; have hfzb7_1 := blk_frozen BK9.out 1; have hczb7_2 : w87.cell? ⟨gb8, 2, none⟩ = some (.slice A1_2 l1_2.length c1_2) := (blk_cell BK9.out 2).trans rfl; have hfzb7_2 := blk_frozen BK9.out 2; have hczb7_3 : w87.cell? ⟨gb8, 3, none⟩ = some (.int .i64 a1_3) := (blk_cell BK9.out 3).trans rfl; have hfzb7_3 := blk_frozen BK9.out 3; have hczb7_4 : w87.cell? ⟨gb8, 4, none⟩ = some (.int .i64 a1_4) := (blk_cell BK9.out 4).trans rfl; have hfzb7_4 := blk_frozen BK9.out 4; have hczb7_5 : w87.cell? ⟨gb8, 5, none⟩ = some (.int .i64 a1_5) := (blk_cell BK9.out 5).trans rfl; have hfzb7_5 := blk_frozen BK9.out 5; have hczb61_0 : w87.cell? ⟨gb62, 0, none⟩ = some (.slice A59 t51.length c60) := (blk_cell BK63.out 0).trans rfl; have hfzb61_0 := blk_frozen BK63.out 0; have hczb61_1 : w87.cell? ⟨gb62, 1, none⟩ = some (.int .i64 t52) := (blk_cell BK63.out 1).trans rfl; have hfzb61_1 := blk_frozen BK63.out 1; have BK85 := Aside0.mk hx_; have GQ86 := Aside0.mk (show w76.heap.size ≤ gb84 ∧ gb84 < w87.heap.size from ⟨Nat.le_of_eq hg2_.symm, blk_lt hx_⟩); clear hb hg_ hg2_ hx_; have hczb83_0 : w87.cell? ⟨gb84, 0, none⟩ = some (.int .i64 0) := (blk_cell BK85.out 0).trans rfl; have hfzb83_0 := blk_frozen BK85.out 0; have hczb83_1 : w87.cell? ⟨gb84, 1, none⟩ = some (.int .i64 0) := (blk_cell BK85.out 1).trans rfl; have hfzb83_1 := blk_frozen BK85.out 1; have hczb83_2 : w87.cell? ⟨gb84, 2, none⟩ = some (.slice none 0 0) := (blk_cell BK85.out 2).trans rfl; have hfzb83_2 := blk_frozen BK85.out 2; have hczb83_3 : w87.cell? ⟨gb84, 3, none⟩ = some (.int .i64 0) := (blk_cell BK85.out 3).trans rfl; have hfzb83_3 := blk_frozen BK85.out 3; have hczb83_4 : w87.cell? ⟨gb84, 4, none⟩ = some (.int .i64 0) := (blk_cell BK85.out 4).trans rfl; have hfzb83_4 := blk_frozen BK85.out 4; have hczb83_5 : w87.cell? ⟨gb84, 5, none⟩ = some (.int .i64 0) := (blk_cell BK85.out 5).trans rfl; have hfzb83_5 := blk_frozen BK85.out 5) | ((with_reducible refine gate_store (t := 44) (p := 8) rfl ?_); refine store_event (t := 44) (p := 8) (v := ?vo_w89) (w1 := ((((((w87.setCell ⟨gb84, 0, none⟩ (.int .i64 t69)).setCell ⟨gb84, 1, none⟩ (.int .i64 t70)).setCell ⟨gb84, 2, none⟩ (.slice A81 t71.length c82)).setCell ⟨gb84, 3, none⟩ (.int .i64 t72)).setCell ⟨gb84, 4, none⟩ (.int .i64 t73)).setCell ⟨gb84, 5, none⟩ (.int .i64 t74))) ?hg ?ho ?hn ?hr ?_; (case ho => rfl); (case hg => rfl); (case hn => rfl); (case hr => first | (go_simp; done) | (go_simp; rfl)); intro w89 hw_; have hx_ : w89.heap[gb84]? = some (.cells #[(.int .i64 t69), (.int .i64 t70), (.slice A81 t71.length c82), (.int .i64 t72), (.int .i64 t73), (.int .i64 t74)] 44 (0, 0)) := (by rw [hw_]; exact Lk.filled (us := [(.int .i64 t69), (.int .i64 t70), (.slice A81 t71.length c82), (.int .i64 t72), (.int .i64 t73), (.int .i64 t74)]) BK85.out rfl); have hk2_ : Kept w87 w89 (fun k_ => k_ = gb84) := (by rw [hw_]; exact Lk.fill_kept [(.int .i64 t69), (.int .i64 t70), (.slice A81 t71.length c82), (.int .i64 t72), (.int .i64 t73), (.int .i64 t74)] 0 w87); have hB_ := Aside0.mk (show Below w.heap.size w w89 by rw [hw_]; exact Lk.fill_below [(.int .i64 t69), (.int .i64 t70), (.slice A81 t71.length c82), (.int .i64 t72), (.int .i64 t73), (.int .i64 t74)] 0 w w87 HB.out (by have := HZ6.out; have := HZ12.out; have := HZ16.out; have := HZ20.out; have := HZ22.out; have := HZ29.out; have := HZ43.out; have := HZ50.out; have := HZ57.out; have := HZ66.out; have := HZ68.out; have := HZ79.out; have := HZ88.out; have := GQ86.out; omega)); clear HB; have HB := hB_; clear hB_; have HZ90 := Aside0.mk (show w87.heap.size ≤ w89.heap.size from hk2_.1); have hn_ := Aside0.mk (Kd.S_kept F30.out hk2_ (fun k_ h1_ h2_ => by have := HZ6.out; have := HZ12.out; have := HZ16.out; have := HZ20.out; have := HZ22.out; have := HZ29.out; have := HZ43.out; have := HZ50.out; have := HZ57.out; have := HZ66.out; have := HZ68.out; have := HZ79.out; have := HZ88.out; have := GQ86.out; have h3_ := h1_.1; omega)); clear F30; have F30 := hn_; clear hn_; have hn_ := Aside0.mk (Kd.R_kept F44.out hk2_ (fun k_ h1_ h2_ => by have := HZ6.out; have := HZ12.out; have := HZ16.out; have := HZ20.out; have := HZ22.out; have := HZ29.out; have := HZ43.out; have := HZ50.out; have := HZ57.out; have := HZ66.out; have := HZ68.out; have := HZ79.out; have := HZ88.out; have := GQ86.out; have h3_ := h1_.1; omega)); clear F44; have F44 := hn_; clear hn_; have hn_ := Aside0.mk (Kd.S_kept F58.out hk2_ (fun k_ h1_ h2_ => by have := HZ6.out; have := HZ12.out; have := HZ16.out; have := HZ20.out; have := HZ22.out; have := HZ29.out; have := HZ43.out; have := HZ50.out; have := HZ57.out; have := HZ66.out; have := HZ68.out; have := HZ79.out; have := HZ88.out; have := GQ86.out; have h3_ := h1_.1; omega)); clear F58; have F58 := hn_; clear hn_; have hn_ := Aside0.mk (Kd.R_kept F80.out hk2_ (fun k_ h1_ h2_ => by have := HZ6.out; have := HZ12.out; have := HZ16.out; have := HZ20.out; have := HZ22.out; have := HZ29.out; have := HZ43.out; have := HZ50.out; have := HZ57.out; have := HZ66.out; have := HZ68.out; have := HZ79.out; have := HZ88.out; have := GQ86.out; have h3_ := h1_.1; omega)); clear F80; have F80 := hn_; clear hn_; clear hczb1_0 hfzb1_0; clear hczb1_1 hfzb1_1; have hn_ := Aside0.mk (blk_kept BK3.out hk2_ (fun h_ => by have := HZ6.out; have := HZ12.out; have := HZ16.out; have := HZ20.out; have := HZ22.out; have := HZ29.out; have := HZ43.out; have := HZ50.out; have := HZ57.out; have := HZ66.out; have := HZ68.out; have := HZ79.out; have := HZ88.out; have := GQ86.out; have := GQ4.out; omega)); clear BK3; have BK3 := hn_; clear hn_; clear hczb7_0 hfzb7_0; clear hczb7_1 hfzb7_1; clear hczb7_2 hfzb7_2; clear hczb7_3 hfzb7_3; clear hczb7_4 hfzb7_4; clear hczb7_5 hfzb7_5; have hn_ := Aside0.mk (blk_kept BK9.out hk2_ (fun h_ => by have := HZ6.out; have := HZ12.out; have := HZ16.out; have := HZ20.out; have := HZ22.out; have := HZ29.out; have := HZ43.out; have := HZ50.out; have := HZ57.out; have := HZ66.out; have := HZ68.out; have := HZ79.out; have := HZ88.out; have := GQ86.out; have := GQ10.out; omega)); clear BK9; have BK9 := hn_; clear hn_; clear hczb61_0 hfzb61_0; clear hczb61_1 hfzb61_1; have hn_ := Aside0.mk (blk_kept BK63.out hk2_ (fun h_ => by have := HZ6.out; have := HZ12.out; have := HZ16.out; have := HZ20.out; have := HZ22.out; have := HZ29.out; have := HZ43.out; have := HZ50.out; have := HZ57.out; have := HZ66.out; have := HZ68.out; have := HZ79.out; have := HZ88.out; have := GQ86.out; have := GQ64.out; omega)); clear BK63; have BK63 := hn_; clear hn_; clear hczb83_0 hfzb83_0; clear hczb83_1 hfzb83_1; clear hczb83_2 hfzb83_2; clear hczb83_3 hfzb83_3; clear hczb83_4 hfzb83_4; clear hczb83_5 hfzb83_5; clear BK85; have BK85 := Aside0.mk hx_; clear hk2_ hx_ hw_; have hczb1_0 : w89.cell? ⟨gb2, 0, none⟩ = some (.slice A0_0 l0_0.length c0_0) := (blk_cell BK3.out 0).trans rfl; have hfzb1_0 := blk_frozen BK3.out 0; have hczb1_1 : w89.cell? ⟨gb2, 1, none⟩ = some (.int .i64 a0_1) := (blk_cell BK3.out 1).trans rfl; have hfzb1_1 := blk_frozen BK3.out 1; have hczb7_0 : w89.cell? ⟨gb8, 0, none⟩ = some (.int .i64 a1_0) := (blk_cell BK9.out 0).trans rfl; have hfzb7_0 := blk_frozen BK9.out 0; have hczb7_1 : w89.cell? ⟨gb8, 1, none⟩ = some (.int .i64 a1_1) := (blk_cell BK9.out 1).trans rfl; have hfzb7_1 := blk_frozen BK9.out 1; have hczb7_2 : w89.cell? ⟨gb8, 2, none⟩ = some (.slice A1_2 l1_2.length c1_2) := (blk_cell BK9.out 2).trans rfl; have hfzb7_2 := blk_frozen BK9.out 2; have hczb7_3 : w89.cell? ⟨gb8, 3, none⟩ = some (.int .i64 a1_3) := (blk_cell BK9.out 3).trans rfl; have hfzb7_3 := blk_frozen BK9.out 3; have hczb7_4 : w89.cell? ⟨gb8, 4, none⟩ = some (.int .i64 a1_4) := (blk_cell BK9.out 4).trans rfl; have hfzb7_4 := blk_frozen BK9.out 4; have hczb7_5 : w89.cell? ⟨gb8, 5, none⟩ = some (.int .i64 a1_5) := (blk_cell BK9.out 5).trans rfl; have hfzb7_5 := blk_frozen BK9.out 5; have hczb61_0 : w89.cell? ⟨gb62, 0, none⟩ = some (.slice A59 t51.length c60) := (blk_cell BK63.out 0).trans rfl; have hfzb61_0 := blk_frozen BK63.out 0; have hczb61_1 : w89.cell? ⟨gb62, 1, none⟩ = some (.int .i64 t52) := (blk_cell BK63.out 1).trans rfl; have hfzb61_1 := blk_frozen BK63.out 1; have hczb83_0 : w89.cell? ⟨gb84, 0, none⟩ = some (.int .i64 t69) := (blk_cell BK85.out 0).trans rfl; have hfzb83_0 := blk_frozen BK85.out 0; have hczb83_1 : w89.cell? ⟨gb84, 1, none⟩ = some (.int .i64 t70) := (blk_cell BK85.out 1).trans rfl; have hfzb83_1 := blk_frozen BK85.out 1; have hczb83_2 : w89.cell? ⟨gb84, 2, none⟩ = some (.slice A81 t71.length c82) := (blk_cell BK85.out 2).trans rfl; have hfzb83_2 := blk_frozen BK85.out 2; have hczb83_3 : w89.cell? ⟨gb84, 3, none⟩ = some (.int .i64 t72) := (blk_cell BK85.out 3).trans rfl; have hfzb83_3 := blk_frozen BK85.out 3; have hczb83_4 : w89.cell? ⟨gb84, 4, none⟩ = some (.int .i64 t73) := (blk_cell BK85.out 4).trans rfl; have hfzb83_4 := blk_frozen BK85.out 4; have hczb83_5 : w89.cell? ⟨gb84, 5, none⟩ = some (.int .i64 t74) := (blk_cell BK85.out 5).trans rfl; have hfzb83_5 := blk_frozen BK85.out 5))
  refine (impl_GoodCache.calls k _ _ t51 t52 t69 t70 _ _ t71 t72 t73 t74 t47 _ (Lk.Sr F58.out).2 (Lk.Sr F58.out).1 (Lk.Rr F80.out).2 (Lk.Rr F80.out).1 H92.out).mono ?_
  rintro e_ w93 ⟨rfl, hb⟩
  have hq_ : Below w89.heap.size w89 w93 := ⟨hb.os, hb.tape, hb.output, hb.size, hb.block⟩
  have HZ94 := Aside0.mk (show w89.heap.size ≤ w93.heap.size from hq_.size)
  have hn_ := Aside0.mk (below_then HB.out HB.out.size hq_)
  clear HB
  have HB := hn_
  clear hn_
  have hn_ := Aside0.mk (Kd.S_below F30.out hq_)
  clear F30
  have F30 := hn_
  clear hn_
  have hn_ := Aside0.mk (Kd.R_below F44.out hq_)
  clear F44
  have F44 := hn_
  clear hn_
  have hn_ := Aside0.mk (Kd.S_below F58.out hq_)
  clear F58
  have F58 := hn_
  clear hn_
  have hn_ := Aside0.mk (Kd.R_below F80.out hq_)
  clear F80
  have F80 := hn_
  clear hn_
  have hn_ := Aside0.mk (blk_below BK3.out hq_)
  clear hczb1_0 hfzb1_0; clear hczb1_1 hfzb1_1
  clear BK3
  have BK3 := hn_
  clear hn_
  have hn_ := Aside0.mk (blk_below BK9.out hq_)
  clear hczb7_0 hfzb7_0; clear hczb7_1 hfzb7_1; clear hczb7_2 hfzb7_2; clear hczb7_3 hfzb7_3; clear hczb7_4 hfzb7_4; clear hczb7_5 hfzb7_5
  clear BK9
  have BK9 := hn_
  clear hn_
  have hn_ := Aside0.mk (blk_below BK63.out hq_)
  clear hczb61_0 hfzb61_0; clear hczb61_1 hfzb61_1
  clear BK63
  have BK63 := hn_
  clear hn_
  have hn_ := Aside0.mk (blk_below BK85.out hq_)
  clear hczb83_0 hfzb83_0; clear hczb83_1 hfzb83_1; clear hczb83_2 hfzb83_2; clear hczb83_3 hfzb83_3; clear hczb83_4 hfzb83_4; clear hczb83_5 hfzb83_5
  clear BK85
  have BK85 := hn_
  clear hn_
  clear hq_
  have hczb1_0 : w93.cell? ⟨gb2, 0, none⟩ = some (.slice A0_0 l0_0.length c0_0) := (blk_cell BK3.out 0).trans rfl; have hfzb1_0 := blk_frozen BK3.out 0; have hczb1_1 : w93.cell? ⟨gb2, 1, none⟩ = some (.int .i64 a0_1) := (blk_cell BK3.out 1).trans rfl; have hfzb1_1 := blk_frozen BK3.out 1
  have hczb7_0 : w93.cell? ⟨gb8, 0, none⟩ = some (.int .i64 a1_0) := (blk_cell BK9.out 0).trans rfl; have hfzb7_0 := blk_frozen BK9.out 0; have hczb7_1 : w93.cell? ⟨gb8, 1, none⟩ = some (.int .i64 a1_1) := (blk_cell BK9.out 1).trans rfl; have hfzb7_1 := blk_frozen BK9.out 1; have hczb7_2 : w93.cell? ⟨gb8, 2, none⟩ = some (.slice A1_2 l1_2.length c1_2) := (blk_cell BK9.out 2).trans rfl; have hfzb7_2 := blk_frozen BK9.out 2; have hczb7_3 : w93.cell? ⟨gb8, 3, none⟩ = some (.int .i64 a1_3) := (blk_cell BK9.out 3).trans rfl; have hfzb7_3 := blk_frozen BK9.out 3; have hczb7_4 : w93.cell? ⟨gb8, 4, none⟩ = some (.int .i64 a1_4) := (blk_cell BK9.out 4).trans rfl; have hfzb7_4 := blk_frozen BK9.out 4; have hczb7_5 : w93.cell? ⟨gb8, 5, none⟩ = some (.int .i64 a1_5) := (blk_cell BK9.out 5).trans rfl; have hfzb7_5 := blk_frozen BK9.out 5
  have hczb61_0 : w93.cell? ⟨gb62, 0, none⟩ = some (.slice A59 t51.length c60) := (blk_cell BK63.out 0).trans rfl; have hfzb61_0 := blk_frozen BK63.out 0; have hczb61_1 : w93.cell? ⟨gb62, 1, none⟩ = some (.int .i64 t52) := (blk_cell BK63.out 1).trans rfl; have hfzb61_1 := blk_frozen BK63.out 1
  have hczb83_0 : w93.cell? ⟨gb84, 0, none⟩ = some (.int .i64 t69) := (blk_cell BK85.out 0).trans rfl; have hfzb83_0 := blk_frozen BK85.out 0; have hczb83_1 : w93.cell? ⟨gb84, 1, none⟩ = some (.int .i64 t70) := (blk_cell BK85.out 1).trans rfl; have hfzb83_1 := blk_frozen BK85.out 1; have hczb83_2 : w93.cell? ⟨gb84, 2, none⟩ = some (.slice A81 t71.length c82) := (blk_cell BK85.out 2).trans rfl; have hfzb83_2 := blk_frozen BK85.out 2; have hczb83_3 : w93.cell? ⟨gb84, 3, none⟩ = some (.int .i64 t72) := (blk_cell BK85.out 3).trans rfl; have hfzb83_3 := blk_frozen BK85.out 3; have hczb83_4 : w93.cell? ⟨gb84, 4, none⟩ = some (.int .i64 t73) := (blk_cell BK85.out 4).trans rfl; have hfzb83_4 := blk_frozen BK85.out 4; have hczb83_5 : w93.cell? ⟨gb84, 5, none⟩ = some (.int .i64 t74) := (blk_cell BK85.out 5).trans rfl; have hfzb83_5 := blk_frozen BK85.out 5
  clear hb
  go_wp2_with fail
  have hb : Below w93.heap.size w93 w93.drew := below_drew (Below.refl _ _)
  obtain ⟨w95, hw_⟩ : ∃ w95, w93.drew = w95 := ⟨_, rfl⟩
  rw [hw_] at hb
  have hq_ : Below w93.heap.size w93 w95 := ⟨hb.os, hb.tape, hb.output, hb.size, hb.block⟩
  have HZ96 := Aside0.mk (show w93.heap.size ≤ w95.heap.size from hq_.size)
  have hn_ := Aside0.mk (below_then HB.out HB.out.size hq_)
  clear HB
  have HB := hn_
  clear hn_
  have hn_ := Aside0.mk (Kd.S_below F30.out hq_)
  clear F30
  have F30 := hn_
  clear hn_
  have hn_ := Aside0.mk (Kd.R_below F44.out hq_)
  clear F44
  have F44 := hn_
  clear hn_
  have hn_ := Aside0.mk (Kd.S_below F58.out hq_)
  clear F58
  have F58 := hn_
  clear hn_
  have hn_ := Aside0.mk (Kd.R_below F80.out hq_)
  clear F80
  have F80 := hn_
  clear hn_
  have hn_ := Aside0.mk (blk_below BK3.out hq_)
  clear hczb1_0 hfzb1_0; clear hczb1_1 hfzb1_1
  clear BK3
  have BK3 := hn_
  clear hn_
  have hn_ := Aside0.mk (blk_below BK9.out hq_)
  clear hczb7_0 hfzb7_0; clear hczb7_1 hfzb7_1; clear hczb7_2 hfzb7_2; clear hczb7_3 hfzb7_3; clear hczb7_4 hfzb7_4; clear hczb7_5 hfzb7_5
  clear BK9
  have BK9 := hn_
  clear hn_
  have hn_ := Aside0.mk (blk_below BK63.out hq_)
  clear hczb61_0 hfzb61_0; clear hczb61_1 hfzb61_1
  clear BK63
  have BK63 := hn_
  clear hn_
  have hn_ := Aside0.mk (blk_below BK85.out hq_)
  clear hczb83_0 hfzb83_0; clear hczb83_1 hfzb83_1; clear hczb83_2 hfzb83_2; clear hczb83_3 hfzb83_3; clear hczb83_4 hfzb83_4; clear hczb83_5 hfzb83_5
  clear BK85
  have BK85 := hn_
  clear hn_
  clear hq_
  have hczb1_0 : w95.cell? ⟨gb2, 0, none⟩ = some (.slice A0_0 l0_0.length c0_0) := (blk_cell BK3.out 0).trans rfl; have hfzb1_0 := blk_frozen BK3.out 0; have hczb1_1 : w95.cell? ⟨gb2, 1, none⟩ = some (.int .i64 a0_1) := (blk_cell BK3.out 1).trans rfl; have hfzb1_1 := blk_frozen BK3.out 1
  have hczb7_0 : w95.cell? ⟨gb8, 0, none⟩ = some (.int .i64 a1_0) := (blk_cell BK9.out 0).trans rfl; have hfzb7_0 := blk_frozen BK9.out 0; have hczb7_1 : w95.cell? ⟨gb8, 1, none⟩ = some (.int .i64 a1_1) := (blk_cell BK9.out 1).trans rfl; have hfzb7_1 := blk_frozen BK9.out 1; have hczb7_2 : w95.cell? ⟨gb8, 2, none⟩ = some (.slice A1_2 l1_2.length c1_2) := (blk_cell BK9.out 2).trans rfl; have hfzb7_2 := blk_frozen BK9.out 2; have hczb7_3 : w95.cell? ⟨gb8, 3, none⟩ = some (.int .i64 a1_3) := (blk_cell BK9.out 3).trans rfl; have hfzb7_3 := blk_frozen BK9.out 3; have hczb7_4 : w95.cell? ⟨gb8, 4, none⟩ = some (.int .i64 a1_4) := (blk_cell BK9.out 4).trans rfl; have hfzb7_4 := blk_frozen BK9.out 4; have hczb7_5 : w95.cell? ⟨gb8, 5, none⟩ = some (.int .i64 a1_5) := (blk_cell BK9.out 5).trans rfl; have hfzb7_5 := blk_frozen BK9.out 5
  have hczb61_0 : w95.cell? ⟨gb62, 0, none⟩ = some (.slice A59 t51.length c60) := (blk_cell BK63.out 0).trans rfl; have hfzb61_0 := blk_frozen BK63.out 0; have hczb61_1 : w95.cell? ⟨gb62, 1, none⟩ = some (.int .i64 t52) := (blk_cell BK63.out 1).trans rfl; have hfzb61_1 := blk_frozen BK63.out 1
  have hczb83_0 : w95.cell? ⟨gb84, 0, none⟩ = some (.int .i64 t69) := (blk_cell BK85.out 0).trans rfl; have hfzb83_0 := blk_frozen BK85.out 0; have hczb83_1 : w95.cell? ⟨gb84, 1, none⟩ = some (.int .i64 t70) := (blk_cell BK85.out 1).trans rfl; have hfzb83_1 := blk_frozen BK85.out 1; have hczb83_2 : w95.cell? ⟨gb84, 2, none⟩ = some (.slice A81 t71.length c82) := (blk_cell BK85.out 2).trans rfl; have hfzb83_2 := blk_frozen BK85.out 2; have hczb83_3 : w95.cell? ⟨gb84, 3, none⟩ = some (.int .i64 t72) := (blk_cell BK85.out 3).trans rfl; have hfzb83_3 := blk_frozen BK85.out 3; have hczb83_4 : w95.cell? ⟨gb84, 4, none⟩ = some (.int .i64 t73) := (blk_cell BK85.out 4).trans rfl; have hfzb83_4 := blk_frozen BK85.out 4; have hczb83_5 : w95.cell? ⟨gb84, 5, none⟩ = some (.int .i64 t74) := (blk_cell BK85.out 5).trans rfl; have hfzb83_5 := blk_frozen BK85.out 5
  refine start_ (n := 5) (S := fun w' => w'.cell? ⟨gb62, 0, none⟩ = some (.slice A59 t51.length c60) ∧ w'.cell? ⟨gb62, 1, none⟩ = some (.int .i64 t52) ∧ w'.cell? ⟨gb2, 0, none⟩ = some (.slice A0_0 l0_0.length c0_0) ∧ w'.cell? ⟨gb2, 1, none⟩ = some (.int .i64 a0_1)) (ds := []) #[false, false, false, false, false] (by kernel_rfl) rfl rfl (by rw [hw_]; exact ⟨(blk_cell BK63.out 0).trans rfl, (blk_cell BK63.out 1).trans rfl, (blk_cell BK3.out 0).trans rfl, (blk_cell BK3.out 1).trans rfl⟩) (fun hHeld => ?_)
  rw [hw_] at hHeld ⊢
  clear hw_ hb
  refine take_ (i := 0) (N := some 35) (v := ?_) (a' := ?_) #[true, false, false, false, false] rfl rfl (by kernel_rfl) (fun _ _ _ h => h) (Or.inl ⟨by rfl, ?_⟩) hHeld ?_ ?_
  rotate_left
  · rintro w' ⟨s0, s1, s2, s3⟩
    go_simp
    with_reducible rfl
  rotate_left
  · simp only [Act.put, List.setIfInBounds_toArray, List.set_cons_zero, List.set_cons_succ, i64_w, i32_w]
    rfl
  refine take_ (i := 1) (N := some 36) (v := ?_) (a' := ?_) #[true, true, false, false, false] rfl rfl (by kernel_rfl) (fun _ _ _ h => h) (Or.inl ⟨by rfl, ?_⟩) hHeld ?_ ?_
  rotate_left
  · rintro w' ⟨s0, s1, s2, s3⟩
    go_simp
    with_reducible rfl
  rotate_left
  · simp only [Act.put, List.setIfInBounds_toArray, List.set_cons_zero, List.set_cons_succ, i64_w, i32_w]
    rfl
  refine one_ (i := 2) (N := some 37) #[true, true, true, false, false] rfl rfl (by kernel_rfl) (by decide) (fun K hK => ?_)
  refine goes_ Try.func15 (by kernel_rfl) rfl #[.agg #[.slice A0_0 l0_0.length c0_0, .int .i64 a0_1]] (by rfl) rfl rfl (by (try simp only [List.map_toArray, List.map_cons, List.map_nil]); first | done | rfl | (simp only [List.length_drop, List.length_take]; rfl)) ?_
  refine (laws_toWorld.calls k _ _ l0_0 a0_1 t97 t98 _ (Kd.C_below HR0_0.out HB.out) HC0_0.out H99.out).mono ?_
  rintro e_ w100 ⟨v101, rfl, f102, hb⟩
  have hq_ : Below w95.heap.size w95 w100 := ⟨hb.os, hb.tape, hb.output, hb.size, hb.block⟩
  have HZ103 := Aside0.mk (show w95.heap.size ≤ w100.heap.size from hq_.size)
  have hn_ := Aside0.mk (below_then HB.out HB.out.size hq_)
  clear HB
  have HB := hn_
  clear hn_
  have hn_ := Aside0.mk (Kd.S_below F30.out hq_)
  clear F30
  have F30 := hn_
  clear hn_
  have hn_ := Aside0.mk (Kd.R_below F44.out hq_)
  clear F44
  have F44 := hn_
  clear hn_
  have hn_ := Aside0.mk (Kd.S_below F58.out hq_)
  clear F58
  have F58 := hn_
  clear hn_
  have hn_ := Aside0.mk (Kd.R_below F80.out hq_)
  clear F80
  have F80 := hn_
  clear hn_
  have hn_ := Aside0.mk (blk_below BK3.out hq_)
  clear hczb1_0 hfzb1_0; clear hczb1_1 hfzb1_1
  clear BK3
  have BK3 := hn_
  clear hn_
  have hn_ := Aside0.mk (blk_below BK9.out hq_)
  clear hczb7_0 hfzb7_0; clear hczb7_1 hfzb7_1; clear hczb7_2 hfzb7_2; clear hczb7_3 hfzb7_3; clear hczb7_4 hfzb7_4; clear hczb7_5 hfzb7_5
  clear BK9
  have BK9 := hn_
  clear hn_
  have hn_ := Aside0.mk (blk_below BK63.out hq_)
  clear hczb61_0 hfzb61_0; clear hczb61_1 hfzb61_1
  clear BK63
  have BK63 := hn_
  clear hn_
  have hn_ := Aside0.mk (blk_below BK85.out hq_)
  clear hczb83_0 hfzb83_0; clear hczb83_1 hfzb83_1; clear hczb83_2 hfzb83_2; clear hczb83_3 hfzb83_3; clear hczb83_4 hfzb83_4; clear hczb83_5 hfzb83_5
  clear BK85
  have BK85 := hn_
  clear hn_
  clear hq_
  have hczb1_0 : w100.cell? ⟨gb2, 0, none⟩ = some (.slice A0_0 l0_0.length c0_0) := (blk_cell BK3.out 0).trans rfl; have hfzb1_0 := blk_frozen BK3.out 0; have hczb1_1 : w100.cell? ⟨gb2, 1, none⟩ = some (.int .i64 a0_1) := (blk_cell BK3.out 1).trans rfl; have hfzb1_1 := blk_frozen BK3.out 1
  have hczb7_0 : w100.cell? ⟨gb8, 0, none⟩ = some (.int .i64 a1_0) := (blk_cell BK9.out 0).trans rfl; have hfzb7_0 := blk_frozen BK9.out 0; have hczb7_1 : w100.cell? ⟨gb8, 1, none⟩ = some (.int .i64 a1_1) := (blk_cell BK9.out 1).trans rfl; have hfzb7_1 := blk_frozen BK9.out 1; have hczb7_2 : w100.cell? ⟨gb8, 2, none⟩ = some (.slice A1_2 l1_2.length c1_2) := (blk_cell BK9.out 2).trans rfl; have hfzb7_2 := blk_frozen BK9.out 2; have hczb7_3 : w100.cell? ⟨gb8, 3, none⟩ = some (.int .i64 a1_3) := (blk_cell BK9.out 3).trans rfl; have hfzb7_3 := blk_frozen BK9.out 3; have hczb7_4 : w100.cell? ⟨gb8, 4, none⟩ = some (.int .i64 a1_4) := (blk_cell BK9.out 4).trans rfl; have hfzb7_4 := blk_frozen BK9.out 4; have hczb7_5 : w100.cell? ⟨gb8, 5, none⟩ = some (.int .i64 a1_5) := (blk_cell BK9.out 5).trans rfl; have hfzb7_5 := blk_frozen BK9.out 5
  have hczb61_0 : w100.cell? ⟨gb62, 0, none⟩ = some (.slice A59 t51.length c60) := (blk_cell BK63.out 0).trans rfl; have hfzb61_0 := blk_frozen BK63.out 0; have hczb61_1 : w100.cell? ⟨gb62, 1, none⟩ = some (.int .i64 t52) := (blk_cell BK63.out 1).trans rfl; have hfzb61_1 := blk_frozen BK63.out 1
  have hczb83_0 : w100.cell? ⟨gb84, 0, none⟩ = some (.int .i64 t69) := (blk_cell BK85.out 0).trans rfl; have hfzb83_0 := blk_frozen BK85.out 0; have hczb83_1 : w100.cell? ⟨gb84, 1, none⟩ = some (.int .i64 t70) := (blk_cell BK85.out 1).trans rfl; have hfzb83_1 := blk_frozen BK85.out 1; have hczb83_2 : w100.cell? ⟨gb84, 2, none⟩ = some (.slice A81 t71.length c82) := (blk_cell BK85.out 2).trans rfl; have hfzb83_2 := blk_frozen BK85.out 2; have hczb83_3 : w100.cell? ⟨gb84, 3, none⟩ = some (.int .i64 t72) := (blk_cell BK85.out 3).trans rfl; have hfzb83_3 := blk_frozen BK85.out 3; have hczb83_4 : w100.cell? ⟨gb84, 4, none⟩ = some (.int .i64 t73) := (blk_cell BK85.out 4).trans rfl; have hfzb83_4 := blk_frozen BK85.out 4; have hczb83_5 : w100.cell? ⟨gb84, 5, none⟩ = some (.int .i64 t74) := (blk_cell BK85.out 5).trans rfl; have hfzb83_5 := blk_frozen BK85.out 5
  clear hb
  refine ⟨_, rfl, ?_⟩
  have F104 := Aside0.mk (Lk.newS (b := w95.heap.size) (base := w.heap.size) (Sep := fun k_ => True) f102 (by have := HZ6.out; have := HZ12.out; have := HZ16.out; have := HZ20.out; have := HZ22.out; have := HZ29.out; have := HZ43.out; have := HZ50.out; have := HZ57.out; have := HZ66.out; have := HZ68.out; have := HZ79.out; have := HZ88.out; have := HZ90.out; have := HZ94.out; have := HZ96.out; have := HZ103.out; omega) (fun k_ hk_ => hk_))
  clear f102
  obtain ⟨A105, c106, e_⟩ := Kd.S_slice F104.out
  subst e_
  refine hK.out _ _ ⟨(blk_cell BK63.out 0).trans rfl, (blk_cell BK63.out 1).trans rfl, (blk_cell BK3.out 0).trans rfl, (blk_cell BK3.out 1).trans rfl⟩ (fun hHeld => ?_)
  clear hK K
  refine norm_ (a' := ?_) ?_ ?_
  rotate_left
  · show Act.put _ (some 37) _ = _
    simp only [Act.put, List.setIfInBounds_toArray, List.set_cons_zero, List.set_cons_succ, i64_w, i32_w]
    rfl
  refine one_ (i := 3) (N := some 38) #[true, true, true, true, false] rfl rfl (by kernel_rfl) (by decide) (fun K hK => ?_)
  refine goes_ Try.func17 (by kernel_rfl) rfl #[.agg #[.slice A59 t51.length c60, .int .i64 t52], .agg #[.slice A105 t97.length c106, .int .i64 t98]] (by rfl) rfl rfl (by (try simp only [List.map_toArray, List.map_cons, List.map_nil]); first | done | rfl | (simp only [List.length_drop, List.length_take]; rfl)) ?_
  refine (laws_eqWorld.calls k _ _ t51 t52 _ _ t97 t98 true _ (Lk.Sr F58.out).2 (Lk.Sr F58.out).1 (Lk.Sr F104.out).2 (Lk.Sr F104.out).1 H108.out).mono ?_
  rintro e_ w109 ⟨rfl, hb⟩
  have hq_ : Below w100.heap.size w100 w109 := ⟨hb.os, hb.tape, hb.output, hb.size, hb.block⟩
  have HZ110 := Aside0.mk (show w100.heap.size ≤ w109.heap.size from hq_.size)
  have hn_ := Aside0.mk (below_then HB.out HB.out.size hq_)
  clear HB
  have HB := hn_
  clear hn_
  have hn_ := Aside0.mk (Kd.S_below F30.out hq_)
  clear F30
  have F30 := hn_
  clear hn_
  have hn_ := Aside0.mk (Kd.R_below F44.out hq_)
  clear F44
  have F44 := hn_
  clear hn_
  have hn_ := Aside0.mk (Kd.S_below F58.out hq_)
  clear F58
  have F58 := hn_
  clear hn_
  have hn_ := Aside0.mk (Kd.R_below F80.out hq_)
  clear F80
  have F80 := hn_
  clear hn_
  have hn_ := Aside0.mk (Kd.S_below F104.out hq_)
  clear F104
  have F104 := hn_
  clear hn_
  have hn_ := Aside0.mk (blk_below BK3.out hq_)
  clear hczb1_0 hfzb1_0; clear hczb1_1 hfzb1_1
  clear BK3
  have BK3 := hn_
  clear hn_
  have hn_ := Aside0.mk (blk_below BK9.out hq_)
  clear hczb7_0 hfzb7_0; clear hczb7_1 hfzb7_1; clear hczb7_2 hfzb7_2; clear hczb7_3 hfzb7_3; clear hczb7_4 hfzb7_4; clear hczb7_5 hfzb7_5
  clear BK9
  have BK9 := hn_
  clear hn_
  have hn_ := Aside0.mk (blk_below BK63.out hq_)
  clear hczb61_0 hfzb61_0; clear hczb61_1 hfzb61_1
  clear BK63
  have BK63 := hn_
  clear hn_
  have hn_ := Aside0.mk (blk_below BK85.out hq_)
  clear hczb83_0 hfzb83_0; clear hczb83_1 hfzb83_1; clear hczb83_2 hfzb83_2; clear hczb83_3 hfzb83_3; clear hczb83_4 hfzb83_4; clear hczb83_5 hfzb83_5
  clear BK85
  have BK85 := hn_
  clear hn_
  clear hq_
  have hczb1_0 : w109.cell? ⟨gb2, 0, none⟩ = some (.slice A0_0 l0_0.length c0_0) := (blk_cell BK3.out 0).trans rfl; have hfzb1_0 := blk_frozen BK3.out 0; have hczb1_1 : w109.cell? ⟨gb2, 1, none⟩ = some (.int .i64 a0_1) := (blk_cell BK3.out 1).trans rfl; have hfzb1_1 := blk_frozen BK3.out 1
  have hczb7_0 : w109.cell? ⟨gb8, 0, none⟩ = some (.int .i64 a1_0) := (blk_cell BK9.out 0).trans rfl; have hfzb7_0 := blk_frozen BK9.out 0; have hczb7_1 : w109.cell? ⟨gb8, 1, none⟩ = some (.int .i64 a1_1) := (blk_cell BK9.out 1).trans rfl; have hfzb7_1 := blk_frozen BK9.out 1; have hczb7_2 : w109.cell? ⟨gb8, 2, none⟩ = some (.slice A1_2 l1_2.length c1_2) := (blk_cell BK9.out 2).trans rfl; have hfzb7_2 := blk_frozen BK9.out 2; have hczb7_3 : w109.cell? ⟨gb8, 3, none⟩ = some (.int .i64 a1_3) := (blk_cell BK9.out 3).trans rfl; have hfzb7_3 := blk_frozen BK9.out 3; have hczb7_4 : w109.cell? ⟨gb8, 4, none⟩ = some (.int .i64 a1_4) := (blk_cell BK9.out 4).trans rfl; have hfzb7_4 := blk_frozen BK9.out 4; have hczb7_5 : w109.cell? ⟨gb8, 5, none⟩ = some (.int .i64 a1_5) := (blk_cell BK9.out 5).trans rfl; have hfzb7_5 := blk_frozen BK9.out 5
  have hczb61_0 : w109.cell? ⟨gb62, 0, none⟩ = some (.slice A59 t51.length c60) := (blk_cell BK63.out 0).trans rfl; have hfzb61_0 := blk_frozen BK63.out 0; have hczb61_1 : w109.cell? ⟨gb62, 1, none⟩ = some (.int .i64 t52) := (blk_cell BK63.out 1).trans rfl; have hfzb61_1 := blk_frozen BK63.out 1
  have hczb83_0 : w109.cell? ⟨gb84, 0, none⟩ = some (.int .i64 t69) := (blk_cell BK85.out 0).trans rfl; have hfzb83_0 := blk_frozen BK85.out 0; have hczb83_1 : w109.cell? ⟨gb84, 1, none⟩ = some (.int .i64 t70) := (blk_cell BK85.out 1).trans rfl; have hfzb83_1 := blk_frozen BK85.out 1; have hczb83_2 : w109.cell? ⟨gb84, 2, none⟩ = some (.slice A81 t71.length c82) := (blk_cell BK85.out 2).trans rfl; have hfzb83_2 := blk_frozen BK85.out 2; have hczb83_3 : w109.cell? ⟨gb84, 3, none⟩ = some (.int .i64 t72) := (blk_cell BK85.out 3).trans rfl; have hfzb83_3 := blk_frozen BK85.out 3; have hczb83_4 : w109.cell? ⟨gb84, 4, none⟩ = some (.int .i64 t73) := (blk_cell BK85.out 4).trans rfl; have hfzb83_4 := blk_frozen BK85.out 4; have hczb83_5 : w109.cell? ⟨gb84, 5, none⟩ = some (.int .i64 t74) := (blk_cell BK85.out 5).trans rfl; have hfzb83_5 := blk_frozen BK85.out 5
  clear hb
  refine ⟨_, rfl, ?_⟩
  refine hK.out _ _ ⟨(blk_cell BK63.out 0).trans rfl, (blk_cell BK63.out 1).trans rfl, (blk_cell BK3.out 0).trans rfl, (blk_cell BK3.out 1).trans rfl⟩ (fun hHeld => ?_)
  clear hK K
  refine norm_ (a' := ?_) ?_ ?_
  rotate_left
  · show Act.put _ (some 38) _ = _
    simp only [Act.put, List.setIfInBounds_toArray, List.set_cons_zero, List.set_cons_succ, i64_w, i32_w]
    rfl
  refine pure_ (i := 4) (N := some 39) (v := ?_) (a' := ?_) #[true, true, true, true, true] rfl rfl (by kernel_rfl) (fun _ _ _ h => h) (Or.inl ⟨by rfl, ?_⟩) ?_ ?_
  rotate_left
  · intro w'
    go_simp
    with_reducible rfl
  rotate_left
  · simp only [Act.put, List.setIfInBounds_toArray, List.set_cons_zero, List.set_cons_succ, i64_w, i32_w]
    rfl
  refine done_ (by kernel_rfl) ?_
  go_wp2_with fail
  have hb : Below w109.heap.size w109 w109.drew := below_drew (Below.refl _ _)
  obtain ⟨w111, hw_⟩ : ∃ w111, w109.drew = w111 := ⟨_, rfl⟩
  rw [hw_] at hb
  have hq_ : Below w109.heap.size w109 w111 := ⟨hb.os, hb.tape, hb.output, hb.size, hb.block⟩
  have HZ112 := Aside0.mk (show w109.heap.size ≤ w111.heap.size from hq_.size)
  have hn_ := Aside0.mk (below_then HB.out HB.out.size hq_)
  clear HB
  have HB := hn_
  clear hn_
  have hn_ := Aside0.mk (Kd.S_below F30.out hq_)
  clear F30
  have F30 := hn_
  clear hn_
  have hn_ := Aside0.mk (Kd.R_below F44.out hq_)
  clear F44
  have F44 := hn_
  clear hn_
  have hn_ := Aside0.mk (Kd.S_below F58.out hq_)
  clear F58
  have F58 := hn_
  clear hn_
  have hn_ := Aside0.mk (Kd.R_below F80.out hq_)
  clear F80
  have F80 := hn_
  clear hn_
  have hn_ := Aside0.mk (Kd.S_below F104.out hq_)
  clear F104
  have F104 := hn_
  clear hn_
  have hn_ := Aside0.mk (blk_below BK3.out hq_)
  clear hczb1_0 hfzb1_0; clear hczb1_1 hfzb1_1
  clear BK3
  have BK3 := hn_
  clear hn_
  have hn_ := Aside0.mk (blk_below BK9.out hq_)
  clear hczb7_0 hfzb7_0; clear hczb7_1 hfzb7_1; clear hczb7_2 hfzb7_2; clear hczb7_3 hfzb7_3; clear hczb7_4 hfzb7_4; clear hczb7_5 hfzb7_5
  clear BK9
  have BK9 := hn_
  clear hn_
  have hn_ := Aside0.mk (blk_below BK63.out hq_)
  clear hczb61_0 hfzb61_0; clear hczb61_1 hfzb61_1
  clear BK63
  have BK63 := hn_
  clear hn_
  have hn_ := Aside0.mk (blk_below BK85.out hq_)
  clear hczb83_0 hfzb83_0; clear hczb83_1 hfzb83_1; clear hczb83_2 hfzb83_2; clear hczb83_3 hfzb83_3; clear hczb83_4 hfzb83_4; clear hczb83_5 hfzb83_5
  clear BK85
  have BK85 := hn_
  clear hn_
  clear hq_
  have hczb1_0 : w111.cell? ⟨gb2, 0, none⟩ = some (.slice A0_0 l0_0.length c0_0) := (blk_cell BK3.out 0).trans rfl; have hfzb1_0 := blk_frozen BK3.out 0; have hczb1_1 : w111.cell? ⟨gb2, 1, none⟩ = some (.int .i64 a0_1) := (blk_cell BK3.out 1).trans rfl; have hfzb1_1 := blk_frozen BK3.out 1
  have hczb7_0 : w111.cell? ⟨gb8, 0, none⟩ = some (.int .i64 a1_0) := (blk_cell BK9.out 0).trans rfl; have hfzb7_0 := blk_frozen BK9.out 0; have hczb7_1 : w111.cell? ⟨gb8, 1, none⟩ = some (.int .i64 a1_1) := (blk_cell BK9.out 1).trans rfl; have hfzb7_1 := blk_frozen BK9.out 1; have hczb7_2 : w111.cell? ⟨gb8, 2, none⟩ = some (.slice A1_2 l1_2.length c1_2) := (blk_cell BK9.out 2).trans rfl; have hfzb7_2 := blk_frozen BK9.out 2; have hczb7_3 : w111.cell? ⟨gb8, 3, none⟩ = some (.int .i64 a1_3) := (blk_cell BK9.out 3).trans rfl; have hfzb7_3 := blk_frozen BK9.out 3; have hczb7_4 : w111.cell? ⟨gb8, 4, none⟩ = some (.int .i64 a1_4) := (blk_cell BK9.out 4).trans rfl; have hfzb7_4 := blk_frozen BK9.out 4; have hczb7_5 : w111.cell? ⟨gb8, 5, none⟩ = some (.int .i64 a1_5) := (blk_cell BK9.out 5).trans rfl; have hfzb7_5 := blk_frozen BK9.out 5
  have hczb61_0 : w111.cell? ⟨gb62, 0, none⟩ = some (.slice A59 t51.length c60) := (blk_cell BK63.out 0).trans rfl; have hfzb61_0 := blk_frozen BK63.out 0; have hczb61_1 : w111.cell? ⟨gb62, 1, none⟩ = some (.int .i64 t52) := (blk_cell BK63.out 1).trans rfl; have hfzb61_1 := blk_frozen BK63.out 1
  have hczb83_0 : w111.cell? ⟨gb84, 0, none⟩ = some (.int .i64 t69) := (blk_cell BK85.out 0).trans rfl; have hfzb83_0 := blk_frozen BK85.out 0; have hczb83_1 : w111.cell? ⟨gb84, 1, none⟩ = some (.int .i64 t70) := (blk_cell BK85.out 1).trans rfl; have hfzb83_1 := blk_frozen BK85.out 1; have hczb83_2 : w111.cell? ⟨gb84, 2, none⟩ = some (.slice A81 t71.length c82) := (blk_cell BK85.out 2).trans rfl; have hfzb83_2 := blk_frozen BK85.out 2; have hczb83_3 : w111.cell? ⟨gb84, 3, none⟩ = some (.int .i64 t72) := (blk_cell BK85.out 3).trans rfl; have hfzb83_3 := blk_frozen BK85.out 3; have hczb83_4 : w111.cell? ⟨gb84, 4, none⟩ = some (.int .i64 t73) := (blk_cell BK85.out 4).trans rfl; have hfzb83_4 := blk_frozen BK85.out 4; have hczb83_5 : w111.cell? ⟨gb84, 5, none⟩ = some (.int .i64 t74) := (blk_cell BK85.out 5).trans rfl; have hfzb83_5 := blk_frozen BK85.out 5
  refine start_ (n := 5) (S := fun w' => w'.cell? ⟨gb84, 0, none⟩ = some (.int .i64 t69) ∧ w'.cell? ⟨gb84, 1, none⟩ = some (.int .i64 t70) ∧ w'.cell? ⟨gb84, 2, none⟩ = some (.slice A81 t71.length c82) ∧ w'.cell? ⟨gb84, 3, none⟩ = some (.int .i64 t72) ∧ w'.cell? ⟨gb84, 4, none⟩ = some (.int .i64 t73) ∧ w'.cell? ⟨gb84, 5, none⟩ = some (.int .i64 t74) ∧ w'.cell? ⟨gb8, 0, none⟩ = some (.int .i64 a1_0) ∧ w'.cell? ⟨gb8, 1, none⟩ = some (.int .i64 a1_1) ∧ w'.cell? ⟨gb8, 2, none⟩ = some (.slice A1_2 l1_2.length c1_2) ∧ w'.cell? ⟨gb8, 3, none⟩ = some (.int .i64 a1_3) ∧ w'.cell? ⟨gb8, 4, none⟩ = some (.int .i64 a1_4) ∧ w'.cell? ⟨gb8, 5, none⟩ = some (.int .i64 a1_5)) (ds := []) #[false, false, false, false, false] (by kernel_rfl) rfl rfl (by rw [hw_]; exact ⟨(blk_cell BK85.out 0).trans rfl, (blk_cell BK85.out 1).trans rfl, (blk_cell BK85.out 2).trans rfl, (blk_cell BK85.out 3).trans rfl, (blk_cell BK85.out 4).trans rfl, (blk_cell BK85.out 5).trans rfl, (blk_cell BK9.out 0).trans rfl, (blk_cell BK9.out 1).trans rfl, (blk_cell BK9.out 2).trans rfl, (blk_cell BK9.out 3).trans rfl, (blk_cell BK9.out 4).trans rfl, (blk_cell BK9.out 5).trans rfl⟩) (fun hHeld => ?_)
  rw [hw_] at hHeld ⊢
  clear hw_ hb
  refine take_ (i := 0) (N := some 40) (v := ?_) (a' := ?_) #[true, false, false, false, false] rfl rfl (by kernel_rfl) (fun _ _ _ h => h) (Or.inl ⟨by rfl, ?_⟩) hHeld ?_ ?_
  rotate_left
  · rintro w' ⟨s0, s1, s2, s3, s4, s5, s6, s7, s8, s9, s10, s11⟩
    go_simp
    with_reducible rfl
  rotate_left
  · simp only [Act.put, List.setIfInBounds_toArray, List.set_cons_zero, List.set_cons_succ, i64_w, i32_w]
    rfl
  refine take_ (i := 1) (N := some 41) (v := ?_) (a' := ?_) #[true, true, false, false, false] rfl rfl (by kernel_rfl) (fun _ _ _ h => h) (Or.inl ⟨by rfl, ?_⟩) hHeld ?_ ?_
  rotate_left
  · rintro w' ⟨s0, s1, s2, s3, s4, s5, s6, s7, s8, s9, s10, s11⟩
    go_simp
    with_reducible rfl
  rotate_left
  · simp only [Act.put, List.setIfInBounds_toArray, List.set_cons_zero, List.set_cons_succ, i64_w, i32_w]
    rfl
  refine one_ (i := 2) (N := some 42) #[true, true, true, false, false] rfl rfl (by kernel_rfl) (by decide) (fun K hK => ?_)
  refine goes_ Try.func33 (by kernel_rfl) rfl #[.agg #[.int .i64 a1_0, .int .i64 a1_1, .slice A1_2 l1_2.length c1_2, .int .i64 a1_3, .int .i64 a1_4, .int .i64 a1_5]] (by rfl) rfl rfl (by (try simp only [List.map_toArray, List.map_cons, List.map_nil]); first | done | rfl | (simp only [List.length_drop, List.length_take]; rfl)) ?_
  refine (laws_toCache.calls k a1_0 a1_1 _ _ l1_2 a1_3 a1_4 a1_5 t113 t114 t115 t116 t117 t118 _ (Kd.C_below HR1_2.out HB.out) HC1_2.out H119.out).mono ?_
  rintro e_ w120 ⟨v121, rfl, f122, hb⟩
  have hq_ : Below w111.heap.size w111 w120 := ⟨hb.os, hb.tape, hb.output, hb.size, hb.block⟩
  have HZ123 := Aside0.mk (show w111.heap.size ≤ w120.heap.size from hq_.size)
  have hn_ := Aside0.mk (below_then HB.out HB.out.size hq_)
  clear HB
  have HB := hn_
  clear hn_
  have hn_ := Aside0.mk (Kd.S_below F30.out hq_)
  clear F30
  have F30 := hn_
  clear hn_
  have hn_ := Aside0.mk (Kd.R_below F44.out hq_)
  clear F44
  have F44 := hn_
  clear hn_
  have hn_ := Aside0.mk (Kd.S_below F58.out hq_)
  clear F58
  have F58 := hn_
  clear hn_
  have hn_ := Aside0.mk (Kd.R_below F80.out hq_)
  clear F80
  have F80 := hn_
  clear hn_
  have hn_ := Aside0.mk (Kd.S_below F104.out hq_)
  clear F104
  have F104 := hn_
  clear hn_
  have hn_ := Aside0.mk (blk_below BK3.out hq_)
  clear hczb1_0 hfzb1_0; clear hczb1_1 hfzb1_1
  clear BK3
  have BK3 := hn_
  clear hn_
  have hn_ := Aside0.mk (blk_below BK9.out hq_)
  clear hczb7_0 hfzb7_0; clear hczb7_1 hfzb7_1; clear hczb7_2 hfzb7_2; clear hczb7_3 hfzb7_3; clear hczb7_4 hfzb7_4; clear hczb7_5 hfzb7_5
  clear BK9
  have BK9 := hn_
  clear hn_
  have hn_ := Aside0.mk (blk_below BK63.out hq_)
  clear hczb61_0 hfzb61_0; clear hczb61_1 hfzb61_1
  clear BK63
  have BK63 := hn_
  clear hn_
  have hn_ := Aside0.mk (blk_below BK85.out hq_)
  clear hczb83_0 hfzb83_0; clear hczb83_1 hfzb83_1; clear hczb83_2 hfzb83_2; clear hczb83_3 hfzb83_3; clear hczb83_4 hfzb83_4; clear hczb83_5 hfzb83_5
  clear BK85
  have BK85 := hn_
  clear hn_
  clear hq_
  have hczb1_0 : w120.cell? ⟨gb2, 0, none⟩ = some (.slice A0_0 l0_0.length c0_0) := (blk_cell BK3.out 0).trans rfl; have hfzb1_0 := blk_frozen BK3.out 0; have hczb1_1 : w120.cell? ⟨gb2, 1, none⟩ = some (.int .i64 a0_1) := (blk_cell BK3.out 1).trans rfl; have hfzb1_1 := blk_frozen BK3.out 1
  have hczb7_0 : w120.cell? ⟨gb8, 0, none⟩ = some (.int .i64 a1_0) := (blk_cell BK9.out 0).trans rfl; have hfzb7_0 := blk_frozen BK9.out 0; have hczb7_1 : w120.cell? ⟨gb8, 1, none⟩ = some (.int .i64 a1_1) := (blk_cell BK9.out 1).trans rfl; have hfzb7_1 := blk_frozen BK9.out 1; have hczb7_2 : w120.cell? ⟨gb8, 2, none⟩ = some (.slice A1_2 l1_2.length c1_2) := (blk_cell BK9.out 2).trans rfl; have hfzb7_2 := blk_frozen BK9.out 2; have hczb7_3 : w120.cell? ⟨gb8, 3, none⟩ = some (.int .i64 a1_3) := (blk_cell BK9.out 3).trans rfl; have hfzb7_3 := blk_frozen BK9.out 3; have hczb7_4 : w120.cell? ⟨gb8, 4, none⟩ = some (.int .i64 a1_4) := (blk_cell BK9.out 4).trans rfl; have hfzb7_4 := blk_frozen BK9.out 4; have hczb7_5 : w120.cell? ⟨gb8, 5, none⟩ = some (.int .i64 a1_5) := (blk_cell BK9.out 5).trans rfl; have hfzb7_5 := blk_frozen BK9.out 5
  have hczb61_0 : w120.cell? ⟨gb62, 0, none⟩ = some (.slice A59 t51.length c60) := (blk_cell BK63.out 0).trans rfl; have hfzb61_0 := blk_frozen BK63.out 0; have hczb61_1 : w120.cell? ⟨gb62, 1, none⟩ = some (.int .i64 t52) := (blk_cell BK63.out 1).trans rfl; have hfzb61_1 := blk_frozen BK63.out 1
  have hczb83_0 : w120.cell? ⟨gb84, 0, none⟩ = some (.int .i64 t69) := (blk_cell BK85.out 0).trans rfl; have hfzb83_0 := blk_frozen BK85.out 0; have hczb83_1 : w120.cell? ⟨gb84, 1, none⟩ = some (.int .i64 t70) := (blk_cell BK85.out 1).trans rfl; have hfzb83_1 := blk_frozen BK85.out 1; have hczb83_2 : w120.cell? ⟨gb84, 2, none⟩ = some (.slice A81 t71.length c82) := (blk_cell BK85.out 2).trans rfl; have hfzb83_2 := blk_frozen BK85.out 2; have hczb83_3 : w120.cell? ⟨gb84, 3, none⟩ = some (.int .i64 t72) := (blk_cell BK85.out 3).trans rfl; have hfzb83_3 := blk_frozen BK85.out 3; have hczb83_4 : w120.cell? ⟨gb84, 4, none⟩ = some (.int .i64 t73) := (blk_cell BK85.out 4).trans rfl; have hfzb83_4 := blk_frozen BK85.out 4; have hczb83_5 : w120.cell? ⟨gb84, 5, none⟩ = some (.int .i64 t74) := (blk_cell BK85.out 5).trans rfl; have hfzb83_5 := blk_frozen BK85.out 5
  clear hb
  refine ⟨_, rfl, ?_⟩
  have F124 := Aside0.mk (Lk.newR (b := w111.heap.size) (base := w.heap.size) (Sep := fun k_ => True) rfl f122 (by have := HZ6.out; have := HZ12.out; have := HZ16.out; have := HZ20.out; have := HZ22.out; have := HZ29.out; have := HZ43.out; have := HZ50.out; have := HZ57.out; have := HZ66.out; have := HZ68.out; have := HZ79.out; have := HZ88.out; have := HZ90.out; have := HZ94.out; have := HZ96.out; have := HZ103.out; have := HZ110.out; have := HZ112.out; have := HZ123.out; omega) (fun k_ hk_ => hk_))
  clear f122
  obtain ⟨A125, c126, e_⟩ := Kd.R_slice F124.out
  subst e_
  refine hK.out _ _ ⟨(blk_cell BK85.out 0).trans rfl, (blk_cell BK85.out 1).trans rfl, (blk_cell BK85.out 2).trans rfl, (blk_cell BK85.out 3).trans rfl, (blk_cell BK85.out 4).trans rfl, (blk_cell BK85.out 5).trans rfl, (blk_cell BK9.out 0).trans rfl, (blk_cell BK9.out 1).trans rfl, (blk_cell BK9.out 2).trans rfl, (blk_cell BK9.out 3).trans rfl, (blk_cell BK9.out 4).trans rfl, (blk_cell BK9.out 5).trans rfl⟩ (fun hHeld => ?_)
  clear hK K
  refine norm_ (a' := ?_) ?_ ?_
  rotate_left
  · show Act.put _ (some 42) _ = _
    simp only [Act.put, List.setIfInBounds_toArray, List.set_cons_zero, List.set_cons_succ, i64_w, i32_w]
    rfl
  refine one_ (i := 3) (N := some 43) #[true, true, true, true, false] rfl rfl (by kernel_rfl) (by decide) (fun K hK => ?_)
  refine goes_ Try.func28 (by kernel_rfl) rfl #[.agg #[.int .i64 t69, .int .i64 t70, .slice A81 t71.length c82, .int .i64 t72, .int .i64 t73, .int .i64 t74], .agg #[.int .i64 t113, .int .i64 t114, .slice A125 t115.length c126, .int .i64 t116, .int .i64 t117, .int .i64 t118]] (by rfl) rfl rfl (by (try simp only [List.map_toArray, List.map_cons, List.map_nil]); first | done | rfl | (simp only [List.length_drop, List.length_take]; rfl)) ?_
  refine (laws_eqCache.calls k t69 t70 _ _ t71 t72 t73 t74 t113 t114 _ _ t115 t116 t117 t118 true _ (Lk.Rr F80.out).2 (Lk.Rr F80.out).1 (Lk.Rr F124.out).2 (Lk.Rr F124.out).1 H128.out).mono ?_
  rintro e_ w129 ⟨rfl, hb⟩
  have hq_ : Below w120.heap.size w120 w129 := ⟨hb.os, hb.tape, hb.output, hb.size, hb.block⟩
  have HZ130 := Aside0.mk (show w120.heap.size ≤ w129.heap.size from hq_.size)
  have hn_ := Aside0.mk (below_then HB.out HB.out.size hq_)
  clear HB
  have HB := hn_
  clear hn_
  have hn_ := Aside0.mk (Kd.S_below F30.out hq_)
  clear F30
  have F30 := hn_
  clear hn_
  have hn_ := Aside0.mk (Kd.R_below F44.out hq_)
  clear F44
  have F44 := hn_
  clear hn_
  have hn_ := Aside0.mk (Kd.S_below F58.out hq_)
  clear F58
  have F58 := hn_
  clear hn_
  have hn_ := Aside0.mk (Kd.R_below F80.out hq_)
  clear F80
  have F80 := hn_
  clear hn_
  have hn_ := Aside0.mk (Kd.S_below F104.out hq_)
  clear F104
  have F104 := hn_
  clear hn_
  have hn_ := Aside0.mk (Kd.R_below F124.out hq_)
  clear F124
  have F124 := hn_
  clear hn_
  have hn_ := Aside0.mk (blk_below BK3.out hq_)
  clear hczb1_0 hfzb1_0; clear hczb1_1 hfzb1_1
  clear BK3
  have BK3 := hn_
  clear hn_
  have hn_ := Aside0.mk (blk_below BK9.out hq_)
  clear hczb7_0 hfzb7_0; clear hczb7_1 hfzb7_1; clear hczb7_2 hfzb7_2; clear hczb7_3 hfzb7_3; clear hczb7_4 hfzb7_4; clear hczb7_5 hfzb7_5
  clear BK9
  have BK9 := hn_
  clear hn_
  have hn_ := Aside0.mk (blk_below BK63.out hq_)
  clear hczb61_0 hfzb61_0; clear hczb61_1 hfzb61_1
  clear BK63
  have BK63 := hn_
  clear hn_
  have hn_ := Aside0.mk (blk_below BK85.out hq_)
  clear hczb83_0 hfzb83_0; clear hczb83_1 hfzb83_1; clear hczb83_2 hfzb83_2; clear hczb83_3 hfzb83_3; clear hczb83_4 hfzb83_4; clear hczb83_5 hfzb83_5
  clear BK85
  have BK85 := hn_
  clear hn_
  clear hq_
  have hczb1_0 : w129.cell? ⟨gb2, 0, none⟩ = some (.slice A0_0 l0_0.length c0_0) := (blk_cell BK3.out 0).trans rfl; have hfzb1_0 := blk_frozen BK3.out 0; have hczb1_1 : w129.cell? ⟨gb2, 1, none⟩ = some (.int .i64 a0_1) := (blk_cell BK3.out 1).trans rfl; have hfzb1_1 := blk_frozen BK3.out 1
  have hczb7_0 : w129.cell? ⟨gb8, 0, none⟩ = some (.int .i64 a1_0) := (blk_cell BK9.out 0).trans rfl; have hfzb7_0 := blk_frozen BK9.out 0; have hczb7_1 : w129.cell? ⟨gb8, 1, none⟩ = some (.int .i64 a1_1) := (blk_cell BK9.out 1).trans rfl; have hfzb7_1 := blk_frozen BK9.out 1; have hczb7_2 : w129.cell? ⟨gb8, 2, none⟩ = some (.slice A1_2 l1_2.length c1_2) := (blk_cell BK9.out 2).trans rfl; have hfzb7_2 := blk_frozen BK9.out 2; have hczb7_3 : w129.cell? ⟨gb8, 3, none⟩ = some (.int .i64 a1_3) := (blk_cell BK9.out 3).trans rfl; have hfzb7_3 := blk_frozen BK9.out 3; have hczb7_4 : w129.cell? ⟨gb8, 4, none⟩ = some (.int .i64 a1_4) := (blk_cell BK9.out 4).trans rfl; have hfzb7_4 := blk_frozen BK9.out 4; have hczb7_5 : w129.cell? ⟨gb8, 5, none⟩ = some (.int .i64 a1_5) := (blk_cell BK9.out 5).trans rfl; have hfzb7_5 := blk_frozen BK9.out 5
  have hczb61_0 : w129.cell? ⟨gb62, 0, none⟩ = some (.slice A59 t51.length c60) := (blk_cell BK63.out 0).trans rfl; have hfzb61_0 := blk_frozen BK63.out 0; have hczb61_1 : w129.cell? ⟨gb62, 1, none⟩ = some (.int .i64 t52) := (blk_cell BK63.out 1).trans rfl; have hfzb61_1 := blk_frozen BK63.out 1
  have hczb83_0 : w129.cell? ⟨gb84, 0, none⟩ = some (.int .i64 t69) := (blk_cell BK85.out 0).trans rfl; have hfzb83_0 := blk_frozen BK85.out 0; have hczb83_1 : w129.cell? ⟨gb84, 1, none⟩ = some (.int .i64 t70) := (blk_cell BK85.out 1).trans rfl; have hfzb83_1 := blk_frozen BK85.out 1; have hczb83_2 : w129.cell? ⟨gb84, 2, none⟩ = some (.slice A81 t71.length c82) := (blk_cell BK85.out 2).trans rfl; have hfzb83_2 := blk_frozen BK85.out 2; have hczb83_3 : w129.cell? ⟨gb84, 3, none⟩ = some (.int .i64 t72) := (blk_cell BK85.out 3).trans rfl; have hfzb83_3 := blk_frozen BK85.out 3; have hczb83_4 : w129.cell? ⟨gb84, 4, none⟩ = some (.int .i64 t73) := (blk_cell BK85.out 4).trans rfl; have hfzb83_4 := blk_frozen BK85.out 4; have hczb83_5 : w129.cell? ⟨gb84, 5, none⟩ = some (.int .i64 t74) := (blk_cell BK85.out 5).trans rfl; have hfzb83_5 := blk_frozen BK85.out 5
  clear hb
  refine ⟨_, rfl, ?_⟩
  refine hK.out _ _ ⟨(blk_cell BK85.out 0).trans rfl, (blk_cell BK85.out 1).trans rfl, (blk_cell BK85.out 2).trans rfl, (blk_cell BK85.out 3).trans rfl, (blk_cell BK85.out 4).trans rfl, (blk_cell BK85.out 5).trans rfl, (blk_cell BK9.out 0).trans rfl, (blk_cell BK9.out 1).trans rfl, (blk_cell BK9.out 2).trans rfl, (blk_cell BK9.out 3).trans rfl, (blk_cell BK9.out 4).trans rfl, (blk_cell BK9.out 5).trans rfl⟩ (fun hHeld => ?_)
  clear hK K
  refine norm_ (a' := ?_) ?_ ?_
  rotate_left
  · show Act.put _ (some 43) _ = _
    simp only [Act.put, List.setIfInBounds_toArray, List.set_cons_zero, List.set_cons_succ, i64_w, i32_w]
    rfl
  refine pure_ (i := 4) (N := some 44) (v := ?_) (a' := ?_) #[true, true, true, true, true] rfl rfl (by kernel_rfl) (fun _ _ _ h => h) (Or.inl ⟨by rfl, ?_⟩) ?_ ?_
  rotate_left
  · intro w'
    go_simp
    with_reducible rfl
  rotate_left
  · simp only [Act.put, List.setIfInBounds_toArray, List.set_cons_zero, List.set_cons_succ, i64_w, i32_w]
    rfl
  refine done_ (by kernel_rfl) ?_
  go_wp2_with fail
  go_ret
  exact ⟨rfl, HB.out⟩
end Go.Proofs.Ytjmgleomljfieaa.Q
