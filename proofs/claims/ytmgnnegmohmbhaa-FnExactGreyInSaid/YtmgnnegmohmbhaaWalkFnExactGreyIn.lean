/- The law FnExactGreyIn of this seat: the walk along its one way. Conditions: none. -/
import Derived.Test.YtmgnnegmohmbhaaQx0
import Derived.Test.YtmgnnegmohmbhaaQx1
import Derived.Test.YtmgnnegmohmbhaaQx2
import Derived.Test.YtmgnnegmohmbhaaQx5
import Derived.Test.YtmgnnegmohmbhaaQx7
import Derived.Test.YtmgnnegmohmbhaaGoodFnExactGreyIn
import Derived.Test.YtmgnnegmohmbhaaLk
namespace Go.Proofs.Ytmgnnegmohmbhaa.Q
open Go.RowKit Go.Proofs.YtmgnnegmohmbhaaW.PrintWords Go.Proofs.YtmgnnegmohmbhaaW.PrintLast Go.Proofs.YtmgnnegmohmbhaaW.PrintMore
set_option linter.unusedVariables false
set_option linter.unusedSimpArgs false
open Lk in
set_option maxHeartbeats 8000000 in
set_option maxRecDepth 100000 in
theorem laws_FnExactGreyIn.calls (k : Nat) (A0_0 : Option Addr) (c0_0 : Nat) (l0_0 : List (S56)) (A0_1 : Option Addr) (c0_1 : Nat) (l0_1 : List Int) (a0_2 : Bool) (r : Bool) (w : World) (hr0_0 : Kd.C k56 w A0_0 l0_0.length l0_0) (hc0_0 : l0_0.length ≤ c0_0) (hr0_1 : Kd.C (Kd.int .i64) w A0_1 l0_1.length l0_1) (hc0_1 : l0_1.length ≤ c0_1) (h : laws_FnExactGreyIn.f k l0_0 l0_1 a0_2 = some r) :
    Calls Try.prog 5 #[.agg #[.slice A0_0 l0_0.length c0_0, .slice A0_1 l0_1.length c0_1, .bool a0_2]] w fun e w' => e = .returned (.bool r) ∧ Below w.heap.size w w' := by
  unfold laws_FnExactGreyIn.f at h
  split at h
  case isFalse => cases h
  rename_i hg
  obtain rfl := Option.some.inj h
  clear h
  have HR0_0 := Aside0.mk hr0_0
  have HC0_0 := Aside0.mk hc0_0
  clear hr0_0 hc0_0
  have HR0_1 := Aside0.mk hr0_1
  have HC0_1 := Aside0.mk hc0_1
  clear hr0_1 hc0_1
  have HB := Aside0.mk (Below.refl w.heap.size w)
  unfold laws_FnExactGreyIn.good at hg
  obtain ⟨t7, H80, hg⟩ := hg
  have H8 := Aside0.mk H80
  clear H80
  rcases hg with hs | ⟨hs, hg⟩
  · have hs1_ : decide (t7 < 0) = true := decide_eq_true hs
    clear hs
    go_enter Try.func5, Try.ntmps5
    go_wp2_with (first | ((with_reducible refine gate_dst (N := 1) rfl ?_); refine box_event ?hg (N := 1) ?hd (cs := #[.slice A0_0 l0_0.length c0_0, .slice A0_1 l0_1.length c0_1, .bool a0_2]) (t := 33) ?hr ?_; (case hd => rfl); (case hg => rfl); (case hr => first | (go_simp; done) | (go_simp; rfl)); intro gb2 hg_ w5 hx_ hb; have hg2_ : gb2 = w.heap.size := hg_; have hq_ : Below w.heap.size w w5 := ⟨hb.os, hb.tape, hb.output, hb.size, hb.block⟩; have HZ6 := Aside0.mk (show w.heap.size ≤ w5.heap.size from hq_.size); have hn_ := Aside0.mk (below_then HB.out HB.out.size hq_); clear HB; have HB := hn_; clear hn_; clear hq_; have BK3 := Aside0.mk hx_; have GQ4 := Aside0.mk (show w.heap.size ≤ gb2 ∧ gb2 < w5.heap.size from ⟨Nat.le_of_eq hg2_.symm, blk_lt hx_⟩); clear hb hg_ hg2_ hx_; have hczb1_0 : w5.cell? ⟨gb2, 0, none⟩ = some (.slice A0_0 l0_0.length c0_0) := (blk_cell BK3.out 0).trans rfl; have hfzb1_0 := blk_frozen BK3.out 0; have hczb1_1 : w5.cell? ⟨gb2, 1, none⟩ = some (.slice A0_1 l0_1.length c0_1) := (blk_cell BK3.out 1).trans rfl; have hfzb1_1 := blk_frozen BK3.out 1; have hczb1_2 : w5.cell? ⟨gb2, 2, none⟩ = some (.bool a0_2) := (blk_cell BK3.out 2).trans rfl; have hfzb1_2 := blk_frozen BK3.out 2))
    refine (laws_szMarker.calls k _ _ l0_0 _ _ l0_1 a0_2 1048576 t7 _ (Kd.C_below HR0_0.out HB.out) HC0_0.out (Kd.C_below HR0_1.out HB.out) HC0_1.out H8.out).mono ?_
    rintro e_ w9 ⟨rfl, hb⟩
    have hq_ : Below w5.heap.size w5 w9 := ⟨hb.os, hb.tape, hb.output, hb.size, hb.block⟩
    have HZ10 := Aside0.mk (show w5.heap.size ≤ w9.heap.size from hq_.size)
    have hn_ := Aside0.mk (below_then HB.out HB.out.size hq_)
    clear HB
    have HB := hn_
    clear hn_
    have hn_ := Aside0.mk (blk_below BK3.out hq_)
    clear hczb1_0 hfzb1_0; clear hczb1_1 hfzb1_1; clear hczb1_2 hfzb1_2
    clear BK3
    have BK3 := hn_
    clear hn_
    clear hq_
    have hczb1_0 : w9.cell? ⟨gb2, 0, none⟩ = some (.slice A0_0 l0_0.length c0_0) := (blk_cell BK3.out 0).trans rfl; have hfzb1_0 := blk_frozen BK3.out 0; have hczb1_1 : w9.cell? ⟨gb2, 1, none⟩ = some (.slice A0_1 l0_1.length c0_1) := (blk_cell BK3.out 1).trans rfl; have hfzb1_1 := blk_frozen BK3.out 1; have hczb1_2 : w9.cell? ⟨gb2, 2, none⟩ = some (.bool a0_2) := (blk_cell BK3.out 2).trans rfl; have hfzb1_2 := blk_frozen BK3.out 2
    clear hb
    go_wp2_with fail
    go_ret
    exact ⟨rfl, HB.out⟩
  have hs2_ : decide (t7 < 0) = false := decide_eq_false hs
  clear hs
  obtain ⟨t11, t12, t13, H140, t27, t28, H290, t37, t38, t39, H400, t61, H630, H720, t77, t78, t79, H800, H940, H980, H1040, t108, t109, H1100, H1110, H1160, t119, t120, t121, H1220, t135, H1370, H1460, H1500, hg⟩ := hg
  have H14 := Aside0.mk H140
  clear H140
  have H29 := Aside0.mk H290
  clear H290
  have H40 := Aside0.mk H400
  clear H400
  have H63 := Aside0.mk H630
  clear H630
  have H72 := Aside0.mk H720
  clear H720
  have H80 := Aside0.mk H800
  clear H800
  have H94 := Aside0.mk H940
  clear H940
  have H98 := Aside0.mk H980
  clear H980
  have H104 := Aside0.mk H1040
  clear H1040
  have H110 := Aside0.mk H1100
  clear H1100
  have H111 := Aside0.mk H1110
  clear H1110
  have H116 := Aside0.mk H1160
  clear H1160
  have H122 := Aside0.mk H1220
  clear H1220
  have H137 := Aside0.mk H1370
  clear H1370
  have H146 := Aside0.mk H1460
  clear H1460
  have H150 := Aside0.mk H1500
  clear H1500
  clear hg
  go_enter Try.func5, Try.ntmps5
  go_wp2_with (first | ((with_reducible refine gate_dst (N := 1) rfl ?_); refine box_event ?hg (N := 1) ?hd (cs := #[.slice A0_0 l0_0.length c0_0, .slice A0_1 l0_1.length c0_1, .bool a0_2]) (t := 33) ?hr ?_; (case hd => rfl); (case hg => rfl); (case hr => first | (go_simp; done) | (go_simp; rfl)); intro gb2 hg_ w5 hx_ hb; have hg2_ : gb2 = w.heap.size := hg_; have hq_ : Below w.heap.size w w5 := ⟨hb.os, hb.tape, hb.output, hb.size, hb.block⟩; have HZ6 := Aside0.mk (show w.heap.size ≤ w5.heap.size from hq_.size); have hn_ := Aside0.mk (below_then HB.out HB.out.size hq_); clear HB; have HB := hn_; clear hn_; clear hq_; have BK3 := Aside0.mk hx_; have GQ4 := Aside0.mk (show w.heap.size ≤ gb2 ∧ gb2 < w5.heap.size from ⟨Nat.le_of_eq hg2_.symm, blk_lt hx_⟩); clear hb hg_ hg2_ hx_; have hczb1_0 : w5.cell? ⟨gb2, 0, none⟩ = some (.slice A0_0 l0_0.length c0_0) := (blk_cell BK3.out 0).trans rfl; have hfzb1_0 := blk_frozen BK3.out 0; have hczb1_1 : w5.cell? ⟨gb2, 1, none⟩ = some (.slice A0_1 l0_1.length c0_1) := (blk_cell BK3.out 1).trans rfl; have hfzb1_1 := blk_frozen BK3.out 1; have hczb1_2 : w5.cell? ⟨gb2, 2, none⟩ = some (.bool a0_2) := (blk_cell BK3.out 2).trans rfl; have hfzb1_2 := blk_frozen BK3.out 2))
  refine (laws_szMarker.calls k _ _ l0_0 _ _ l0_1 a0_2 1048576 t7 _ (Kd.C_below HR0_0.out HB.out) HC0_0.out (Kd.C_below HR0_1.out HB.out) HC0_1.out H8.out).mono ?_
  rintro e_ w9 ⟨rfl, hb⟩
  have hq_ : Below w5.heap.size w5 w9 := ⟨hb.os, hb.tape, hb.output, hb.size, hb.block⟩
  have HZ10 := Aside0.mk (show w5.heap.size ≤ w9.heap.size from hq_.size)
  have hn_ := Aside0.mk (below_then HB.out HB.out.size hq_)
  clear HB
  have HB := hn_
  clear hn_
  have hn_ := Aside0.mk (blk_below BK3.out hq_)
  clear hczb1_0 hfzb1_0; clear hczb1_1 hfzb1_1; clear hczb1_2 hfzb1_2
  clear BK3
  have BK3 := hn_
  clear hn_
  clear hq_
  have hczb1_0 : w9.cell? ⟨gb2, 0, none⟩ = some (.slice A0_0 l0_0.length c0_0) := (blk_cell BK3.out 0).trans rfl; have hfzb1_0 := blk_frozen BK3.out 0; have hczb1_1 : w9.cell? ⟨gb2, 1, none⟩ = some (.slice A0_1 l0_1.length c0_1) := (blk_cell BK3.out 1).trans rfl; have hfzb1_1 := blk_frozen BK3.out 1; have hczb1_2 : w9.cell? ⟨gb2, 2, none⟩ = some (.bool a0_2) := (blk_cell BK3.out 2).trans rfl; have hfzb1_2 := blk_frozen BK3.out 2
  clear hb
  go_wp2_with fail
  refine (laws_toMarker.calls k _ _ l0_0 _ _ l0_1 a0_2 t11 t12 t13 _ (Kd.C_below HR0_0.out HB.out) HC0_0.out (Kd.C_below HR0_1.out HB.out) HC0_1.out H14.out).mono ?_
  rintro e_ w15 ⟨v16, v17, rfl, f18, f19, hb⟩
  have hq_ : Below w9.heap.size w9 w15 := ⟨hb.os, hb.tape, hb.output, hb.size, hb.block⟩
  have HZ20 := Aside0.mk (show w9.heap.size ≤ w15.heap.size from hq_.size)
  have hn_ := Aside0.mk (below_then HB.out HB.out.size hq_)
  clear HB
  have HB := hn_
  clear hn_
  have hn_ := Aside0.mk (blk_below BK3.out hq_)
  clear hczb1_0 hfzb1_0; clear hczb1_1 hfzb1_1; clear hczb1_2 hfzb1_2
  clear BK3
  have BK3 := hn_
  clear hn_
  clear hq_
  have hczb1_0 : w15.cell? ⟨gb2, 0, none⟩ = some (.slice A0_0 l0_0.length c0_0) := (blk_cell BK3.out 0).trans rfl; have hfzb1_0 := blk_frozen BK3.out 0; have hczb1_1 : w15.cell? ⟨gb2, 1, none⟩ = some (.slice A0_1 l0_1.length c0_1) := (blk_cell BK3.out 1).trans rfl; have hfzb1_1 := blk_frozen BK3.out 1; have hczb1_2 : w15.cell? ⟨gb2, 2, none⟩ = some (.bool a0_2) := (blk_cell BK3.out 2).trans rfl; have hfzb1_2 := blk_frozen BK3.out 2
  clear hb
  have F21 := Aside0.mk (Lk.newS (b := w9.heap.size) (base := w.heap.size) (Sep := fun k_ => some k_ ≠ (v17 : Value).ownBlock) f18 (by have := HZ6.out; have := HZ10.out; have := HZ20.out; omega) (fun k_ hk_ => hk_))
  clear f18
  have F24 := Aside0.mk (Lk.newR (b := w9.heap.size) (base := w.heap.size) (Sep := fun k_ => True) rfl f19 (by have := HZ6.out; have := HZ10.out; have := HZ20.out; omega) (fun k_ hk_ => hk_))
  clear f19
  obtain ⟨A22, c23, e_⟩ := Kd.S_slice F21.out
  subst e_
  obtain ⟨A25, c26, e_⟩ := Kd.R_slice F24.out
  subst e_
  go_wp2_with fail
  refine (spec_GreyIn.calls k _ _ t11 _ _ t12 t13 t27 t28 _ (Lk.Sr F21.out).2 (Lk.Sr F21.out).1 (Lk.Rr F24.out).2 (Lk.Rr F24.out).1 H29.out).mono ?_
  rintro e_ w30 ⟨v31, rfl, f32, hb⟩
  have hq_ : Below w15.heap.size w15 w30 := ⟨hb.os, hb.tape, hb.output, hb.size, hb.block⟩
  have HZ33 := Aside0.mk (show w15.heap.size ≤ w30.heap.size from hq_.size)
  have hn_ := Aside0.mk (below_then HB.out HB.out.size hq_)
  clear HB
  have HB := hn_
  clear hn_
  have hn_ := Aside0.mk (Kd.S_below F21.out hq_)
  clear F21
  have F21 := hn_
  clear hn_
  have hn_ := Aside0.mk (Kd.R_below F24.out hq_)
  clear F24
  have F24 := hn_
  clear hn_
  have hn_ := Aside0.mk (blk_below BK3.out hq_)
  clear hczb1_0 hfzb1_0; clear hczb1_1 hfzb1_1; clear hczb1_2 hfzb1_2
  clear BK3
  have BK3 := hn_
  clear hn_
  clear hq_
  have hczb1_0 : w30.cell? ⟨gb2, 0, none⟩ = some (.slice A0_0 l0_0.length c0_0) := (blk_cell BK3.out 0).trans rfl; have hfzb1_0 := blk_frozen BK3.out 0; have hczb1_1 : w30.cell? ⟨gb2, 1, none⟩ = some (.slice A0_1 l0_1.length c0_1) := (blk_cell BK3.out 1).trans rfl; have hfzb1_1 := blk_frozen BK3.out 1; have hczb1_2 : w30.cell? ⟨gb2, 2, none⟩ = some (.bool a0_2) := (blk_cell BK3.out 2).trans rfl; have hfzb1_2 := blk_frozen BK3.out 2
  clear hb
  have F34 := Aside0.mk (Lk.newR (b := w15.heap.size) (base := w.heap.size) (Sep := fun k_ => True) rfl f32 (by have := HZ6.out; have := HZ10.out; have := HZ20.out; have := HZ33.out; omega) (fun k_ hk_ => hk_))
  clear f32
  obtain ⟨A35, c36, e_⟩ := Kd.R_slice F34.out
  subst e_
  go_wp2_with fail
  refine (laws_toMarker.calls k _ _ l0_0 _ _ l0_1 a0_2 t37 t38 t39 _ (Kd.C_below HR0_0.out HB.out) HC0_0.out (Kd.C_below HR0_1.out HB.out) HC0_1.out H40.out).mono ?_
  rintro e_ w41 ⟨v42, v43, rfl, f44, f45, hb⟩
  have hq_ : Below w30.heap.size w30 w41 := ⟨hb.os, hb.tape, hb.output, hb.size, hb.block⟩
  have HZ46 := Aside0.mk (show w30.heap.size ≤ w41.heap.size from hq_.size)
  have hn_ := Aside0.mk (below_then HB.out HB.out.size hq_)
  clear HB
  have HB := hn_
  clear hn_
  have hn_ := Aside0.mk (Kd.S_below F21.out hq_)
  clear F21
  have F21 := hn_
  clear hn_
  have hn_ := Aside0.mk (Kd.R_below F24.out hq_)
  clear F24
  have F24 := hn_
  clear hn_
  have hn_ := Aside0.mk (Kd.R_below F34.out hq_)
  clear F34
  have F34 := hn_
  clear hn_
  have hn_ := Aside0.mk (blk_below BK3.out hq_)
  clear hczb1_0 hfzb1_0; clear hczb1_1 hfzb1_1; clear hczb1_2 hfzb1_2
  clear BK3
  have BK3 := hn_
  clear hn_
  clear hq_
  have hczb1_0 : w41.cell? ⟨gb2, 0, none⟩ = some (.slice A0_0 l0_0.length c0_0) := (blk_cell BK3.out 0).trans rfl; have hfzb1_0 := blk_frozen BK3.out 0; have hczb1_1 : w41.cell? ⟨gb2, 1, none⟩ = some (.slice A0_1 l0_1.length c0_1) := (blk_cell BK3.out 1).trans rfl; have hfzb1_1 := blk_frozen BK3.out 1; have hczb1_2 : w41.cell? ⟨gb2, 2, none⟩ = some (.bool a0_2) := (blk_cell BK3.out 2).trans rfl; have hfzb1_2 := blk_frozen BK3.out 2
  clear hb
  have F47 := Aside0.mk (Lk.newS (b := w30.heap.size) (base := w.heap.size) (Sep := fun k_ => some k_ ≠ (v43 : Value).ownBlock) f44 (by have := HZ6.out; have := HZ10.out; have := HZ20.out; have := HZ33.out; have := HZ46.out; omega) (fun k_ hk_ => hk_))
  clear f44
  have F50 := Aside0.mk (Lk.newR (b := w30.heap.size) (base := w.heap.size) (Sep := fun k_ => True) rfl f45 (by have := HZ6.out; have := HZ10.out; have := HZ20.out; have := HZ33.out; have := HZ46.out; omega) (fun k_ hk_ => hk_))
  clear f45
  obtain ⟨A48, c49, e_⟩ := Kd.S_slice F47.out
  subst e_
  obtain ⟨A51, c52, e_⟩ := Kd.R_slice F50.out
  subst e_
  go_wp2_with (first | ((with_reducible refine gate_dst (N := 6) rfl ?_); refine box_event ?hg (N := 6) ?hd (cs := #[.slice none 0 0, .slice none 0 0, .bool false]) (t := 25) ?hr ?_; (case hd => rfl); (case hg => rfl); (case hr => first | (go_simp; done) | (go_simp; rfl)); intro gb54 hg_ w57 hx_ hb; have hg2_ : gb54 = w41.heap.size := hg_; have hq_ : Below w41.heap.size w41 w57 := ⟨hb.os, hb.tape, hb.output, hb.size, hb.block⟩; have HZ58 := Aside0.mk (show w41.heap.size ≤ w57.heap.size from hq_.size); have hn_ := Aside0.mk (below_then HB.out HB.out.size hq_); clear HB; have HB := hn_; clear hn_; have hn_ := Aside0.mk (Kd.S_below F21.out hq_); clear F21; have F21 := hn_; clear hn_; have hn_ := Aside0.mk (Kd.R_below F24.out hq_); clear F24; have F24 := hn_; clear hn_; have hn_ := Aside0.mk (Kd.R_below F34.out hq_); clear F34; have F34 := hn_; clear hn_; have hn_ := Aside0.mk (Kd.S_below F47.out hq_); clear F47; have F47 := hn_; clear hn_; have hn_ := Aside0.mk (Kd.R_below F50.out hq_); clear F50; have F50 := hn_; clear hn_; have hn_ := Aside0.mk (blk_below BK3.out hq_); clear hczb1_0 hfzb1_0; clear hczb1_1 hfzb1_1; clear hczb1_2 hfzb1_2; clear BK3; have BK3 := hn_; clear hn_; clear hq_; have hczb1_0 : w57.cell? ⟨gb2, 0, none⟩ = some (.slice A0_0 l0_0.length c0_0) := (blk_cell BK3.out 0).trans rfl; have hfzb1_0 := blk_frozen BK3.out 0; have hczb1_1 : w57.cell? ⟨gb2, 1, none⟩ = some (.slice A0_1 l0_1.length c0_1) := (blk_cell BK3.out 1).trans rfl; have hfzb1_1 := blk_frozen BK3.out 1; have hczb1_2 : w57.cell? ⟨gb2, 2, none⟩ = some (.bool a0_2) := (blk_cell BK3.out 2).trans rfl; have hfzb1_2 := blk_frozen BK3.out 2; have BK55 := Aside0.mk hx_; have GQ56 := Aside0.mk (show w41.heap.size ≤ gb54 ∧ gb54 < w57.heap.size from ⟨Nat.le_of_eq hg2_.symm, blk_lt hx_⟩); clear hb hg_ hg2_ hx_; have hczb53_0 : w57.cell? ⟨gb54, 0, none⟩ = some (.slice none 0 0) := (blk_cell BK55.out 0).trans rfl; have hfzb53_0 := blk_frozen BK55.out 0; have hczb53_1 : w57.cell? ⟨gb54, 1, none⟩ = some (.slice none 0 0) := (blk_cell BK55.out 1).trans rfl; have hfzb53_1 := blk_frozen BK55.out 1; have hczb53_2 : w57.cell? ⟨gb54, 2, none⟩ = some (.bool false) := (blk_cell BK55.out 2).trans rfl; have hfzb53_2 := blk_frozen BK55.out 2) | ((with_reducible refine gate_store (t := 25) (p := 6) rfl ?_); refine store_event (t := 25) (p := 6) (v := ?vo_w59) (w1 := (((w57.setCell ⟨gb54, 0, none⟩ (.slice A48 t37.length c49)).setCell ⟨gb54, 1, none⟩ (.slice A51 t38.length c52)).setCell ⟨gb54, 2, none⟩ (.bool t39))) ?hg ?ho ?hn ?hr ?_; (case ho => rfl); (case hg => rfl); (case hn => rfl); (case hr => first | (go_simp; done) | (go_simp; rfl)); intro w59 hw_; have hx_ : w59.heap[gb54]? = some (.cells #[(.slice A48 t37.length c49), (.slice A51 t38.length c52), (.bool t39)] 25 (0, 0)) := (by rw [hw_]; exact Lk.filled (us := [(.slice A48 t37.length c49), (.slice A51 t38.length c52), (.bool t39)]) BK55.out rfl); have hk2_ : Kept w57 w59 (fun k_ => k_ = gb54) := (by rw [hw_]; exact Lk.fill_kept [(.slice A48 t37.length c49), (.slice A51 t38.length c52), (.bool t39)] 0 w57); have hB_ := Aside0.mk (show Below w.heap.size w w59 by rw [hw_]; exact Lk.fill_below [(.slice A48 t37.length c49), (.slice A51 t38.length c52), (.bool t39)] 0 w w57 HB.out (by have := HZ6.out; have := HZ10.out; have := HZ20.out; have := HZ33.out; have := HZ46.out; have := HZ58.out; have := GQ56.out; omega)); clear HB; have HB := hB_; clear hB_; have HZ60 := Aside0.mk (show w57.heap.size ≤ w59.heap.size from hk2_.1); have hn_ := Aside0.mk (Kd.S_kept F21.out hk2_ (fun k_ h1_ h2_ => by have := HZ6.out; have := HZ10.out; have := HZ20.out; have := HZ33.out; have := HZ46.out; have := HZ58.out; have := GQ56.out; have h3_ := h1_.1; omega)); clear F21; have F21 := hn_; clear hn_; have hn_ := Aside0.mk (Kd.R_kept F24.out hk2_ (fun k_ h1_ h2_ => by have := HZ6.out; have := HZ10.out; have := HZ20.out; have := HZ33.out; have := HZ46.out; have := HZ58.out; have := GQ56.out; have h3_ := h1_.1; omega)); clear F24; have F24 := hn_; clear hn_; have hn_ := Aside0.mk (Kd.R_kept F34.out hk2_ (fun k_ h1_ h2_ => by have := HZ6.out; have := HZ10.out; have := HZ20.out; have := HZ33.out; have := HZ46.out; have := HZ58.out; have := GQ56.out; have h3_ := h1_.1; omega)); clear F34; have F34 := hn_; clear hn_; have hn_ := Aside0.mk (Kd.S_kept F47.out hk2_ (fun k_ h1_ h2_ => by have := HZ6.out; have := HZ10.out; have := HZ20.out; have := HZ33.out; have := HZ46.out; have := HZ58.out; have := GQ56.out; have h3_ := h1_.1; omega)); clear F47; have F47 := hn_; clear hn_; have hn_ := Aside0.mk (Kd.R_kept F50.out hk2_ (fun k_ h1_ h2_ => by have := HZ6.out; have := HZ10.out; have := HZ20.out; have := HZ33.out; have := HZ46.out; have := HZ58.out; have := GQ56.out; have h3_ := h1_.1; omega)); clear F50; have F50 := hn_; clear hn_; clear hczb1_0 hfzb1_0; clear hczb1_1 hfzb1_1; clear hczb1_2 hfzb1_2; have hn_ := Aside0.mk (blk_kept BK3.out hk2_ (fun h_ => by have := HZ6.out; have := HZ10.out; have := HZ20.out; have := HZ33.out; have := HZ46.out; have := HZ58.out; have := GQ56.out; have := GQ4.out; omega)); clear BK3; have BK3 := hn_; clear hn_; clear hczb53_0 hfzb53_0; clear hczb53_1 hfzb53_1; clear hczb53_2 hfzb53_2; clear BK55; have BK55 := Aside0.mk hx_; clear hk2_ hx_ hw_; have hczb1_0 : w59.cell? ⟨gb2, 0, none⟩ = some (.slice A0_0 l0_0.length c0_0) := (blk_cell BK3.out 0).trans rfl; have hfzb1_0 := blk_frozen BK3.out 0; have hczb1_1 : w59.cell? ⟨gb2, 1, none⟩ = some (.slice A0_1 l0_1.length c0_1) := (blk_cell BK3.out 1).trans rfl; have hfzb1_1 := blk_frozen BK3.out 1; have hczb1_2 : w59.cell? ⟨gb2, 2, none⟩ = some (.bool a0_2) := (blk_cell BK3.out 2).trans rfl; have hfzb1_2 := blk_frozen BK3.out 2; have hczb53_0 : w59.cell? ⟨gb54, 0, none⟩ = some (.slice A48 t37.length c49) := (blk_cell BK55.out 0).trans rfl; have hfzb53_0 := blk_frozen BK55.out 0; have hczb53_1 : w59.cell? ⟨gb54, 1, none⟩ = some (.slice A51 t38.length c52) := (blk_cell BK55.out 1).trans rfl; have hfzb53_1 := blk_frozen BK55.out 1; have hczb53_2 : w59.cell? ⟨gb54, 2, none⟩ = some (.bool t39) := (blk_cell BK55.out 2).trans rfl; have hfzb53_2 := blk_frozen BK55.out 2))
  refine (impl_GreyIn.calls k _ _ t37 _ _ t38 t39 t61 t28 _ (Lk.Sr F47.out).2 (Lk.Sr F47.out).1 (Lk.Rr F50.out).2 (Lk.Rr F50.out).1 H63.out).mono ?_
  rintro e_ w64 ⟨v65, rfl, f66, hb⟩
  have hq_ : Below w59.heap.size w59 w64 := ⟨hb.os, hb.tape, hb.output, hb.size, hb.block⟩
  have HZ67 := Aside0.mk (show w59.heap.size ≤ w64.heap.size from hq_.size)
  have hn_ := Aside0.mk (below_then HB.out HB.out.size hq_)
  clear HB
  have HB := hn_
  clear hn_
  have hn_ := Aside0.mk (Kd.S_below F21.out hq_)
  clear F21
  have F21 := hn_
  clear hn_
  have hn_ := Aside0.mk (Kd.R_below F24.out hq_)
  clear F24
  have F24 := hn_
  clear hn_
  have hn_ := Aside0.mk (Kd.R_below F34.out hq_)
  clear F34
  have F34 := hn_
  clear hn_
  have hn_ := Aside0.mk (Kd.S_below F47.out hq_)
  clear F47
  have F47 := hn_
  clear hn_
  have hn_ := Aside0.mk (Kd.R_below F50.out hq_)
  clear F50
  have F50 := hn_
  clear hn_
  have hn_ := Aside0.mk (blk_below BK3.out hq_)
  clear hczb1_0 hfzb1_0; clear hczb1_1 hfzb1_1; clear hczb1_2 hfzb1_2
  clear BK3
  have BK3 := hn_
  clear hn_
  have hn_ := Aside0.mk (blk_below BK55.out hq_)
  clear hczb53_0 hfzb53_0; clear hczb53_1 hfzb53_1; clear hczb53_2 hfzb53_2
  clear BK55
  have BK55 := hn_
  clear hn_
  clear hq_
  have hczb1_0 : w64.cell? ⟨gb2, 0, none⟩ = some (.slice A0_0 l0_0.length c0_0) := (blk_cell BK3.out 0).trans rfl; have hfzb1_0 := blk_frozen BK3.out 0; have hczb1_1 : w64.cell? ⟨gb2, 1, none⟩ = some (.slice A0_1 l0_1.length c0_1) := (blk_cell BK3.out 1).trans rfl; have hfzb1_1 := blk_frozen BK3.out 1; have hczb1_2 : w64.cell? ⟨gb2, 2, none⟩ = some (.bool a0_2) := (blk_cell BK3.out 2).trans rfl; have hfzb1_2 := blk_frozen BK3.out 2
  have hczb53_0 : w64.cell? ⟨gb54, 0, none⟩ = some (.slice A48 t37.length c49) := (blk_cell BK55.out 0).trans rfl; have hfzb53_0 := blk_frozen BK55.out 0; have hczb53_1 : w64.cell? ⟨gb54, 1, none⟩ = some (.slice A51 t38.length c52) := (blk_cell BK55.out 1).trans rfl; have hfzb53_1 := blk_frozen BK55.out 1; have hczb53_2 : w64.cell? ⟨gb54, 2, none⟩ = some (.bool t39) := (blk_cell BK55.out 2).trans rfl; have hfzb53_2 := blk_frozen BK55.out 2
  clear hb
  have F68 := Aside0.mk (Lk.newR (b := w59.heap.size) (base := w.heap.size) (Sep := fun k_ => True) rfl f66 (by have := HZ6.out; have := HZ10.out; have := HZ20.out; have := HZ33.out; have := HZ46.out; have := HZ58.out; have := HZ60.out; have := HZ67.out; omega) (fun k_ hk_ => hk_))
  clear f66
  obtain ⟨A69, c70, e_⟩ := Kd.R_slice F68.out
  subst e_
  go_wp2_with fail
  refine (laws_eqIntS.calls k _ _ t61 _ _ t27 true _ (Lk.Rr F68.out).2 (Lk.Rr F68.out).1 (Lk.Rr F34.out).2 (Lk.Rr F34.out).1 H72.out).mono ?_
  rintro e_ w73 ⟨rfl, ⟨nd_, hd_⟩⟩
  have hb : Below w64.heap.size w64 w73 := by rw [hd_]; exact pw_below_drewN (Below.refl _ _) nd_
  clear hd_
  have hq_ : Below w64.heap.size w64 w73 := ⟨hb.os, hb.tape, hb.output, hb.size, hb.block⟩
  have HZ74 := Aside0.mk (show w64.heap.size ≤ w73.heap.size from hq_.size)
  have hn_ := Aside0.mk (below_then HB.out HB.out.size hq_)
  clear HB
  have HB := hn_
  clear hn_
  have hn_ := Aside0.mk (Kd.S_below F21.out hq_)
  clear F21
  have F21 := hn_
  clear hn_
  have hn_ := Aside0.mk (Kd.R_below F24.out hq_)
  clear F24
  have F24 := hn_
  clear hn_
  have hn_ := Aside0.mk (Kd.R_below F34.out hq_)
  clear F34
  have F34 := hn_
  clear hn_
  have hn_ := Aside0.mk (Kd.S_below F47.out hq_)
  clear F47
  have F47 := hn_
  clear hn_
  have hn_ := Aside0.mk (Kd.R_below F50.out hq_)
  clear F50
  have F50 := hn_
  clear hn_
  have hn_ := Aside0.mk (Kd.R_below F68.out hq_)
  clear F68
  have F68 := hn_
  clear hn_
  have hn_ := Aside0.mk (blk_below BK3.out hq_)
  clear hczb1_0 hfzb1_0; clear hczb1_1 hfzb1_1; clear hczb1_2 hfzb1_2
  clear BK3
  have BK3 := hn_
  clear hn_
  have hn_ := Aside0.mk (blk_below BK55.out hq_)
  clear hczb53_0 hfzb53_0; clear hczb53_1 hfzb53_1; clear hczb53_2 hfzb53_2
  clear BK55
  have BK55 := hn_
  clear hn_
  clear hq_
  have hczb1_0 : w73.cell? ⟨gb2, 0, none⟩ = some (.slice A0_0 l0_0.length c0_0) := (blk_cell BK3.out 0).trans rfl; have hfzb1_0 := blk_frozen BK3.out 0; have hczb1_1 : w73.cell? ⟨gb2, 1, none⟩ = some (.slice A0_1 l0_1.length c0_1) := (blk_cell BK3.out 1).trans rfl; have hfzb1_1 := blk_frozen BK3.out 1; have hczb1_2 : w73.cell? ⟨gb2, 2, none⟩ = some (.bool a0_2) := (blk_cell BK3.out 2).trans rfl; have hfzb1_2 := blk_frozen BK3.out 2
  have hczb53_0 : w73.cell? ⟨gb54, 0, none⟩ = some (.slice A48 t37.length c49) := (blk_cell BK55.out 0).trans rfl; have hfzb53_0 := blk_frozen BK55.out 0; have hczb53_1 : w73.cell? ⟨gb54, 1, none⟩ = some (.slice A51 t38.length c52) := (blk_cell BK55.out 1).trans rfl; have hfzb53_1 := blk_frozen BK55.out 1; have hczb53_2 : w73.cell? ⟨gb54, 2, none⟩ = some (.bool t39) := (blk_cell BK55.out 2).trans rfl; have hfzb53_2 := blk_frozen BK55.out 2
  clear hb
  go_wp2_with fail
  have hb : Below w73.heap.size w73 w73.drew := below_drew (Below.refl _ _)
  obtain ⟨w75, hw_⟩ : ∃ w75, w73.drew = w75 := ⟨_, rfl⟩
  rw [hw_] at hb
  have hq_ : Below w73.heap.size w73 w75 := ⟨hb.os, hb.tape, hb.output, hb.size, hb.block⟩
  have HZ76 := Aside0.mk (show w73.heap.size ≤ w75.heap.size from hq_.size)
  have hn_ := Aside0.mk (below_then HB.out HB.out.size hq_)
  clear HB
  have HB := hn_
  clear hn_
  have hn_ := Aside0.mk (Kd.S_below F21.out hq_)
  clear F21
  have F21 := hn_
  clear hn_
  have hn_ := Aside0.mk (Kd.R_below F24.out hq_)
  clear F24
  have F24 := hn_
  clear hn_
  have hn_ := Aside0.mk (Kd.R_below F34.out hq_)
  clear F34
  have F34 := hn_
  clear hn_
  have hn_ := Aside0.mk (Kd.S_below F47.out hq_)
  clear F47
  have F47 := hn_
  clear hn_
  have hn_ := Aside0.mk (Kd.R_below F50.out hq_)
  clear F50
  have F50 := hn_
  clear hn_
  have hn_ := Aside0.mk (Kd.R_below F68.out hq_)
  clear F68
  have F68 := hn_
  clear hn_
  have hn_ := Aside0.mk (blk_below BK3.out hq_)
  clear hczb1_0 hfzb1_0; clear hczb1_1 hfzb1_1; clear hczb1_2 hfzb1_2
  clear BK3
  have BK3 := hn_
  clear hn_
  have hn_ := Aside0.mk (blk_below BK55.out hq_)
  clear hczb53_0 hfzb53_0; clear hczb53_1 hfzb53_1; clear hczb53_2 hfzb53_2
  clear BK55
  have BK55 := hn_
  clear hn_
  clear hq_
  have hczb1_0 : w75.cell? ⟨gb2, 0, none⟩ = some (.slice A0_0 l0_0.length c0_0) := (blk_cell BK3.out 0).trans rfl; have hfzb1_0 := blk_frozen BK3.out 0; have hczb1_1 : w75.cell? ⟨gb2, 1, none⟩ = some (.slice A0_1 l0_1.length c0_1) := (blk_cell BK3.out 1).trans rfl; have hfzb1_1 := blk_frozen BK3.out 1; have hczb1_2 : w75.cell? ⟨gb2, 2, none⟩ = some (.bool a0_2) := (blk_cell BK3.out 2).trans rfl; have hfzb1_2 := blk_frozen BK3.out 2
  have hczb53_0 : w75.cell? ⟨gb54, 0, none⟩ = some (.slice A48 t37.length c49) := (blk_cell BK55.out 0).trans rfl; have hfzb53_0 := blk_frozen BK55.out 0; have hczb53_1 : w75.cell? ⟨gb54, 1, none⟩ = some (.slice A51 t38.length c52) := (blk_cell BK55.out 1).trans rfl; have hfzb53_1 := blk_frozen BK55.out 1; have hczb53_2 : w75.cell? ⟨gb54, 2, none⟩ = some (.bool t39) := (blk_cell BK55.out 2).trans rfl; have hfzb53_2 := blk_frozen BK55.out 2
  refine start_ (n := 5) (S := fun w' => w'.cell? ⟨gb54, 0, none⟩ = some (.slice A48 t37.length c49) ∧ w'.cell? ⟨gb54, 1, none⟩ = some (.slice A51 t38.length c52) ∧ w'.cell? ⟨gb54, 2, none⟩ = some (.bool t39) ∧ w'.cell? ⟨gb2, 0, none⟩ = some (.slice A0_0 l0_0.length c0_0) ∧ w'.cell? ⟨gb2, 1, none⟩ = some (.slice A0_1 l0_1.length c0_1) ∧ w'.cell? ⟨gb2, 2, none⟩ = some (.bool a0_2)) (ds := []) #[false, false, false, false, false] (by kernel_rfl) rfl rfl (by rw [hw_]; exact ⟨(blk_cell BK55.out 0).trans rfl, (blk_cell BK55.out 1).trans rfl, (blk_cell BK55.out 2).trans rfl, (blk_cell BK3.out 0).trans rfl, (blk_cell BK3.out 1).trans rfl, (blk_cell BK3.out 2).trans rfl⟩) (fun hHeld => ?_)
  rw [hw_] at hHeld ⊢
  clear hw_ hb
  refine take_ (i := 0) (N := some 41) (v := ?_) (a' := ?_) #[true, false, false, false, false] rfl rfl (by kernel_rfl) (fun _ _ _ h => h) (Or.inl ⟨by rfl, ?_⟩) hHeld ?_ ?_
  rotate_left
  · rintro w' ⟨s0, s1, s2, s3, s4, s5⟩
    go_simp
    with_reducible rfl
  rotate_left
  · simp only [Act.put, List.setIfInBounds_toArray, List.set_cons_zero, List.set_cons_succ, i64_w, i32_w]
    rfl
  refine take_ (i := 1) (N := some 42) (v := ?_) (a' := ?_) #[true, true, false, false, false] rfl rfl (by kernel_rfl) (fun _ _ _ h => h) (Or.inl ⟨by rfl, ?_⟩) hHeld ?_ ?_
  rotate_left
  · rintro w' ⟨s0, s1, s2, s3, s4, s5⟩
    go_simp
    with_reducible rfl
  rotate_left
  · simp only [Act.put, List.setIfInBounds_toArray, List.set_cons_zero, List.set_cons_succ, i64_w, i32_w]
    rfl
  refine one_ (i := 2) (N := some 43) #[true, true, true, false, false] rfl rfl (by kernel_rfl) (by decide) (fun K hK => ?_)
  refine goes_ Try.func14 (by kernel_rfl) rfl #[.agg #[.slice A0_0 l0_0.length c0_0, .slice A0_1 l0_1.length c0_1, .bool a0_2]] (by rfl) rfl rfl (by (try simp only [List.map_toArray, List.map_cons, List.map_nil]); first | done | rfl | (simp only [List.length_drop, List.length_take]; rfl)) ?_
  refine (laws_toMarker.calls k _ _ l0_0 _ _ l0_1 a0_2 t77 t78 t79 _ (Kd.C_below HR0_0.out HB.out) HC0_0.out (Kd.C_below HR0_1.out HB.out) HC0_1.out H80.out).mono ?_
  rintro e_ w81 ⟨v82, v83, rfl, f84, f85, hb⟩
  have hq_ : Below w75.heap.size w75 w81 := ⟨hb.os, hb.tape, hb.output, hb.size, hb.block⟩
  have HZ86 := Aside0.mk (show w75.heap.size ≤ w81.heap.size from hq_.size)
  have hn_ := Aside0.mk (below_then HB.out HB.out.size hq_)
  clear HB
  have HB := hn_
  clear hn_
  have hn_ := Aside0.mk (Kd.S_below F21.out hq_)
  clear F21
  have F21 := hn_
  clear hn_
  have hn_ := Aside0.mk (Kd.R_below F24.out hq_)
  clear F24
  have F24 := hn_
  clear hn_
  have hn_ := Aside0.mk (Kd.R_below F34.out hq_)
  clear F34
  have F34 := hn_
  clear hn_
  have hn_ := Aside0.mk (Kd.S_below F47.out hq_)
  clear F47
  have F47 := hn_
  clear hn_
  have hn_ := Aside0.mk (Kd.R_below F50.out hq_)
  clear F50
  have F50 := hn_
  clear hn_
  have hn_ := Aside0.mk (Kd.R_below F68.out hq_)
  clear F68
  have F68 := hn_
  clear hn_
  have hn_ := Aside0.mk (blk_below BK3.out hq_)
  clear hczb1_0 hfzb1_0; clear hczb1_1 hfzb1_1; clear hczb1_2 hfzb1_2
  clear BK3
  have BK3 := hn_
  clear hn_
  have hn_ := Aside0.mk (blk_below BK55.out hq_)
  clear hczb53_0 hfzb53_0; clear hczb53_1 hfzb53_1; clear hczb53_2 hfzb53_2
  clear BK55
  have BK55 := hn_
  clear hn_
  clear hq_
  have hczb1_0 : w81.cell? ⟨gb2, 0, none⟩ = some (.slice A0_0 l0_0.length c0_0) := (blk_cell BK3.out 0).trans rfl; have hfzb1_0 := blk_frozen BK3.out 0; have hczb1_1 : w81.cell? ⟨gb2, 1, none⟩ = some (.slice A0_1 l0_1.length c0_1) := (blk_cell BK3.out 1).trans rfl; have hfzb1_1 := blk_frozen BK3.out 1; have hczb1_2 : w81.cell? ⟨gb2, 2, none⟩ = some (.bool a0_2) := (blk_cell BK3.out 2).trans rfl; have hfzb1_2 := blk_frozen BK3.out 2
  have hczb53_0 : w81.cell? ⟨gb54, 0, none⟩ = some (.slice A48 t37.length c49) := (blk_cell BK55.out 0).trans rfl; have hfzb53_0 := blk_frozen BK55.out 0; have hczb53_1 : w81.cell? ⟨gb54, 1, none⟩ = some (.slice A51 t38.length c52) := (blk_cell BK55.out 1).trans rfl; have hfzb53_1 := blk_frozen BK55.out 1; have hczb53_2 : w81.cell? ⟨gb54, 2, none⟩ = some (.bool t39) := (blk_cell BK55.out 2).trans rfl; have hfzb53_2 := blk_frozen BK55.out 2
  clear hb
  refine ⟨_, rfl, ?_⟩
  have F87 := Aside0.mk (Lk.newS (b := w75.heap.size) (base := w.heap.size) (Sep := fun k_ => some k_ ≠ (v83 : Value).ownBlock) f84 (by have := HZ6.out; have := HZ10.out; have := HZ20.out; have := HZ33.out; have := HZ46.out; have := HZ58.out; have := HZ60.out; have := HZ67.out; have := HZ74.out; have := HZ76.out; have := HZ86.out; omega) (fun k_ hk_ => hk_))
  clear f84
  have F90 := Aside0.mk (Lk.newR (b := w75.heap.size) (base := w.heap.size) (Sep := fun k_ => True) rfl f85 (by have := HZ6.out; have := HZ10.out; have := HZ20.out; have := HZ33.out; have := HZ46.out; have := HZ58.out; have := HZ60.out; have := HZ67.out; have := HZ74.out; have := HZ76.out; have := HZ86.out; omega) (fun k_ hk_ => hk_))
  clear f85
  obtain ⟨A88, c89, e_⟩ := Kd.S_slice F87.out
  subst e_
  obtain ⟨A91, c92, e_⟩ := Kd.R_slice F90.out
  subst e_
  refine hK.out _ _ ⟨(blk_cell BK55.out 0).trans rfl, (blk_cell BK55.out 1).trans rfl, (blk_cell BK55.out 2).trans rfl, (blk_cell BK3.out 0).trans rfl, (blk_cell BK3.out 1).trans rfl, (blk_cell BK3.out 2).trans rfl⟩ (fun hHeld => ?_)
  clear hK K
  refine norm_ (a' := ?_) ?_ ?_
  rotate_left
  · show Act.put _ (some 43) _ = _
    simp only [Act.put, List.setIfInBounds_toArray, List.set_cons_zero, List.set_cons_succ, i64_w, i32_w]
    rfl
  refine one_ (i := 3) (N := some 44) #[true, true, true, true, false] rfl rfl (by kernel_rfl) (by decide) (fun K hK => ?_)
  refine goes_ Try.func9 (by kernel_rfl) rfl #[.agg #[.slice A48 t37.length c49, .slice A51 t38.length c52, .bool t39], .agg #[.slice A88 t77.length c89, .slice A91 t78.length c92, .bool t79]] (by rfl) rfl rfl (by (try simp only [List.map_toArray, List.map_cons, List.map_nil]); first | done | rfl | (simp only [List.length_drop, List.length_take]; rfl)) ?_
  refine (laws_eqMarker.calls k _ _ t37 _ _ t38 t39 _ _ t77 _ _ t78 t79 true _ (Lk.Sr F47.out).2 (Lk.Sr F47.out).1 (Lk.Rr F50.out).2 (Lk.Rr F50.out).1 (Lk.Sr F87.out).2 (Lk.Sr F87.out).1 (Lk.Rr F90.out).2 (Lk.Rr F90.out).1 H94.out).mono ?_
  rintro e_ w95 ⟨rfl, hb⟩
  have hq_ : Below w81.heap.size w81 w95 := ⟨hb.os, hb.tape, hb.output, hb.size, hb.block⟩
  have HZ96 := Aside0.mk (show w81.heap.size ≤ w95.heap.size from hq_.size)
  have hn_ := Aside0.mk (below_then HB.out HB.out.size hq_)
  clear HB
  have HB := hn_
  clear hn_
  have hn_ := Aside0.mk (Kd.S_below F21.out hq_)
  clear F21
  have F21 := hn_
  clear hn_
  have hn_ := Aside0.mk (Kd.R_below F24.out hq_)
  clear F24
  have F24 := hn_
  clear hn_
  have hn_ := Aside0.mk (Kd.R_below F34.out hq_)
  clear F34
  have F34 := hn_
  clear hn_
  have hn_ := Aside0.mk (Kd.S_below F47.out hq_)
  clear F47
  have F47 := hn_
  clear hn_
  have hn_ := Aside0.mk (Kd.R_below F50.out hq_)
  clear F50
  have F50 := hn_
  clear hn_
  have hn_ := Aside0.mk (Kd.R_below F68.out hq_)
  clear F68
  have F68 := hn_
  clear hn_
  have hn_ := Aside0.mk (Kd.S_below F87.out hq_)
  clear F87
  have F87 := hn_
  clear hn_
  have hn_ := Aside0.mk (Kd.R_below F90.out hq_)
  clear F90
  have F90 := hn_
  clear hn_
  have hn_ := Aside0.mk (blk_below BK3.out hq_)
  clear hczb1_0 hfzb1_0; clear hczb1_1 hfzb1_1; clear hczb1_2 hfzb1_2
  clear BK3
  have BK3 := hn_
  clear hn_
  have hn_ := Aside0.mk (blk_below BK55.out hq_)
  clear hczb53_0 hfzb53_0; clear hczb53_1 hfzb53_1; clear hczb53_2 hfzb53_2
  clear BK55
  have BK55 := hn_
  clear hn_
  clear hq_
  have hczb1_0 : w95.cell? ⟨gb2, 0, none⟩ = some (.slice A0_0 l0_0.length c0_0) := (blk_cell BK3.out 0).trans rfl; have hfzb1_0 := blk_frozen BK3.out 0; have hczb1_1 : w95.cell? ⟨gb2, 1, none⟩ = some (.slice A0_1 l0_1.length c0_1) := (blk_cell BK3.out 1).trans rfl; have hfzb1_1 := blk_frozen BK3.out 1; have hczb1_2 : w95.cell? ⟨gb2, 2, none⟩ = some (.bool a0_2) := (blk_cell BK3.out 2).trans rfl; have hfzb1_2 := blk_frozen BK3.out 2
  have hczb53_0 : w95.cell? ⟨gb54, 0, none⟩ = some (.slice A48 t37.length c49) := (blk_cell BK55.out 0).trans rfl; have hfzb53_0 := blk_frozen BK55.out 0; have hczb53_1 : w95.cell? ⟨gb54, 1, none⟩ = some (.slice A51 t38.length c52) := (blk_cell BK55.out 1).trans rfl; have hfzb53_1 := blk_frozen BK55.out 1; have hczb53_2 : w95.cell? ⟨gb54, 2, none⟩ = some (.bool t39) := (blk_cell BK55.out 2).trans rfl; have hfzb53_2 := blk_frozen BK55.out 2
  clear hb
  refine ⟨_, rfl, ?_⟩
  refine hK.out _ _ ⟨(blk_cell BK55.out 0).trans rfl, (blk_cell BK55.out 1).trans rfl, (blk_cell BK55.out 2).trans rfl, (blk_cell BK3.out 0).trans rfl, (blk_cell BK3.out 1).trans rfl, (blk_cell BK3.out 2).trans rfl⟩ (fun hHeld => ?_)
  clear hK K
  refine norm_ (a' := ?_) ?_ ?_
  rotate_left
  · show Act.put _ (some 44) _ = _
    simp only [Act.put, List.setIfInBounds_toArray, List.set_cons_zero, List.set_cons_succ, i64_w, i32_w]
    rfl
  refine pure_ (i := 4) (N := some 45) (v := ?_) (a' := ?_) #[true, true, true, true, true] rfl rfl (by kernel_rfl) (fun _ _ _ h => h) (Or.inl ⟨by rfl, ?_⟩) ?_ ?_
  rotate_left
  · intro w'
    go_simp
    with_reducible rfl
  rotate_left
  · simp only [Act.put, List.setIfInBounds_toArray, List.set_cons_zero, List.set_cons_succ, i64_w, i32_w]
    rfl
  refine done_ (by kernel_rfl) ?_
  go_wp2_with fail
  have hn_ := H98.out
  refine (laws_markMarker.calls (fun k_ => w30.heap.size ≤ k_ ∧ k_ < w41.heap.size) _ t37 _ t38 t39 1 w _ HB.out F47.out F50.out (by omega) hn_).mono ?_
  rintro e_ w97 ⟨rfl, f0_, f1_, hb0_, hk_⟩
  have hk2_ : Kept w95 w97 (fun k_ => w30.heap.size ≤ k_ ∧ k_ < w41.heap.size) := Kept.mono hk_ (fun k_ h_ => by first | exact h_ | exact h_.1)
  have HZ99 := Aside0.mk (show w95.heap.size ≤ w97.heap.size from hk2_.1)
  clear HB
  have HB := Aside0.mk hb0_
  have hn_ := Aside0.mk (Kd.S_kept F21.out hk2_ (fun k_ h1_ h2_ => by have := HZ6.out; have := HZ10.out; have := HZ20.out; have := HZ33.out; have := HZ46.out; have := HZ58.out; have := HZ60.out; have := HZ67.out; have := HZ74.out; have := HZ76.out; have := HZ86.out; have := HZ96.out; have h3_ := h1_.1; omega))
  clear F21
  have F21 := hn_
  clear hn_
  have hn_ := Aside0.mk (Kd.R_kept F24.out hk2_ (fun k_ h1_ h2_ => by have := HZ6.out; have := HZ10.out; have := HZ20.out; have := HZ33.out; have := HZ46.out; have := HZ58.out; have := HZ60.out; have := HZ67.out; have := HZ74.out; have := HZ76.out; have := HZ86.out; have := HZ96.out; have h3_ := h1_.1; omega))
  clear F24
  have F24 := hn_
  clear hn_
  have hn_ := Aside0.mk (Kd.R_kept F34.out hk2_ (fun k_ h1_ h2_ => by have := HZ6.out; have := HZ10.out; have := HZ20.out; have := HZ33.out; have := HZ46.out; have := HZ58.out; have := HZ60.out; have := HZ67.out; have := HZ74.out; have := HZ76.out; have := HZ86.out; have := HZ96.out; have h3_ := h1_.1; omega))
  clear F34
  have F34 := hn_
  clear hn_
  have hn_ := Aside0.mk (Kd.R_kept F68.out hk2_ (fun k_ h1_ h2_ => by have := HZ6.out; have := HZ10.out; have := HZ20.out; have := HZ33.out; have := HZ46.out; have := HZ58.out; have := HZ60.out; have := HZ67.out; have := HZ74.out; have := HZ76.out; have := HZ86.out; have := HZ96.out; have h3_ := h1_.1; omega))
  clear F68
  have F68 := hn_
  clear hn_
  have hn_ := Aside0.mk (Kd.S_kept F87.out hk2_ (fun k_ h1_ h2_ => by have := HZ6.out; have := HZ10.out; have := HZ20.out; have := HZ33.out; have := HZ46.out; have := HZ58.out; have := HZ60.out; have := HZ67.out; have := HZ74.out; have := HZ76.out; have := HZ86.out; have := HZ96.out; have h3_ := h1_.1; omega))
  clear F87
  have F87 := hn_
  clear hn_
  have hn_ := Aside0.mk (Kd.R_kept F90.out hk2_ (fun k_ h1_ h2_ => by have := HZ6.out; have := HZ10.out; have := HZ20.out; have := HZ33.out; have := HZ46.out; have := HZ58.out; have := HZ60.out; have := HZ67.out; have := HZ74.out; have := HZ76.out; have := HZ86.out; have := HZ96.out; have h3_ := h1_.1; omega))
  clear F90
  have F90 := hn_
  clear hn_
  have hn_ := Aside0.mk (f0_)
  have F47n := hn_
  clear hn_
  have hn_ := Aside0.mk (f1_)
  have F50n := hn_
  clear hn_
  clear F47
  have F47 := F47n
  clear F47n
  clear F50
  have F50 := F50n
  clear F50n
  have hn_ := Aside0.mk (blk_kept BK3.out hk2_ (fun h_ => by have := HZ6.out; have := HZ10.out; have := HZ20.out; have := HZ33.out; have := HZ46.out; have := HZ58.out; have := HZ60.out; have := HZ67.out; have := HZ74.out; have := HZ76.out; have := HZ86.out; have := HZ96.out; have := GQ4.out; omega))
  clear hczb1_0 hfzb1_0; clear hczb1_1 hfzb1_1; clear hczb1_2 hfzb1_2
  clear BK3
  have BK3 := hn_
  clear hn_
  have hn_ := Aside0.mk (blk_kept BK55.out hk2_ (fun h_ => by have := HZ6.out; have := HZ10.out; have := HZ20.out; have := HZ33.out; have := HZ46.out; have := HZ58.out; have := HZ60.out; have := HZ67.out; have := HZ74.out; have := HZ76.out; have := HZ86.out; have := HZ96.out; have := GQ56.out; omega))
  clear hczb53_0 hfzb53_0; clear hczb53_1 hfzb53_1; clear hczb53_2 hfzb53_2
  clear BK55
  have BK55 := hn_
  clear hn_
  clear hk2_ hk_ hb0_ f0_ f1_
  have hczb1_0 : w97.cell? ⟨gb2, 0, none⟩ = some (.slice A0_0 l0_0.length c0_0) := (blk_cell BK3.out 0).trans rfl; have hfzb1_0 := blk_frozen BK3.out 0; have hczb1_1 : w97.cell? ⟨gb2, 1, none⟩ = some (.slice A0_1 l0_1.length c0_1) := (blk_cell BK3.out 1).trans rfl; have hfzb1_1 := blk_frozen BK3.out 1; have hczb1_2 : w97.cell? ⟨gb2, 2, none⟩ = some (.bool a0_2) := (blk_cell BK3.out 2).trans rfl; have hfzb1_2 := blk_frozen BK3.out 2
  have hczb53_0 : w97.cell? ⟨gb54, 0, none⟩ = some (.slice A48 t37.length c49) := (blk_cell BK55.out 0).trans rfl; have hfzb53_0 := blk_frozen BK55.out 0; have hczb53_1 : w97.cell? ⟨gb54, 1, none⟩ = some (.slice A51 t38.length c52) := (blk_cell BK55.out 1).trans rfl; have hfzb53_1 := blk_frozen BK55.out 1; have hczb53_2 : w97.cell? ⟨gb54, 2, none⟩ = some (.bool t39) := (blk_cell BK55.out 2).trans rfl; have hfzb53_2 := blk_frozen BK55.out 2
  have hl100 := (Kd.S_reads' F47.out).1
  have HL100 := Aside0.mk hl100
  clear hl100
  have hl101 := (Kd.R_reads' F50.out).1
  have HL101 := Aside0.mk hl101
  clear hl101
  have hn1_ : decide ((1 + (markCellS_cnt t37 : Nat) + (t38.length : Nat) : Int) < 0) = false := decide_eq_false (by omega)
  have hd102 := hn1_
  clear hn1_
  go_wp2_with fail
  refine (laws_eqIntS.calls k _ _ t61 _ _ t27 true _ (Lk.Rr F68.out).2 (Lk.Rr F68.out).1 (Lk.Rr F34.out).2 (Lk.Rr F34.out).1 H104.out).mono ?_
  rintro e_ w105 ⟨rfl, ⟨nd_, hd_⟩⟩
  have hb : Below w97.heap.size w97 w105 := by rw [hd_]; exact pw_below_drewN (Below.refl _ _) nd_
  clear hd_
  have hq_ : Below w97.heap.size w97 w105 := ⟨hb.os, hb.tape, hb.output, hb.size, hb.block⟩
  have HZ106 := Aside0.mk (show w97.heap.size ≤ w105.heap.size from hq_.size)
  have hn_ := Aside0.mk (below_then HB.out HB.out.size hq_)
  clear HB
  have HB := hn_
  clear hn_
  have hn_ := Aside0.mk (Kd.S_below F21.out hq_)
  clear F21
  have F21 := hn_
  clear hn_
  have hn_ := Aside0.mk (Kd.R_below F24.out hq_)
  clear F24
  have F24 := hn_
  clear hn_
  have hn_ := Aside0.mk (Kd.R_below F34.out hq_)
  clear F34
  have F34 := hn_
  clear hn_
  have hn_ := Aside0.mk (Kd.S_below F47.out hq_)
  clear F47
  have F47 := hn_
  clear hn_
  have hn_ := Aside0.mk (Kd.R_below F50.out hq_)
  clear F50
  have F50 := hn_
  clear hn_
  have hn_ := Aside0.mk (Kd.R_below F68.out hq_)
  clear F68
  have F68 := hn_
  clear hn_
  have hn_ := Aside0.mk (Kd.S_below F87.out hq_)
  clear F87
  have F87 := hn_
  clear hn_
  have hn_ := Aside0.mk (Kd.R_below F90.out hq_)
  clear F90
  have F90 := hn_
  clear hn_
  have hn_ := Aside0.mk (blk_below BK3.out hq_)
  clear hczb1_0 hfzb1_0; clear hczb1_1 hfzb1_1; clear hczb1_2 hfzb1_2
  clear BK3
  have BK3 := hn_
  clear hn_
  have hn_ := Aside0.mk (blk_below BK55.out hq_)
  clear hczb53_0 hfzb53_0; clear hczb53_1 hfzb53_1; clear hczb53_2 hfzb53_2
  clear BK55
  have BK55 := hn_
  clear hn_
  clear hq_
  have hczb1_0 : w105.cell? ⟨gb2, 0, none⟩ = some (.slice A0_0 l0_0.length c0_0) := (blk_cell BK3.out 0).trans rfl; have hfzb1_0 := blk_frozen BK3.out 0; have hczb1_1 : w105.cell? ⟨gb2, 1, none⟩ = some (.slice A0_1 l0_1.length c0_1) := (blk_cell BK3.out 1).trans rfl; have hfzb1_1 := blk_frozen BK3.out 1; have hczb1_2 : w105.cell? ⟨gb2, 2, none⟩ = some (.bool a0_2) := (blk_cell BK3.out 2).trans rfl; have hfzb1_2 := blk_frozen BK3.out 2
  have hczb53_0 : w105.cell? ⟨gb54, 0, none⟩ = some (.slice A48 t37.length c49) := (blk_cell BK55.out 0).trans rfl; have hfzb53_0 := blk_frozen BK55.out 0; have hczb53_1 : w105.cell? ⟨gb54, 1, none⟩ = some (.slice A51 t38.length c52) := (blk_cell BK55.out 1).trans rfl; have hfzb53_1 := blk_frozen BK55.out 1; have hczb53_2 : w105.cell? ⟨gb54, 2, none⟩ = some (.bool t39) := (blk_cell BK55.out 2).trans rfl; have hfzb53_2 := blk_frozen BK55.out 2
  clear hb
  go_wp2_with fail
  refine (laws_markIntS.calls k (fun k_ => (w59.heap.size ≤ k_ ∧ k_ < w64.heap.size) ∧ some k_ = (.slice A69 t61.length c70 : Value).ownBlock ∧ (True)) _ t61 1 t108 t109 w _ HB.out F68.out H110.out).mono ?_
  rintro e_ w107 ⟨rfl, f0_, hb0_, hk_⟩
  have hk2_ : Kept w105 w107 (fun k_ => w59.heap.size ≤ k_ ∧ k_ < w64.heap.size) := Kept.mono hk_ (fun k_ h_ => by first | exact h_ | exact h_.1)
  have HZ112 := Aside0.mk (show w105.heap.size ≤ w107.heap.size from hk2_.1)
  clear HB
  have HB := Aside0.mk hb0_
  have hn_ := Aside0.mk (Kd.S_kept F21.out hk2_ (fun k_ h1_ h2_ => by have := HZ6.out; have := HZ10.out; have := HZ20.out; have := HZ33.out; have := HZ46.out; have := HZ58.out; have := HZ60.out; have := HZ67.out; have := HZ74.out; have := HZ76.out; have := HZ86.out; have := HZ96.out; have := HZ99.out; have := HZ106.out; have h3_ := h1_.1; omega))
  clear F21
  have F21 := hn_
  clear hn_
  have hn_ := Aside0.mk (Kd.R_kept F24.out hk2_ (fun k_ h1_ h2_ => by have := HZ6.out; have := HZ10.out; have := HZ20.out; have := HZ33.out; have := HZ46.out; have := HZ58.out; have := HZ60.out; have := HZ67.out; have := HZ74.out; have := HZ76.out; have := HZ86.out; have := HZ96.out; have := HZ99.out; have := HZ106.out; have h3_ := h1_.1; omega))
  clear F24
  have F24 := hn_
  clear hn_
  have hn_ := Aside0.mk (Kd.R_kept F34.out hk2_ (fun k_ h1_ h2_ => by have := HZ6.out; have := HZ10.out; have := HZ20.out; have := HZ33.out; have := HZ46.out; have := HZ58.out; have := HZ60.out; have := HZ67.out; have := HZ74.out; have := HZ76.out; have := HZ86.out; have := HZ96.out; have := HZ99.out; have := HZ106.out; have h3_ := h1_.1; omega))
  clear F34
  have F34 := hn_
  clear hn_
  have hn_ := Aside0.mk (Kd.S_kept F47.out hk2_ (fun k_ h1_ h2_ => by have := HZ6.out; have := HZ10.out; have := HZ20.out; have := HZ33.out; have := HZ46.out; have := HZ58.out; have := HZ60.out; have := HZ67.out; have := HZ74.out; have := HZ76.out; have := HZ86.out; have := HZ96.out; have := HZ99.out; have := HZ106.out; have h3_ := h1_.1; omega))
  clear F47
  have F47 := hn_
  clear hn_
  have hn_ := Aside0.mk (Kd.R_kept F50.out hk2_ (fun k_ h1_ h2_ => by have := HZ6.out; have := HZ10.out; have := HZ20.out; have := HZ33.out; have := HZ46.out; have := HZ58.out; have := HZ60.out; have := HZ67.out; have := HZ74.out; have := HZ76.out; have := HZ86.out; have := HZ96.out; have := HZ99.out; have := HZ106.out; have h3_ := h1_.1; omega))
  clear F50
  have F50 := hn_
  clear hn_
  have hn_ := Aside0.mk (Kd.S_kept F87.out hk2_ (fun k_ h1_ h2_ => by have := HZ6.out; have := HZ10.out; have := HZ20.out; have := HZ33.out; have := HZ46.out; have := HZ58.out; have := HZ60.out; have := HZ67.out; have := HZ74.out; have := HZ76.out; have := HZ86.out; have := HZ96.out; have := HZ99.out; have := HZ106.out; have h3_ := h1_.1; omega))
  clear F87
  have F87 := hn_
  clear hn_
  have hn_ := Aside0.mk (Kd.R_kept F90.out hk2_ (fun k_ h1_ h2_ => by have := HZ6.out; have := HZ10.out; have := HZ20.out; have := HZ33.out; have := HZ46.out; have := HZ58.out; have := HZ60.out; have := HZ67.out; have := HZ74.out; have := HZ76.out; have := HZ86.out; have := HZ96.out; have := HZ99.out; have := HZ106.out; have h3_ := h1_.1; omega))
  clear F90
  have F90 := hn_
  clear hn_
  have hn_ := Aside0.mk (Lk.markedR rfl f0_ (fun k_ e_ => (show (w59.heap.size ≤ k_ ∧ k_ < w64.heap.size) ∧ some k_ = (.slice A69 t61.length c70 : Value).ownBlock ∧ (True) from (F68.out.1 k_ e_.symm))))
  have F68n := hn_
  clear hn_
  clear F68
  have F68 := F68n
  clear F68n
  have hn_ := Aside0.mk (blk_kept BK3.out hk2_ (fun h_ => by have := HZ6.out; have := HZ10.out; have := HZ20.out; have := HZ33.out; have := HZ46.out; have := HZ58.out; have := HZ60.out; have := HZ67.out; have := HZ74.out; have := HZ76.out; have := HZ86.out; have := HZ96.out; have := HZ99.out; have := HZ106.out; have := GQ4.out; omega))
  clear hczb1_0 hfzb1_0; clear hczb1_1 hfzb1_1; clear hczb1_2 hfzb1_2
  clear BK3
  have BK3 := hn_
  clear hn_
  have hn_ := Aside0.mk (blk_kept BK55.out hk2_ (fun h_ => by have := HZ6.out; have := HZ10.out; have := HZ20.out; have := HZ33.out; have := HZ46.out; have := HZ58.out; have := HZ60.out; have := HZ67.out; have := HZ74.out; have := HZ76.out; have := HZ86.out; have := HZ96.out; have := HZ99.out; have := HZ106.out; have := GQ56.out; omega))
  clear hczb53_0 hfzb53_0; clear hczb53_1 hfzb53_1; clear hczb53_2 hfzb53_2
  clear BK55
  have BK55 := hn_
  clear hn_
  clear hk2_ hk_ hb0_ f0_
  have hczb1_0 : w107.cell? ⟨gb2, 0, none⟩ = some (.slice A0_0 l0_0.length c0_0) := (blk_cell BK3.out 0).trans rfl; have hfzb1_0 := blk_frozen BK3.out 0; have hczb1_1 : w107.cell? ⟨gb2, 1, none⟩ = some (.slice A0_1 l0_1.length c0_1) := (blk_cell BK3.out 1).trans rfl; have hfzb1_1 := blk_frozen BK3.out 1; have hczb1_2 : w107.cell? ⟨gb2, 2, none⟩ = some (.bool a0_2) := (blk_cell BK3.out 2).trans rfl; have hfzb1_2 := blk_frozen BK3.out 2
  have hczb53_0 : w107.cell? ⟨gb54, 0, none⟩ = some (.slice A48 t37.length c49) := (blk_cell BK55.out 0).trans rfl; have hfzb53_0 := blk_frozen BK55.out 0; have hczb53_1 : w107.cell? ⟨gb54, 1, none⟩ = some (.slice A51 t38.length c52) := (blk_cell BK55.out 1).trans rfl; have hfzb53_1 := blk_frozen BK55.out 1; have hczb53_2 : w107.cell? ⟨gb54, 2, none⟩ = some (.bool t39) := (blk_cell BK55.out 2).trans rfl; have hfzb53_2 := blk_frozen BK55.out 2
  have hl113 := (Kd.R_reads' F68.out).1
  have HL113 := Aside0.mk hl113
  clear hl113
  have hn1_ : decide (t108 < 0) = false := decide_eq_false (by have := H111.out; omega)
  have hd114 := hn1_
  clear hn1_
  go_wp2_with fail
  have hc_ := laws_heldIntS.calls k _ _ t109 1 t108 _ (Lk.Rr F68.out).2 (Lk.Rr F68.out).1 H116.out
  simp only [← HL113.out] at hc_
  refine hc_.mono ?_
  clear hc_
  rintro e_ w117 ⟨rfl, ⟨nd_, hd_⟩⟩
  have hb : Below w107.heap.size w107 w117 := by rw [hd_]; exact pw_below_drewN (Below.refl _ _) nd_
  clear hd_
  have hq_ : Below w107.heap.size w107 w117 := ⟨hb.os, hb.tape, hb.output, hb.size, hb.block⟩
  have HZ118 := Aside0.mk (show w107.heap.size ≤ w117.heap.size from hq_.size)
  have hn_ := Aside0.mk (below_then HB.out HB.out.size hq_)
  clear HB
  have HB := hn_
  clear hn_
  have hn_ := Aside0.mk (Kd.S_below F21.out hq_)
  clear F21
  have F21 := hn_
  clear hn_
  have hn_ := Aside0.mk (Kd.R_below F24.out hq_)
  clear F24
  have F24 := hn_
  clear hn_
  have hn_ := Aside0.mk (Kd.R_below F34.out hq_)
  clear F34
  have F34 := hn_
  clear hn_
  have hn_ := Aside0.mk (Kd.S_below F47.out hq_)
  clear F47
  have F47 := hn_
  clear hn_
  have hn_ := Aside0.mk (Kd.R_below F50.out hq_)
  clear F50
  have F50 := hn_
  clear hn_
  have hn_ := Aside0.mk (Kd.R_below F68.out hq_)
  clear F68
  have F68 := hn_
  clear hn_
  have hn_ := Aside0.mk (Kd.S_below F87.out hq_)
  clear F87
  have F87 := hn_
  clear hn_
  have hn_ := Aside0.mk (Kd.R_below F90.out hq_)
  clear F90
  have F90 := hn_
  clear hn_
  have hn_ := Aside0.mk (blk_below BK3.out hq_)
  clear hczb1_0 hfzb1_0; clear hczb1_1 hfzb1_1; clear hczb1_2 hfzb1_2
  clear BK3
  have BK3 := hn_
  clear hn_
  have hn_ := Aside0.mk (blk_below BK55.out hq_)
  clear hczb53_0 hfzb53_0; clear hczb53_1 hfzb53_1; clear hczb53_2 hfzb53_2
  clear BK55
  have BK55 := hn_
  clear hn_
  clear hq_
  have hczb1_0 : w117.cell? ⟨gb2, 0, none⟩ = some (.slice A0_0 l0_0.length c0_0) := (blk_cell BK3.out 0).trans rfl; have hfzb1_0 := blk_frozen BK3.out 0; have hczb1_1 : w117.cell? ⟨gb2, 1, none⟩ = some (.slice A0_1 l0_1.length c0_1) := (blk_cell BK3.out 1).trans rfl; have hfzb1_1 := blk_frozen BK3.out 1; have hczb1_2 : w117.cell? ⟨gb2, 2, none⟩ = some (.bool a0_2) := (blk_cell BK3.out 2).trans rfl; have hfzb1_2 := blk_frozen BK3.out 2
  have hczb53_0 : w117.cell? ⟨gb54, 0, none⟩ = some (.slice A48 t37.length c49) := (blk_cell BK55.out 0).trans rfl; have hfzb53_0 := blk_frozen BK55.out 0; have hczb53_1 : w117.cell? ⟨gb54, 1, none⟩ = some (.slice A51 t38.length c52) := (blk_cell BK55.out 1).trans rfl; have hfzb53_1 := blk_frozen BK55.out 1; have hczb53_2 : w117.cell? ⟨gb54, 2, none⟩ = some (.bool t39) := (blk_cell BK55.out 2).trans rfl; have hfzb53_2 := blk_frozen BK55.out 2
  clear hb
  go_wp2_with fail
  refine (laws_toMarker.calls k _ _ l0_0 _ _ l0_1 a0_2 t119 t120 t121 _ (Kd.C_below HR0_0.out HB.out) HC0_0.out (Kd.C_below HR0_1.out HB.out) HC0_1.out H122.out).mono ?_
  rintro e_ w123 ⟨v124, v125, rfl, f126, f127, hb⟩
  have hq_ : Below w117.heap.size w117 w123 := ⟨hb.os, hb.tape, hb.output, hb.size, hb.block⟩
  have HZ128 := Aside0.mk (show w117.heap.size ≤ w123.heap.size from hq_.size)
  have hn_ := Aside0.mk (below_then HB.out HB.out.size hq_)
  clear HB
  have HB := hn_
  clear hn_
  have hn_ := Aside0.mk (Kd.S_below F21.out hq_)
  clear F21
  have F21 := hn_
  clear hn_
  have hn_ := Aside0.mk (Kd.R_below F24.out hq_)
  clear F24
  have F24 := hn_
  clear hn_
  have hn_ := Aside0.mk (Kd.R_below F34.out hq_)
  clear F34
  have F34 := hn_
  clear hn_
  have hn_ := Aside0.mk (Kd.S_below F47.out hq_)
  clear F47
  have F47 := hn_
  clear hn_
  have hn_ := Aside0.mk (Kd.R_below F50.out hq_)
  clear F50
  have F50 := hn_
  clear hn_
  have hn_ := Aside0.mk (Kd.R_below F68.out hq_)
  clear F68
  have F68 := hn_
  clear hn_
  have hn_ := Aside0.mk (Kd.S_below F87.out hq_)
  clear F87
  have F87 := hn_
  clear hn_
  have hn_ := Aside0.mk (Kd.R_below F90.out hq_)
  clear F90
  have F90 := hn_
  clear hn_
  have hn_ := Aside0.mk (blk_below BK3.out hq_)
  clear hczb1_0 hfzb1_0; clear hczb1_1 hfzb1_1; clear hczb1_2 hfzb1_2
  clear BK3
  have BK3 := hn_
  clear hn_
  have hn_ := Aside0.mk (blk_below BK55.out hq_)
  clear hczb53_0 hfzb53_0; clear hczb53_1 hfzb53_1; clear hczb53_2 hfzb53_2
  clear BK55
  have BK55 := hn_
  clear hn_
  clear hq_
  have hczb1_0 : w123.cell? ⟨gb2, 0, none⟩ = some (.slice A0_0 l0_0.length c0_0) := (blk_cell BK3.out 0).trans rfl; have hfzb1_0 := blk_frozen BK3.out 0; have hczb1_1 : w123.cell? ⟨gb2, 1, none⟩ = some (.slice A0_1 l0_1.length c0_1) := (blk_cell BK3.out 1).trans rfl; have hfzb1_1 := blk_frozen BK3.out 1; have hczb1_2 : w123.cell? ⟨gb2, 2, none⟩ = some (.bool a0_2) := (blk_cell BK3.out 2).trans rfl; have hfzb1_2 := blk_frozen BK3.out 2
  have hczb53_0 : w123.cell? ⟨gb54, 0, none⟩ = some (.slice A48 t37.length c49) := (blk_cell BK55.out 0).trans rfl; have hfzb53_0 := blk_frozen BK55.out 0; have hczb53_1 : w123.cell? ⟨gb54, 1, none⟩ = some (.slice A51 t38.length c52) := (blk_cell BK55.out 1).trans rfl; have hfzb53_1 := blk_frozen BK55.out 1; have hczb53_2 : w123.cell? ⟨gb54, 2, none⟩ = some (.bool t39) := (blk_cell BK55.out 2).trans rfl; have hfzb53_2 := blk_frozen BK55.out 2
  clear hb
  have F129 := Aside0.mk (Lk.newS (b := w117.heap.size) (base := w.heap.size) (Sep := fun k_ => some k_ ≠ (v125 : Value).ownBlock) f126 (by have := HZ6.out; have := HZ10.out; have := HZ20.out; have := HZ33.out; have := HZ46.out; have := HZ58.out; have := HZ60.out; have := HZ67.out; have := HZ74.out; have := HZ76.out; have := HZ86.out; have := HZ96.out; have := HZ99.out; have := HZ106.out; have := HZ112.out; have := HZ118.out; have := HZ128.out; omega) (fun k_ hk_ => hk_))
  clear f126
  have F132 := Aside0.mk (Lk.newR (b := w117.heap.size) (base := w.heap.size) (Sep := fun k_ => True) rfl f127 (by have := HZ6.out; have := HZ10.out; have := HZ20.out; have := HZ33.out; have := HZ46.out; have := HZ58.out; have := HZ60.out; have := HZ67.out; have := HZ74.out; have := HZ76.out; have := HZ86.out; have := HZ96.out; have := HZ99.out; have := HZ106.out; have := HZ112.out; have := HZ118.out; have := HZ128.out; omega) (fun k_ hk_ => hk_))
  clear f127
  obtain ⟨A130, c131, e_⟩ := Kd.S_slice F129.out
  subst e_
  obtain ⟨A133, c134, e_⟩ := Kd.R_slice F132.out
  subst e_
  go_wp2_with fail
  refine (impl_GreyIn.calls k _ _ t119 _ _ t120 t121 t135 t28 _ (Lk.Sr F129.out).2 (Lk.Sr F129.out).1 (Lk.Rr F132.out).2 (Lk.Rr F132.out).1 H137.out).mono ?_
  rintro e_ w138 ⟨v139, rfl, f140, hb⟩
  have hq_ : Below w123.heap.size w123 w138 := ⟨hb.os, hb.tape, hb.output, hb.size, hb.block⟩
  have HZ141 := Aside0.mk (show w123.heap.size ≤ w138.heap.size from hq_.size)
  have hn_ := Aside0.mk (below_then HB.out HB.out.size hq_)
  clear HB
  have HB := hn_
  clear hn_
  have hn_ := Aside0.mk (Kd.S_below F21.out hq_)
  clear F21
  have F21 := hn_
  clear hn_
  have hn_ := Aside0.mk (Kd.R_below F24.out hq_)
  clear F24
  have F24 := hn_
  clear hn_
  have hn_ := Aside0.mk (Kd.R_below F34.out hq_)
  clear F34
  have F34 := hn_
  clear hn_
  have hn_ := Aside0.mk (Kd.S_below F47.out hq_)
  clear F47
  have F47 := hn_
  clear hn_
  have hn_ := Aside0.mk (Kd.R_below F50.out hq_)
  clear F50
  have F50 := hn_
  clear hn_
  have hn_ := Aside0.mk (Kd.R_below F68.out hq_)
  clear F68
  have F68 := hn_
  clear hn_
  have hn_ := Aside0.mk (Kd.S_below F87.out hq_)
  clear F87
  have F87 := hn_
  clear hn_
  have hn_ := Aside0.mk (Kd.R_below F90.out hq_)
  clear F90
  have F90 := hn_
  clear hn_
  have hn_ := Aside0.mk (Kd.S_below F129.out hq_)
  clear F129
  have F129 := hn_
  clear hn_
  have hn_ := Aside0.mk (Kd.R_below F132.out hq_)
  clear F132
  have F132 := hn_
  clear hn_
  have hn_ := Aside0.mk (blk_below BK3.out hq_)
  clear hczb1_0 hfzb1_0; clear hczb1_1 hfzb1_1; clear hczb1_2 hfzb1_2
  clear BK3
  have BK3 := hn_
  clear hn_
  have hn_ := Aside0.mk (blk_below BK55.out hq_)
  clear hczb53_0 hfzb53_0; clear hczb53_1 hfzb53_1; clear hczb53_2 hfzb53_2
  clear BK55
  have BK55 := hn_
  clear hn_
  clear hq_
  have hczb1_0 : w138.cell? ⟨gb2, 0, none⟩ = some (.slice A0_0 l0_0.length c0_0) := (blk_cell BK3.out 0).trans rfl; have hfzb1_0 := blk_frozen BK3.out 0; have hczb1_1 : w138.cell? ⟨gb2, 1, none⟩ = some (.slice A0_1 l0_1.length c0_1) := (blk_cell BK3.out 1).trans rfl; have hfzb1_1 := blk_frozen BK3.out 1; have hczb1_2 : w138.cell? ⟨gb2, 2, none⟩ = some (.bool a0_2) := (blk_cell BK3.out 2).trans rfl; have hfzb1_2 := blk_frozen BK3.out 2
  have hczb53_0 : w138.cell? ⟨gb54, 0, none⟩ = some (.slice A48 t37.length c49) := (blk_cell BK55.out 0).trans rfl; have hfzb53_0 := blk_frozen BK55.out 0; have hczb53_1 : w138.cell? ⟨gb54, 1, none⟩ = some (.slice A51 t38.length c52) := (blk_cell BK55.out 1).trans rfl; have hfzb53_1 := blk_frozen BK55.out 1; have hczb53_2 : w138.cell? ⟨gb54, 2, none⟩ = some (.bool t39) := (blk_cell BK55.out 2).trans rfl; have hfzb53_2 := blk_frozen BK55.out 2
  clear hb
  have F142 := Aside0.mk (Lk.newR (b := w123.heap.size) (base := w.heap.size) (Sep := fun k_ => True) rfl f140 (by have := HZ6.out; have := HZ10.out; have := HZ20.out; have := HZ33.out; have := HZ46.out; have := HZ58.out; have := HZ60.out; have := HZ67.out; have := HZ74.out; have := HZ76.out; have := HZ86.out; have := HZ96.out; have := HZ99.out; have := HZ106.out; have := HZ112.out; have := HZ118.out; have := HZ128.out; have := HZ141.out; omega) (fun k_ hk_ => hk_))
  clear f140
  obtain ⟨A143, c144, e_⟩ := Kd.R_slice F142.out
  subst e_
  go_wp2_with fail
  refine (laws_eqIntS.calls k _ _ t135 _ _ t27 true _ (Lk.Rr F142.out).2 (Lk.Rr F142.out).1 (Lk.Rr F34.out).2 (Lk.Rr F34.out).1 H146.out).mono ?_
  rintro e_ w147 ⟨rfl, ⟨nd_, hd_⟩⟩
  have hb : Below w138.heap.size w138 w147 := by rw [hd_]; exact pw_below_drewN (Below.refl _ _) nd_
  clear hd_
  have hq_ : Below w138.heap.size w138 w147 := ⟨hb.os, hb.tape, hb.output, hb.size, hb.block⟩
  have HZ148 := Aside0.mk (show w138.heap.size ≤ w147.heap.size from hq_.size)
  have hn_ := Aside0.mk (below_then HB.out HB.out.size hq_)
  clear HB
  have HB := hn_
  clear hn_
  have hn_ := Aside0.mk (Kd.S_below F21.out hq_)
  clear F21
  have F21 := hn_
  clear hn_
  have hn_ := Aside0.mk (Kd.R_below F24.out hq_)
  clear F24
  have F24 := hn_
  clear hn_
  have hn_ := Aside0.mk (Kd.R_below F34.out hq_)
  clear F34
  have F34 := hn_
  clear hn_
  have hn_ := Aside0.mk (Kd.S_below F47.out hq_)
  clear F47
  have F47 := hn_
  clear hn_
  have hn_ := Aside0.mk (Kd.R_below F50.out hq_)
  clear F50
  have F50 := hn_
  clear hn_
  have hn_ := Aside0.mk (Kd.R_below F68.out hq_)
  clear F68
  have F68 := hn_
  clear hn_
  have hn_ := Aside0.mk (Kd.S_below F87.out hq_)
  clear F87
  have F87 := hn_
  clear hn_
  have hn_ := Aside0.mk (Kd.R_below F90.out hq_)
  clear F90
  have F90 := hn_
  clear hn_
  have hn_ := Aside0.mk (Kd.S_below F129.out hq_)
  clear F129
  have F129 := hn_
  clear hn_
  have hn_ := Aside0.mk (Kd.R_below F132.out hq_)
  clear F132
  have F132 := hn_
  clear hn_
  have hn_ := Aside0.mk (Kd.R_below F142.out hq_)
  clear F142
  have F142 := hn_
  clear hn_
  have hn_ := Aside0.mk (blk_below BK3.out hq_)
  clear hczb1_0 hfzb1_0; clear hczb1_1 hfzb1_1; clear hczb1_2 hfzb1_2
  clear BK3
  have BK3 := hn_
  clear hn_
  have hn_ := Aside0.mk (blk_below BK55.out hq_)
  clear hczb53_0 hfzb53_0; clear hczb53_1 hfzb53_1; clear hczb53_2 hfzb53_2
  clear BK55
  have BK55 := hn_
  clear hn_
  clear hq_
  have hczb1_0 : w147.cell? ⟨gb2, 0, none⟩ = some (.slice A0_0 l0_0.length c0_0) := (blk_cell BK3.out 0).trans rfl; have hfzb1_0 := blk_frozen BK3.out 0; have hczb1_1 : w147.cell? ⟨gb2, 1, none⟩ = some (.slice A0_1 l0_1.length c0_1) := (blk_cell BK3.out 1).trans rfl; have hfzb1_1 := blk_frozen BK3.out 1; have hczb1_2 : w147.cell? ⟨gb2, 2, none⟩ = some (.bool a0_2) := (blk_cell BK3.out 2).trans rfl; have hfzb1_2 := blk_frozen BK3.out 2
  have hczb53_0 : w147.cell? ⟨gb54, 0, none⟩ = some (.slice A48 t37.length c49) := (blk_cell BK55.out 0).trans rfl; have hfzb53_0 := blk_frozen BK55.out 0; have hczb53_1 : w147.cell? ⟨gb54, 1, none⟩ = some (.slice A51 t38.length c52) := (blk_cell BK55.out 1).trans rfl; have hfzb53_1 := blk_frozen BK55.out 1; have hczb53_2 : w147.cell? ⟨gb54, 2, none⟩ = some (.bool t39) := (blk_cell BK55.out 2).trans rfl; have hfzb53_2 := blk_frozen BK55.out 2
  clear hb
  go_wp2_with fail
  have hc_ := laws_heldIntS.calls k _ _ t109 1 t108 _ (Lk.Rr F68.out).2 (Lk.Rr F68.out).1 H150.out
  simp only [← HL113.out] at hc_
  refine hc_.mono ?_
  clear hc_
  rintro e_ w151 ⟨rfl, ⟨nd_, hd_⟩⟩
  have hb : Below w147.heap.size w147 w151 := by rw [hd_]; exact pw_below_drewN (Below.refl _ _) nd_
  clear hd_
  have hq_ : Below w147.heap.size w147 w151 := ⟨hb.os, hb.tape, hb.output, hb.size, hb.block⟩
  have HZ152 := Aside0.mk (show w147.heap.size ≤ w151.heap.size from hq_.size)
  have hn_ := Aside0.mk (below_then HB.out HB.out.size hq_)
  clear HB
  have HB := hn_
  clear hn_
  have hn_ := Aside0.mk (Kd.S_below F21.out hq_)
  clear F21
  have F21 := hn_
  clear hn_
  have hn_ := Aside0.mk (Kd.R_below F24.out hq_)
  clear F24
  have F24 := hn_
  clear hn_
  have hn_ := Aside0.mk (Kd.R_below F34.out hq_)
  clear F34
  have F34 := hn_
  clear hn_
  have hn_ := Aside0.mk (Kd.S_below F47.out hq_)
  clear F47
  have F47 := hn_
  clear hn_
  have hn_ := Aside0.mk (Kd.R_below F50.out hq_)
  clear F50
  have F50 := hn_
  clear hn_
  have hn_ := Aside0.mk (Kd.R_below F68.out hq_)
  clear F68
  have F68 := hn_
  clear hn_
  have hn_ := Aside0.mk (Kd.S_below F87.out hq_)
  clear F87
  have F87 := hn_
  clear hn_
  have hn_ := Aside0.mk (Kd.R_below F90.out hq_)
  clear F90
  have F90 := hn_
  clear hn_
  have hn_ := Aside0.mk (Kd.S_below F129.out hq_)
  clear F129
  have F129 := hn_
  clear hn_
  have hn_ := Aside0.mk (Kd.R_below F132.out hq_)
  clear F132
  have F132 := hn_
  clear hn_
  have hn_ := Aside0.mk (Kd.R_below F142.out hq_)
  clear F142
  have F142 := hn_
  clear hn_
  have hn_ := Aside0.mk (blk_below BK3.out hq_)
  clear hczb1_0 hfzb1_0; clear hczb1_1 hfzb1_1; clear hczb1_2 hfzb1_2
  clear BK3
  have BK3 := hn_
  clear hn_
  have hn_ := Aside0.mk (blk_below BK55.out hq_)
  clear hczb53_0 hfzb53_0; clear hczb53_1 hfzb53_1; clear hczb53_2 hfzb53_2
  clear BK55
  have BK55 := hn_
  clear hn_
  clear hq_
  have hczb1_0 : w151.cell? ⟨gb2, 0, none⟩ = some (.slice A0_0 l0_0.length c0_0) := (blk_cell BK3.out 0).trans rfl; have hfzb1_0 := blk_frozen BK3.out 0; have hczb1_1 : w151.cell? ⟨gb2, 1, none⟩ = some (.slice A0_1 l0_1.length c0_1) := (blk_cell BK3.out 1).trans rfl; have hfzb1_1 := blk_frozen BK3.out 1; have hczb1_2 : w151.cell? ⟨gb2, 2, none⟩ = some (.bool a0_2) := (blk_cell BK3.out 2).trans rfl; have hfzb1_2 := blk_frozen BK3.out 2
  have hczb53_0 : w151.cell? ⟨gb54, 0, none⟩ = some (.slice A48 t37.length c49) := (blk_cell BK55.out 0).trans rfl; have hfzb53_0 := blk_frozen BK55.out 0; have hczb53_1 : w151.cell? ⟨gb54, 1, none⟩ = some (.slice A51 t38.length c52) := (blk_cell BK55.out 1).trans rfl; have hfzb53_1 := blk_frozen BK55.out 1; have hczb53_2 : w151.cell? ⟨gb54, 2, none⟩ = some (.bool t39) := (blk_cell BK55.out 2).trans rfl; have hfzb53_2 := blk_frozen BK55.out 2
  clear hb
  go_wp2_with fail
  go_ret
  exact ⟨rfl, HB.out⟩
end Go.Proofs.Ytmgnnegmohmbhaa.Q
