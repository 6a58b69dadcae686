/- The law FnExactNewMarker of this seat: the walk along its one way. Conditions: none. -/
import Derived.Test.YtmgnnegmohmbhaaQx0
import Derived.Test.YtmgnnegmohmbhaaQx1
import Derived.Test.YtmgnnegmohmbhaaQx2
import Derived.Test.YtmgnnegmohmbhaaQx3
import Derived.Test.YtmgnnegmohmbhaaGoodFnExactNewMarker
import Derived.Test.YtmgnnegmohmbhaaLk
namespace Go.Proofs.Ytmgnnegmohmbhaa.Q
open Go.RowKit Go.Proofs.YtmgnnegmohmbhaaW.PrintWords Go.Proofs.YtmgnnegmohmbhaaW.PrintLast Go.Proofs.YtmgnnegmohmbhaaW.PrintMore
set_option linter.unusedVariables false
open Lk in
set_option maxHeartbeats 8000000 in
set_option maxRecDepth 100000 in
theorem laws_FnExactNewMarker.calls (k : Nat) (a0 : Int) (r : Bool) (w : World)  (h : laws_FnExactNewMarker.f k a0 = some r) :
    Calls Try.prog 3 #[.int .i64 a0] w fun e w' => e = .returned (.bool r) ∧ Below w.heap.size w w' := by
  unfold laws_FnExactNewMarker.f at h
  split at h
  case isFalse => cases h
  rename_i hg
  obtain rfl := Option.some.inj h
  clear h
  have HB := Aside0.mk (Below.refl w.heap.size w)
  unfold laws_FnExactNewMarker.good at hg
  obtain ⟨t1, t2, t3, t4, H50, t26, t27, t28, H300, H520, H560, H620, t65, t66, t67, H690, H910, H950, hg⟩ := hg
  have H5 := Aside0.mk H50
  clear H50
  have H30 := Aside0.mk H300
  clear H300
  have H52 := Aside0.mk H520
  clear H520
  have H56 := Aside0.mk H560
  clear H560
  have H62 := Aside0.mk H620
  clear H620
  have H69 := Aside0.mk H690
  clear H690
  have H91 := Aside0.mk H910
  clear H910
  have H95 := Aside0.mk H950
  clear H950
  clear hg
  go_enter Try.func3, Try.ntmps3
  go_wp2_with fail
  refine (spec_NewMarker.calls k a0 t1 t2 t3 t4 _ H5.out).mono ?_
  rintro e_ w6 ⟨v7, v8, rfl, f9, f10, hb⟩
  have hq_ : Below w.heap.size w w6 := ⟨hb.os, hb.tape, hb.output, hb.size, hb.block⟩
  have HZ11 := Aside0.mk (show w.heap.size ≤ w6.heap.size from hq_.size)
  have hn_ := Aside0.mk (below_then HB.out HB.out.size hq_)
  clear HB
  have HB := hn_
  clear hn_
  clear hq_
  clear hb
  have F12 := Aside0.mk (Lk.newS (b := w.heap.size) (base := w.heap.size) (Sep := fun k_ => some k_ ≠ (v8 : Value).ownBlock) f9 (by have := HZ11.out; omega) (fun k_ hk_ => hk_))
  clear f9
  have F15 := Aside0.mk (Lk.newR (b := w.heap.size) (base := w.heap.size) (Sep := fun k_ => True) rfl f10 (by have := HZ11.out; omega) (fun k_ hk_ => hk_))
  clear f10
  obtain ⟨A13, c14, e_⟩ := Kd.S_slice F12.out
  subst e_
  obtain ⟨A16, c17, e_⟩ := Kd.R_slice F15.out
  subst e_
  go_wp2_with (first | ((with_reducible refine gate_dst (N := 3) rfl ?_); refine box_event ?hg (N := 3) ?hd (cs := #[.slice none 0 0, .slice none 0 0, .bool false]) (t := 25) ?hr ?_; (case hd => rfl); (case hg => rfl); (case hr => first | (go_simp; done) | (go_simp; rfl)); intro gb19 hg_ w22 hx_ hb; have hg2_ : gb19 = w6.heap.size := hg_; have hq_ : Below w6.heap.size w6 w22 := ⟨hb.os, hb.tape, hb.output, hb.size, hb.block⟩; have HZ23 := Aside0.mk (show w6.heap.size ≤ w22.heap.size from hq_.size); have hn_ := Aside0.mk (below_then HB.out HB.out.size hq_); clear HB; have HB := hn_; clear hn_; have hn_ := Aside0.mk (Kd.S_below F12.out hq_); clear F12; have F12 := hn_; clear hn_; have hn_ := Aside0.mk (Kd.R_below F15.out hq_); clear F15; have F15 := hn_; clear hn_; clear hq_; have BK20 := Aside0.mk hx_; have GQ21 := Aside0.mk (show w6.heap.size ≤ gb19 ∧ gb19 < w22.heap.size from ⟨Nat.le_of_eq hg2_.symm, blk_lt hx_⟩); clear hb hg_ hg2_ hx_; have hczb18_0 : w22.cell? ⟨gb19, 0, none⟩ = some (.slice none 0 0) := (blk_cell BK20.out 0).trans rfl; have hfzb18_0 := blk_frozen BK20.out 0; have hczb18_1 : w22.cell? ⟨gb19, 1, none⟩ = some (.slice none 0 0) := (blk_cell BK20.out 1).trans rfl; have hfzb18_1 := blk_frozen BK20.out 1; have hczb18_2 : w22.cell? ⟨gb19, 2, none⟩ = some (.bool false) := (blk_cell BK20.out 2).trans rfl; have hfzb18_2 := blk_frozen BK20.out 2) | ((with_reducible refine gate_store (t := 25) (p := 3) rfl ?_); refine store_event (t := 25) (p := 3) (v := ?vo_w24) (w1 := (((w22.setCell ⟨gb19, 0, none⟩ (.slice A13 t1.length c14)).setCell ⟨gb19, 1, none⟩ (.slice A16 t2.length c17)).setCell ⟨gb19, 2, none⟩ (.bool t3))) ?hg ?ho ?hn ?hr ?_; (case ho => rfl); (case hg => rfl); (case hn => rfl); (case hr => first | (go_simp; done) | (go_simp; rfl)); intro w24 hw_; have hx_ : w24.heap[gb19]? = some (.cells #[(.slice A13 t1.length c14), (.slice A16 t2.length c17), (.bool t3)] 25 (0, 0)) := (by rw [hw_]; exact Lk.filled (us := [(.slice A13 t1.length c14), (.slice A16 t2.length c17), (.bool t3)]) BK20.out rfl); have hk2_ : Kept w22 w24 (fun k_ => k_ = gb19) := (by rw [hw_]; exact Lk.fill_kept [(.slice A13 t1.length c14), (.slice A16 t2.length c17), (.bool t3)] 0 w22); have hB_ := Aside0.mk (show Below w.heap.size w w24 by rw [hw_]; exact Lk.fill_below [(.slice A13 t1.length c14), (.slice A16 t2.length c17), (.bool t3)] 0 w w22 HB.out (by have := HZ11.out; have := HZ23.out; have := GQ21.out; omega)); clear HB; have HB := hB_; clear hB_; have HZ25 := Aside0.mk (show w22.heap.size ≤ w24.heap.size from hk2_.1); have hn_ := Aside0.mk (Kd.S_kept F12.out hk2_ (fun k_ h1_ h2_ => by have := HZ11.out; have := HZ23.out; have := GQ21.out; have h3_ := h1_.1; omega)); clear F12; have F12 := hn_; clear hn_; have hn_ := Aside0.mk (Kd.R_kept F15.out hk2_ (fun k_ h1_ h2_ => by have := HZ11.out; have := HZ23.out; have := GQ21.out; have h3_ := h1_.1; omega)); clear F15; have F15 := hn_; clear hn_; clear hczb18_0 hfzb18_0; clear hczb18_1 hfzb18_1; clear hczb18_2 hfzb18_2; clear BK20; have BK20 := Aside0.mk hx_; clear hk2_ hx_ hw_; have hczb18_0 : w24.cell? ⟨gb19, 0, none⟩ = some (.slice A13 t1.length c14) := (blk_cell BK20.out 0).trans rfl; have hfzb18_0 := blk_frozen BK20.out 0; have hczb18_1 : w24.cell? ⟨gb19, 1, none⟩ = some (.slice A16 t2.length c17) := (blk_cell BK20.out 1).trans rfl; have hfzb18_1 := blk_frozen BK20.out 1; have hczb18_2 : w24.cell? ⟨gb19, 2, none⟩ = some (.bool t3) := (blk_cell BK20.out 2).trans rfl; have hfzb18_2 := blk_frozen BK20.out 2))
  refine (impl_NewMarker.calls k a0 t26 t27 t28 t4 _ H30.out).mono ?_
  rintro e_ w31 ⟨v32, v33, rfl, f34, f35, hb⟩
  have hq_ : Below w24.heap.size w24 w31 := ⟨hb.os, hb.tape, hb.output, hb.size, hb.block⟩
  have HZ36 := Aside0.mk (show w24.heap.size ≤ w31.heap.size from hq_.size)
  have hn_ := Aside0.mk (below_then HB.out HB.out.size hq_)
  clear HB
  have HB := hn_
  clear hn_
  have hn_ := Aside0.mk (Kd.S_below F12.out hq_)
  clear F12
  have F12 := hn_
  clear hn_
  have hn_ := Aside0.mk (Kd.R_below F15.out hq_)
  clear F15
  have F15 := hn_
  clear hn_
  have hn_ := Aside0.mk (blk_below BK20.out hq_)
  clear hczb18_0 hfzb18_0; clear hczb18_1 hfzb18_1; clear hczb18_2 hfzb18_2
  clear BK20
  have BK20 := hn_
  clear hn_
  clear hq_
  have hczb18_0 : w31.cell? ⟨gb19, 0, none⟩ = some (.slice A13 t1.length c14) := (blk_cell BK20.out 0).trans rfl; have hfzb18_0 := blk_frozen BK20.out 0; have hczb18_1 : w31.cell? ⟨gb19, 1, none⟩ = some (.slice A16 t2.length c17) := (blk_cell BK20.out 1).trans rfl; have hfzb18_1 := blk_frozen BK20.out 1; have hczb18_2 : w31.cell? ⟨gb19, 2, none⟩ = some (.bool t3) := (blk_cell BK20.out 2).trans rfl; have hfzb18_2 := blk_frozen BK20.out 2
  clear hb
  have F37 := Aside0.mk (Lk.newS (b := w24.heap.size) (base := w.heap.size) (Sep := fun k_ => some k_ ≠ (v33 : Value).ownBlock) f34 (by have := HZ11.out; have := HZ23.out; have := HZ25.out; have := HZ36.out; omega) (fun k_ hk_ => hk_))
  clear f34
  have F40 := Aside0.mk (Lk.newR (b := w24.heap.size) (base := w.heap.size) (Sep := fun k_ => True) rfl f35 (by have := HZ11.out; have := HZ23.out; have := HZ25.out; have := HZ36.out; omega) (fun k_ hk_ => hk_))
  clear f35
  obtain ⟨A38, c39, e_⟩ := Kd.S_slice F37.out
  subst e_
  obtain ⟨A41, c42, e_⟩ := Kd.R_slice F40.out
  subst e_
  go_wp2_with (first | ((with_reducible refine gate_dst (N := 5) rfl ?_); refine box_event ?hg (N := 5) ?hd (cs := #[.slice none 0 0, .slice none 0 0, .bool false]) (t := 25) ?hr ?_; (case hd => rfl); (case hg => rfl); (case hr => first | (go_simp; done) | (go_simp; rfl)); intro gb44 hg_ w47 hx_ hb; have hg2_ : gb44 = w31.heap.size := hg_; have hq_ : Below w31.heap.size w31 w47 := ⟨hb.os, hb.tape, hb.output, hb.size, hb.block⟩; have HZ48 := Aside0.mk (show w31.heap.size ≤ w47.heap.size from hq_.size); have hn_ := Aside0.mk (below_then HB.out HB.out.size hq_); clear HB; have HB := hn_; clear hn_; have hn_ := Aside0.mk (Kd.S_below F12.out hq_); clear F12; have F12 := hn_; clear hn_; have hn_ := Aside0.mk (Kd.R_below F15.out hq_); clear F15; have F15 := hn_; clear hn_; have hn_ := Aside0.mk (Kd.S_below F37.out hq_); clear F37; have F37 := hn_; clear hn_; have hn_ := Aside0.mk (Kd.R_below F40.out hq_); clear F40; have F40 := hn_; clear hn_; have hn_ := Aside0.mk (blk_below BK20.out hq_); clear hczb18_0 hfzb18_0; clear hczb18_1 hfzb18_1; clear hczb18_2 hfzb18_2; clear BK20; have BK20 := hn_; clear hn_; clear hq_; have hczb18_0 : w47.cell? ⟨gb19, 0, none⟩ = some (.slice A13 t1.length c14) := (blk_cell BK20.out 0).trans rfl; have hfzb18_0 := blk_frozen BK20.out 0; have hczb18_1 : w47.cell? ⟨gb19, 1, none⟩ = some (.slice A16 t2.length c17) := (blk_cell BK20.out 1).trans rfl; have hfzb18_1 := blk_frozen BK20.out 1; have hczb18_2 : w47.cell? ⟨gb19, 2, none⟩ = some (.bool t3) := (blk_cell BK20.out 2).trans rfl; have hfzb18_2 := blk_frozen BK20.out 2; have BK45 := Aside0.mk hx_; have GQ46 := Aside0.mk (show w31.heap.size ≤ gb44 ∧ gb44 < w47.heap.size from ⟨Nat.le_of_eq hg2_.symm, blk_lt hx_⟩); clear hb hg_ hg2_ hx_; have hczb43_0 : w47.cell? ⟨gb44, 0, none⟩ = some (.slice none 0 0) := (blk_cell BK45.out 0).trans rfl; have hfzb43_0 := blk_frozen BK45.out 0; have hczb43_1 : w47.cell? ⟨gb44, 1, none⟩ = some (.slice none 0 0) := (blk_cell BK45.out 1).trans rfl; have hfzb43_1 := blk_frozen BK45.out 1; have hczb43_2 : w47.cell? ⟨gb44, 2, none⟩ = some (.bool false) := (blk_cell BK45.out 2).trans rfl; have hfzb43_2 := blk_frozen BK45.out 2) | ((with_reducible refine gate_store (t := 25) (p := 5) rfl ?_); refine store_event (t := 25) (p := 5) (v := ?vo_w49) (w1 := (((w47.setCell ⟨gb44, 0, none⟩ (.slice A38 t26.length c39)).setCell ⟨gb44, 1, none⟩ (.slice A41 t27.length c42)).setCell ⟨gb44, 2, none⟩ (.bool t28))) ?hg ?ho ?hn ?hr ?_; (case ho => rfl); (case hg => rfl); (case hn => rfl); (case hr => first | (go_simp; done) | (go_simp; rfl)); intro w49 hw_; have hx_ : w49.heap[gb44]? = some (.cells #[(.slice A38 t26.length c39), (.slice A41 t27.length c42), (.bool t28)] 25 (0, 0)) := (by rw [hw_]; exact Lk.filled (us := [(.slice A38 t26.length c39), (.slice A41 t27.length c42), (.bool t28)]) BK45.out rfl); have hk2_ : Kept w47 w49 (fun k_ => k_ = gb44) := (by rw [hw_]; exact Lk.fill_kept [(.slice A38 t26.length c39), (.slice A41 t27.length c42), (.bool t28)] 0 w47); have hB_ := Aside0.mk (show Below w.heap.size w w49 by rw [hw_]; exact Lk.fill_below [(.slice A38 t26.length c39), (.slice A41 t27.length c42), (.bool t28)] 0 w w47 HB.out (by have := HZ11.out; have := HZ23.out; have := HZ25.out; have := HZ36.out; have := HZ48.out; have := GQ46.out; omega)); clear HB; have HB := hB_; clear hB_; have HZ50 := Aside0.mk (show w47.heap.size ≤ w49.heap.size from hk2_.1); have hn_ := Aside0.mk (Kd.S_kept F12.out hk2_ (fun k_ h1_ h2_ => by have := HZ11.out; have := HZ23.out; have := HZ25.out; have := HZ36.out; have := HZ48.out; have := GQ46.out; have h3_ := h1_.1; omega)); clear F12; have F12 := hn_; clear hn_; have hn_ := Aside0.mk (Kd.R_kept F15.out hk2_ (fun k_ h1_ h2_ => by have := HZ11.out; have := HZ23.out; have := HZ25.out; have := HZ36.out; have := HZ48.out; have := GQ46.out; have h3_ := h1_.1; omega)); clear F15; have F15 := hn_; clear hn_; have hn_ := Aside0.mk (Kd.S_kept F37.out hk2_ (fun k_ h1_ h2_ => by have := HZ11.out; have := HZ23.out; have := HZ25.out; have := HZ36.out; have := HZ48.out; have := GQ46.out; have h3_ := h1_.1; omega)); clear F37; have F37 := hn_; clear hn_; have hn_ := Aside0.mk (Kd.R_kept F40.out hk2_ (fun k_ h1_ h2_ => by have := HZ11.out; have := HZ23.out; have := HZ25.out; have := HZ36.out; have := HZ48.out; have := GQ46.out; have h3_ := h1_.1; omega)); clear F40; have F40 := hn_; clear hn_; clear hczb18_0 hfzb18_0; clear hczb18_1 hfzb18_1; clear hczb18_2 hfzb18_2; have hn_ := Aside0.mk (blk_kept BK20.out hk2_ (fun h_ => by have := HZ11.out; have := HZ23.out; have := HZ25.out; have := HZ36.out; have := HZ48.out; have := GQ46.out; have := GQ21.out; omega)); clear BK20; have BK20 := hn_; clear hn_; clear hczb43_0 hfzb43_0; clear hczb43_1 hfzb43_1; clear hczb43_2 hfzb43_2; clear BK45; have BK45 := Aside0.mk hx_; clear hk2_ hx_ hw_; have hczb18_0 : w49.cell? ⟨gb19, 0, none⟩ = some (.slice A13 t1.length c14) := (blk_cell BK20.out 0).trans rfl; have hfzb18_0 := blk_frozen BK20.out 0; have hczb18_1 : w49.cell? ⟨gb19, 1, none⟩ = some (.slice A16 t2.length c17) := (blk_cell BK20.out 1).trans rfl; have hfzb18_1 := blk_frozen BK20.out 1; have hczb18_2 : w49.cell? ⟨gb19, 2, none⟩ = some (.bool t3) := (blk_cell BK20.out 2).trans rfl; have hfzb18_2 := blk_frozen BK20.out 2; have hczb43_0 : w49.cell? ⟨gb44, 0, none⟩ = some (.slice A38 t26.length c39) := (blk_cell BK45.out 0).trans rfl; have hfzb43_0 := blk_frozen BK45.out 0; have hczb43_1 : w49.cell? ⟨gb44, 1, none⟩ = some (.slice A41 t27.length c42) := (blk_cell BK45.out 1).trans rfl; have hfzb43_1 := blk_frozen BK45.out 1; have hczb43_2 : w49.cell? ⟨gb44, 2, none⟩ = some (.bool t28) := (blk_cell BK45.out 2).trans rfl; have hfzb43_2 := blk_frozen BK45.out 2))
  refine (laws_eqMarker.calls k _ _ t26 _ _ t27 t28 _ _ t1 _ _ t2 t3 true _ (Lk.Sr F37.out).2 (Lk.Sr F37.out).1 (Lk.Rr F40.out).2 (Lk.Rr F40.out).1 (Lk.Sr F12.out).2 (Lk.Sr F12.out).1 (Lk.Rr F15.out).2 (Lk.Rr F15.out).1 H52.out).mono ?_
  rintro e_ w53 ⟨rfl, hb⟩
  have hq_ : Below w49.heap.size w49 w53 := ⟨hb.os, hb.tape, hb.output, hb.size, hb.block⟩
  have HZ54 := Aside0.mk (show w49.heap.size ≤ w53.heap.size from hq_.size)
  have hn_ := Aside0.mk (below_then HB.out HB.out.size hq_)
  clear HB
  have HB := hn_
  clear hn_
  have hn_ := Aside0.mk (Kd.S_below F12.out hq_)
  clear F12
  have F12 := hn_
  clear hn_
  have hn_ := Aside0.mk (Kd.R_below F15.out hq_)
  clear F15
  have F15 := hn_
  clear hn_
  have hn_ := Aside0.mk (Kd.S_below F37.out hq_)
  clear F37
  have F37 := hn_
  clear hn_
  have hn_ := Aside0.mk (Kd.R_below F40.out hq_)
  clear F40
  have F40 := hn_
  clear hn_
  have hn_ := Aside0.mk (blk_below BK20.out hq_)
  clear hczb18_0 hfzb18_0; clear hczb18_1 hfzb18_1; clear hczb18_2 hfzb18_2
  clear BK20
  have BK20 := hn_
  clear hn_
  have hn_ := Aside0.mk (blk_below BK45.out hq_)
  clear hczb43_0 hfzb43_0; clear hczb43_1 hfzb43_1; clear hczb43_2 hfzb43_2
  clear BK45
  have BK45 := hn_
  clear hn_
  clear hq_
  have hczb18_0 : w53.cell? ⟨gb19, 0, none⟩ = some (.slice A13 t1.length c14) := (blk_cell BK20.out 0).trans rfl; have hfzb18_0 := blk_frozen BK20.out 0; have hczb18_1 : w53.cell? ⟨gb19, 1, none⟩ = some (.slice A16 t2.length c17) := (blk_cell BK20.out 1).trans rfl; have hfzb18_1 := blk_frozen BK20.out 1; have hczb18_2 : w53.cell? ⟨gb19, 2, none⟩ = some (.bool t3) := (blk_cell BK20.out 2).trans rfl; have hfzb18_2 := blk_frozen BK20.out 2
  have hczb43_0 : w53.cell? ⟨gb44, 0, none⟩ = some (.slice A38 t26.length c39) := (blk_cell BK45.out 0).trans rfl; have hfzb43_0 := blk_frozen BK45.out 0; have hczb43_1 : w53.cell? ⟨gb44, 1, none⟩ = some (.slice A41 t27.length c42) := (blk_cell BK45.out 1).trans rfl; have hfzb43_1 := blk_frozen BK45.out 1; have hczb43_2 : w53.cell? ⟨gb44, 2, none⟩ = some (.bool t28) := (blk_cell BK45.out 2).trans rfl; have hfzb43_2 := blk_frozen BK45.out 2
  clear hb
  go_wp2_with fail
  have hn_ := H56.out
  refine (laws_markMarker.calls (fun k_ => w24.heap.size ≤ k_ ∧ k_ < w31.heap.size) _ t26 _ t27 t28 1 w _ HB.out F37.out F40.out (by omega) hn_).mono ?_
  rintro e_ w55 ⟨rfl, f0_, f1_, hb0_, hk_⟩
  have hk2_ : Kept w53 w55 (fun k_ => w24.heap.size ≤ k_ ∧ k_ < w31.heap.size) := Kept.mono hk_ (fun k_ h_ => by first | exact h_ | exact h_.1)
  have HZ57 := Aside0.mk (show w53.heap.size ≤ w55.heap.size from hk2_.1)
  clear HB
  have HB := Aside0.mk hb0_
  have hn_ := Aside0.mk (Kd.S_kept F12.out hk2_ (fun k_ h1_ h2_ => by have := HZ11.out; have := HZ23.out; have := HZ25.out; have := HZ36.out; have := HZ48.out; have := HZ50.out; have := HZ54.out; have h3_ := h1_.1; omega))
  clear F12
  have F12 := hn_
  clear hn_
  have hn_ := Aside0.mk (Kd.R_kept F15.out hk2_ (fun k_ h1_ h2_ => by have := HZ11.out; have := HZ23.out; have := HZ25.out; have := HZ36.out; have := HZ48.out; have := HZ50.out; have := HZ54.out; have h3_ := h1_.1; omega))
  clear F15
  have F15 := hn_
  clear hn_
  have hn_ := Aside0.mk (f0_)
  have F37n := hn_
  clear hn_
  have hn_ := Aside0.mk (f1_)
  have F40n := hn_
  clear hn_
  clear F37
  have F37 := F37n
  clear F37n
  clear F40
  have F40 := F40n
  clear F40n
  have hn_ := Aside0.mk (blk_kept BK20.out hk2_ (fun h_ => by have := HZ11.out; have := HZ23.out; have := HZ25.out; have := HZ36.out; have := HZ48.out; have := HZ50.out; have := HZ54.out; have := GQ21.out; omega))
  clear hczb18_0 hfzb18_0; clear hczb18_1 hfzb18_1; clear hczb18_2 hfzb18_2
  clear BK20
  have BK20 := hn_
  clear hn_
  have hn_ := Aside0.mk (blk_kept BK45.out hk2_ (fun h_ => by have := HZ11.out; have := HZ23.out; have := HZ25.out; have := HZ36.out; have := HZ48.out; have := HZ50.out; have := HZ54.out; have := GQ46.out; omega))
  clear hczb43_0 hfzb43_0; clear hczb43_1 hfzb43_1; clear hczb43_2 hfzb43_2
  clear BK45
  have BK45 := hn_
  clear hn_
  clear hk2_ hk_ hb0_ f0_ f1_
  have hczb18_0 : w55.cell? ⟨gb19, 0, none⟩ = some (.slice A13 t1.length c14) := (blk_cell BK20.out 0).trans rfl; have hfzb18_0 := blk_frozen BK20.out 0; have hczb18_1 : w55.cell? ⟨gb19, 1, none⟩ = some (.slice A16 t2.length c17) := (blk_cell BK20.out 1).trans rfl; have hfzb18_1 := blk_frozen BK20.out 1; have hczb18_2 : w55.cell? ⟨gb19, 2, none⟩ = some (.bool t3) := (blk_cell BK20.out 2).trans rfl; have hfzb18_2 := blk_frozen BK20.out 2
  have hczb43_0 : w55.cell? ⟨gb44, 0, none⟩ = some (.slice A38 t26.length c39) := (blk_cell BK45.out 0).trans rfl; have hfzb43_0 := blk_frozen BK45.out 0; have hczb43_1 : w55.cell? ⟨gb44, 1, none⟩ = some (.slice A41 t27.length c42) := (blk_cell BK45.out 1).trans rfl; have hfzb43_1 := blk_frozen BK45.out 1; have hczb43_2 : w55.cell? ⟨gb44, 2, none⟩ = some (.bool t28) := (blk_cell BK45.out 2).trans rfl; have hfzb43_2 := blk_frozen BK45.out 2
  have hl58 := (Kd.S_reads' F37.out).1
  have HL58 := Aside0.mk hl58
  clear hl58
  have hl59 := (Kd.R_reads' F40.out).1
  have HL59 := Aside0.mk hl59
  clear hl59
  have hn1_ : decide ((1 + (markCellS_cnt t26 : Nat) + (t27.length : Nat) : Int) < 0) = false := decide_eq_false (by omega)
  have hd60 := hn1_
  clear hn1_
  go_wp2_with fail
  have hc_ := laws_heldMarker.calls k _ _ (markCellS_mk (1) t26) _ _ (Kit.from_ (1 + (markCellS_cnt t26 : Nat)) t27.length) t28 1 (1 + (markCellS_cnt t26 : Nat) + (t27.length : Nat) : Int) _ (Lk.Sr F37.out).2 (Lk.Sr F37.out).1 (Lk.Rr F40.out).2 (Lk.Rr F40.out).1 H62.out
  simp only [← HL58.out, ← HL59.out] at hc_
  refine hc_.mono ?_
  clear hc_
  rintro e_ w63 ⟨rfl, hb⟩
  have hq_ : Below w55.heap.size w55 w63 := ⟨hb.os, hb.tape, hb.output, hb.size, hb.block⟩
  have HZ64 := Aside0.mk (show w55.heap.size ≤ w63.heap.size from hq_.size)
  have hn_ := Aside0.mk (below_then HB.out HB.out.size hq_)
  clear HB
  have HB := hn_
  clear hn_
  have hn_ := Aside0.mk (Kd.S_below F12.out hq_)
  clear F12
  have F12 := hn_
  clear hn_
  have hn_ := Aside0.mk (Kd.R_below F15.out hq_)
  clear F15
  have F15 := hn_
  clear hn_
  have hn_ := Aside0.mk (Kd.S_below F37.out hq_)
  clear F37
  have F37 := hn_
  clear hn_
  have hn_ := Aside0.mk (Kd.R_below F40.out hq_)
  clear F40
  have F40 := hn_
  clear hn_
  have hn_ := Aside0.mk (blk_below BK20.out hq_)
  clear hczb18_0 hfzb18_0; clear hczb18_1 hfzb18_1; clear hczb18_2 hfzb18_2
  clear BK20
  have BK20 := hn_
  clear hn_
  have hn_ := Aside0.mk (blk_below BK45.out hq_)
  clear hczb43_0 hfzb43_0; clear hczb43_1 hfzb43_1; clear hczb43_2 hfzb43_2
  clear BK45
  have BK45 := hn_
  clear hn_
  clear hq_
  have hczb18_0 : w63.cell? ⟨gb19, 0, none⟩ = some (.slice A13 t1.length c14) := (blk_cell BK20.out 0).trans rfl; have hfzb18_0 := blk_frozen BK20.out 0; have hczb18_1 : w63.cell? ⟨gb19, 1, none⟩ = some (.slice A16 t2.length c17) := (blk_cell BK20.out 1).trans rfl; have hfzb18_1 := blk_frozen BK20.out 1; have hczb18_2 : w63.cell? ⟨gb19, 2, none⟩ = some (.bool t3) := (blk_cell BK20.out 2).trans rfl; have hfzb18_2 := blk_frozen BK20.out 2
  have hczb43_0 : w63.cell? ⟨gb44, 0, none⟩ = some (.slice A38 t26.length c39) := (blk_cell BK45.out 0).trans rfl; have hfzb43_0 := blk_frozen BK45.out 0; have hczb43_1 : w63.cell? ⟨gb44, 1, none⟩ = some (.slice A41 t27.length c42) := (blk_cell BK45.out 1).trans rfl; have hfzb43_1 := blk_frozen BK45.out 1; have hczb43_2 : w63.cell? ⟨gb44, 2, none⟩ = some (.bool t28) := (blk_cell BK45.out 2).trans rfl; have hfzb43_2 := blk_frozen BK45.out 2
  clear hb
  go_wp2_with fail
  refine (impl_NewMarker.calls k a0 t65 t66 t67 t4 _ H69.out).mono ?_
  rintro e_ w70 ⟨v71, v72, rfl, f73, f74, hb⟩
  have hq_ : Below w63.heap.size w63 w70 := ⟨hb.os, hb.tape, hb.output, hb.size, hb.block⟩
  have HZ75 := Aside0.mk (show w63.heap.size ≤ w70.heap.size from hq_.size)
  have hn_ := Aside0.mk (below_then HB.out HB.out.size hq_)
  clear HB
  have HB := hn_
  clear hn_
  have hn_ := Aside0.mk (Kd.S_below F12.out hq_)
  clear F12
  have F12 := hn_
  clear hn_
  have hn_ := Aside0.mk (Kd.R_below F15.out hq_)
  clear F15
  have F15 := hn_
  clear hn_
  have hn_ := Aside0.mk (Kd.S_below F37.out hq_)
  clear F37
  have F37 := hn_
  clear hn_
  have hn_ := Aside0.mk (Kd.R_below F40.out hq_)
  clear F40
  have F40 := hn_
  clear hn_
  have hn_ := Aside0.mk (blk_below BK20.out hq_)
  clear hczb18_0 hfzb18_0; clear hczb18_1 hfzb18_1; clear hczb18_2 hfzb18_2
  clear BK20
  have BK20 := hn_
  clear hn_
  have hn_ := Aside0.mk (blk_below BK45.out hq_)
  clear hczb43_0 hfzb43_0; clear hczb43_1 hfzb43_1; clear hczb43_2 hfzb43_2
  clear BK45
  have BK45 := hn_
  clear hn_
  clear hq_
  have hczb18_0 : w70.cell? ⟨gb19, 0, none⟩ = some (.slice A13 t1.length c14) := (blk_cell BK20.out 0).trans rfl; have hfzb18_0 := blk_frozen BK20.out 0; have hczb18_1 : w70.cell? ⟨gb19, 1, none⟩ = some (.slice A16 t2.length c17) := (blk_cell BK20.out 1).trans rfl; have hfzb18_1 := blk_frozen BK20.out 1; have hczb18_2 : w70.cell? ⟨gb19, 2, none⟩ = some (.bool t3) := (blk_cell BK20.out 2).trans rfl; have hfzb18_2 := blk_frozen BK20.out 2
  have hczb43_0 : w70.cell? ⟨gb44, 0, none⟩ = some (.slice A38 t26.length c39) := (blk_cell BK45.out 0).trans rfl; have hfzb43_0 := blk_frozen BK45.out 0; have hczb43_1 : w70.cell? ⟨gb44, 1, none⟩ = some (.slice A41 t27.length c42) := (blk_cell BK45.out 1).trans rfl; have hfzb43_1 := blk_frozen BK45.out 1; have hczb43_2 : w70.cell? ⟨gb44, 2, none⟩ = some (.bool t28) := (blk_cell BK45.out 2).trans rfl; have hfzb43_2 := blk_frozen BK45.out 2
  clear hb
  have F76 := Aside0.mk (Lk.newS (b := w63.heap.size) (base := w.heap.size) (Sep := fun k_ => some k_ ≠ (v72 : Value).ownBlock) f73 (by have := HZ11.out; have := HZ23.out; have := HZ25.out; have := HZ36.out; have := HZ48.out; have := HZ50.out; have := HZ54.out; have := HZ57.out; have := HZ64.out; have := HZ75.out; omega) (fun k_ hk_ => hk_))
  clear f73
  have F79 := Aside0.mk (Lk.newR (b := w63.heap.size) (base := w.heap.size) (Sep := fun k_ => True) rfl f74 (by have := HZ11.out; have := HZ23.out; have := HZ25.out; have := HZ36.out; have := HZ48.out; have := HZ50.out; have := HZ54.out; have := HZ57.out; have := HZ64.out; have := HZ75.out; omega) (fun k_ hk_ => hk_))
  clear f74
  obtain ⟨A77, c78, e_⟩ := Kd.S_slice F76.out
  subst e_
  obtain ⟨A80, c81, e_⟩ := Kd.R_slice F79.out
  subst e_
  go_wp2_with (first | ((with_reducible refine gate_dst (N := 9) rfl ?_); refine box_event ?hg (N := 9) ?hd (cs := #[.slice none 0 0, .slice none 0 0, .bool false]) (t := 25) ?hr ?_; (case hd => rfl); (case hg => rfl); (case hr => first | (go_simp; done) | (go_simp; rfl)); intro gb83 hg_ w86 hx_ hb; have hg2_ : gb83 = w70.heap.size := hg_; have hq_ : Below w70.heap.size w70 w86 := ⟨hb.os, hb.tape, hb.output, hb.size, hb.block⟩; have HZ87 := Aside0.mk (show w70.heap.size ≤ w86.heap.size from hq_.size); have hn_ := Aside0.mk (below_then HB.out HB.out.size hq_); clear HB; have HB := hn_; clear hn_; have hn_ := Aside0.mk (Kd.S_below F12.out hq_); clear F12; have F12 := hn_; clear hn_; have hn_ := Aside0.mk (Kd.R_below F15.out hq_); clear F15; have F15 := hn_; clear hn_; have hn_ := Aside0.mk (Kd.S_below F37.out hq_); clear F37; have F37 := hn_; clear hn_; have hn_ := Aside0.mk (Kd.R_below F40.out hq_); clear F40; have F40 := hn_; clear hn_; have hn_ := Aside0.mk (Kd.S_below F76.out hq_); clear F76; have F76 := hn_; clear hn_; have hn_ := Aside0.mk (Kd.R_below F79.out hq_); clear F79; have F79 := hn_; clear hn_; have hn_ := Aside0.mk (blk_below BK20.out hq_); clear hczb18_0 hfzb18_0; clear hczb18_1 hfzb18_1; clear hczb18_2 hfzb18_2; clear BK20; have BK20 := hn_; clear hn_; have hn_ := Aside0.mk (blk_below BK45.out hq_); clear hczb43_0 hfzb43_0; clear hczb43_1 hfzb43_1; clear hczb43_2 hfzb43_2; clear BK45; have BK45 := hn_; clear hn_; clear hq_; have hczb18_0 : w86.cell? ⟨gb19, 0, none⟩ = some (.slice A13 t1.length c14) := (blk_cell BK20.out 0).trans rfl; have hfzb18_0 := blk_frozen BK20.out 0; have hczb18_1 : w86.cell? ⟨gb19, 1, none⟩ = some (.slice A16 t2.length c17) := (blk_cell BK20.out 1).trans rfl; have hfzb18_1 := blk_frozen BK20.out 1; have hczb18_2 : w86.cell? ⟨gb19, 2, none⟩ = some (.bool t3) := (blk_cell BK20.out 2).trans rfl; have hfzb18_2 := blk_frozen BK20.out 2; have hczb43_0 : w86.cell? ⟨gb44, 0, none⟩ = some (.slice A38 t26.length c39) := (blk_cell BK45.out 0).trans rfl; have hfzb43_0 := blk_frozen BK45.out 0; have hczb43_1 : w86.cell? ⟨gb44, 1, none⟩ = some (.slice A41 t27.length c42) := (blk_cell BK45.out 1).trans rfl; have hfzb43_1 := blk_frozen BK45.out 1; have hczb43_2 : w86.cell? ⟨gb44, 2, none⟩ = some (.bool t28) := (blk_cell BK45.out 2).trans rfl; have hfzb43_2 := blk_frozen BK45.out 2; have BK84 := Aside0.mk hx_; have GQ85 := Aside0.mk (show w70.heap.size ≤ gb83 ∧ gb83 < w86.heap.size from ⟨Nat.le_of_eq hg2_.symm, blk_lt hx_⟩); clear hb hg_ hg2_ hx_; have hczb82_0 : w86.cell? ⟨gb83, 0, none⟩ = some (.slice none 0 0) := (blk_cell BK84.out 0).trans rfl; have hfzb82_0 := blk_frozen BK84.out 0; have hczb82_1 : w86.cell? ⟨gb83, 1, none⟩ = some (.slice none 0 0) := (blk_cell BK84.out 1).trans rfl; have hfzb82_1 := blk_frozen BK84.out 1; have hczb82_2 : w86.cell? ⟨gb83, 2, none⟩ = some (.bool false) := (blk_cell BK84.out 2).trans rfl; have hfzb82_2 := blk_frozen BK84.out 2) | ((with_reducible refine gate_store (t := 25) (p := 9) rfl ?_); refine store_event (t := 25) (p := 9) (v := ?vo_w88) (w1 := (((w86.setCell ⟨gb83, 0, none⟩ (.slice A77 t65.length c78)).setCell ⟨gb83, 1, none⟩ (.slice A80 t66.length c81)).setCell ⟨gb83, 2, none⟩ (.bool t67))) ?hg ?ho ?hn ?hr ?_; (case ho => rfl); (case hg => rfl); (case hn => rfl); (case hr => first | (go_simp; done) | (go_simp; rfl)); intro w88 hw_; have hx_ : w88.heap[gb83]? = some (.cells #[(.slice A77 t65.length c78), (.slice A80 t66.length c81), (.bool t67)] 25 (0, 0)) := (by rw [hw_]; exact Lk.filled (us := [(.slice A77 t65.length c78), (.slice A80 t66.length c81), (.bool t67)]) BK84.out rfl); have hk2_ : Kept w86 w88 (fun k_ => k_ = gb83) := (by rw [hw_]; exact Lk.fill_kept [(.slice A77 t65.length c78), (.slice A80 t66.length c81), (.bool t67)] 0 w86); have hB_ := Aside0.mk (show Below w.heap.size w w88 by rw [hw_]; exact Lk.fill_below [(.slice A77 t65.length c78), (.slice A80 t66.length c81), (.bool t67)] 0 w w86 HB.out (by have := HZ11.out; have := HZ23.out; have := HZ25.out; have := HZ36.out; have := HZ48.out; have := HZ50.out; have := HZ54.out; have := HZ57.out; have := HZ64.out; have := HZ75.out; have := HZ87.out; have := GQ85.out; omega)); clear HB; have HB := hB_; clear hB_; have HZ89 := Aside0.mk (show w86.heap.size ≤ w88.heap.size from hk2_.1); have hn_ := Aside0.mk (Kd.S_kept F12.out hk2_ (fun k_ h1_ h2_ => by have := HZ11.out; have := HZ23.out; have := HZ25.out; have := HZ36.out; have := HZ48.out; have := HZ50.out; have := HZ54.out; have := HZ57.out; have := HZ64.out; have := HZ75.out; have := HZ87.out; have := GQ85.out; have h3_ := h1_.1; omega)); clear F12; have F12 := hn_; clear hn_; have hn_ := Aside0.mk (Kd.R_kept F15.out hk2_ (fun k_ h1_ h2_ => by have := HZ11.out; have := HZ23.out; have := HZ25.out; have := HZ36.out; have := HZ48.out; have := HZ50.out; have := HZ54.out; have := HZ57.out; have := HZ64.out; have := HZ75.out; have := HZ87.out; have := GQ85.out; have h3_ := h1_.1; omega)); clear F15; have F15 := hn_; clear hn_; have hn_ := Aside0.mk (Kd.S_kept F37.out hk2_ (fun k_ h1_ h2_ => by have := HZ11.out; have := HZ23.out; have := HZ25.out; have := HZ36.out; have := HZ48.out; have := HZ50.out; have := HZ54.out; have := HZ57.out; have := HZ64.out; have := HZ75.out; have := HZ87.out; have := GQ85.out; have h3_ := h1_.1; omega)); clear F37; have F37 := hn_; clear hn_; have hn_ := Aside0.mk (Kd.R_kept F40.out hk2_ (fun k_ h1_ h2_ => by have := HZ11.out; have := HZ23.out; have := HZ25.out; have := HZ36.out; have := HZ48.out; have := HZ50.out; have := HZ54.out; have := HZ57.out; have := HZ64.out; have := HZ75.out; have := HZ87.out; have := GQ85.out; have h3_ := h1_.1; omega)); clear F40; have F40 := hn_; clear hn_; have hn_ := Aside0.mk (Kd.S_kept F76.out hk2_ (fun k_ h1_ h2_ => by have := HZ11.out; have := HZ23.out; have := HZ25.out; have := HZ36.out; have := HZ48.out; have := HZ50.out; have := HZ54.out; have := HZ57.out; have := HZ64.out; have := HZ75.out; have := HZ87.out; have := GQ85.out; have h3_ := h1_.1; omega)); clear F76; have F76 := hn_; clear hn_; have hn_ := Aside0.mk (Kd.R_kept F79.out hk2_ (fun k_ h1_ h2_ => by have := HZ11.out; have := HZ23.out; have := HZ25.out; have := HZ36.out; have := HZ48.out; have := HZ50.out; have := HZ54.out; have := HZ57.out; have := HZ64.out; have := HZ75.out; have := HZ87.out; have := GQ85.out; have h3_ := h1_.1; omega)); clear F79; have F79 := hn_; clear hn_; clear hczb18_0 hfzb18_0; clear hczb18_1 hfzb18_1; clear hczb18_2 hfzb18_2; have hn_ := Aside0.mk (blk_kept BK20.out hk2_ (fun h_ => by have := HZ11.out; have := HZ23.out; have := HZ25.out; have := HZ36.out; have := HZ48.out; have := HZ50.out; have := HZ54.out; have := HZ57.out; have := HZ64.out; have := HZ75.out; have := HZ87.out; have := GQ85.out; have := GQ21.out; omega)); clear BK20; have BK20 := hn_; clear hn_; clear hczb43_0 hfzb43_0; clear hczb43_1 hfzb43_1; clear hczb43_2 hfzb43_2; have hn_ := Aside0.mk (blk_kept BK45.out hk2_ (fun h_ => by have := HZ11.out; have := HZ23.out; have := HZ25.out; have := HZ36.out; have := HZ48.out; have := HZ50.out; have := HZ54.out; have := HZ57.out; have := HZ64.out; have := HZ75.out; have := HZ87.out; have := GQ85.out; have := GQ46.out; omega)); clear BK45; have BK45 := hn_; clear hn_; clear hczb82_0 hfzb82_0; clear hczb82_1 hfzb82_1; clear hczb82_2 hfzb82_2; clear BK84; have BK84 := Aside0.mk hx_; clear hk2_ hx_ hw_; have hczb18_0 : w88.cell? ⟨gb19, 0, none⟩ = some (.slice A13 t1.length c14) := (blk_cell BK20.out 0).trans rfl; have hfzb18_0 := blk_frozen BK20.out 0; have hczb18_1 : w88.cell? ⟨gb19, 1, none⟩ = some (.slice A16 t2.length c17) := (blk_cell BK20.out 1).trans rfl; have hfzb18_1 := blk_frozen BK20.out 1; have hczb18_2 : w88.cell? ⟨gb19, 2, none⟩ = some (.bool t3) := (blk_cell BK20.out 2).trans rfl; have hfzb18_2 := blk_frozen BK20.out 2; have hczb43_0 : w88.cell? ⟨gb44, 0, none⟩ = some (.slice A38 t26.length c39) := (blk_cell BK45.out 0).trans rfl; have hfzb43_0 := blk_frozen BK45.out 0; have hczb43_1 : w88.cell? ⟨gb44, 1, none⟩ = some (.slice A41 t27.length c42) := (blk_cell BK45.out 1).trans rfl; have hfzb43_1 := blk_frozen BK45.out 1; have hczb43_2 : w88.cell? ⟨gb44, 2, none⟩ = some (.bool t28) := (blk_cell BK45.out 2).trans rfl; have hfzb43_2 := blk_frozen BK45.out 2; have hczb82_0 : w88.cell? ⟨gb83, 0, none⟩ = some (.slice A77 t65.length c78) := (blk_cell BK84.out 0).trans rfl; have hfzb82_0 := blk_frozen BK84.out 0; have hczb82_1 : w88.cell? ⟨gb83, 1, none⟩ = some (.slice A80 t66.length c81) := (blk_cell BK84.out 1).trans rfl; have hfzb82_1 := blk_frozen BK84.out 1; have hczb82_2 : w88.cell? ⟨gb83, 2, none⟩ = some (.bool t67) := (blk_cell BK84.out 2).trans rfl; have hfzb82_2 := blk_frozen BK84.out 2))
  refine (laws_eqMarker.calls k _ _ t65 _ _ t66 t67 _ _ t1 _ _ t2 t3 true _ (Lk.Sr F76.out).2 (Lk.Sr F76.out).1 (Lk.Rr F79.out).2 (Lk.Rr F79.out).1 (Lk.Sr F12.out).2 (Lk.Sr F12.out).1 (Lk.Rr F15.out).2 (Lk.Rr F15.out).1 H91.out).mono ?_
  rintro e_ w92 ⟨rfl, hb⟩
  have hq_ : Below w88.heap.size w88 w92 := ⟨hb.os, hb.tape, hb.output, hb.size, hb.block⟩
  have HZ93 := Aside0.mk (show w88.heap.size ≤ w92.heap.size from hq_.size)
  have hn_ := Aside0.mk (below_then HB.out HB.out.size hq_)
  clear HB
  have HB := hn_
  clear hn_
  have hn_ := Aside0.mk (Kd.S_below F12.out hq_)
  clear F12
  have F12 := hn_
  clear hn_
  have hn_ := Aside0.mk (Kd.R_below F15.out hq_)
  clear F15
  have F15 := hn_
  clear hn_
  have hn_ := Aside0.mk (Kd.S_below F37.out hq_)
  clear F37
  have F37 := hn_
  clear hn_
  have hn_ := Aside0.mk (Kd.R_below F40.out hq_)
  clear F40
  have F40 := hn_
  clear hn_
  have hn_ := Aside0.mk (Kd.S_below F76.out hq_)
  clear F76
  have F76 := hn_
  clear hn_
  have hn_ := Aside0.mk (Kd.R_below F79.out hq_)
  clear F79
  have F79 := hn_
  clear hn_
  have hn_ := Aside0.mk (blk_below BK20.out hq_)
  clear hczb18_0 hfzb18_0; clear hczb18_1 hfzb18_1; clear hczb18_2 hfzb18_2
  clear BK20
  have BK20 := hn_
  clear hn_
  have hn_ := Aside0.mk (blk_below BK45.out hq_)
  clear hczb43_0 hfzb43_0; clear hczb43_1 hfzb43_1; clear hczb43_2 hfzb43_2
  clear BK45
  have BK45 := hn_
  clear hn_
  have hn_ := Aside0.mk (blk_below BK84.out hq_)
  clear hczb82_0 hfzb82_0; clear hczb82_1 hfzb82_1; clear hczb82_2 hfzb82_2
  clear BK84
  have BK84 := hn_
  clear hn_
  clear hq_
  have hczb18_0 : w92.cell? ⟨gb19, 0, none⟩ = some (.slice A13 t1.length c14) := (blk_cell BK20.out 0).trans rfl; have hfzb18_0 := blk_frozen BK20.out 0; have hczb18_1 : w92.cell? ⟨gb19, 1, none⟩ = some (.slice A16 t2.length c17) := (blk_cell BK20.out 1).trans rfl; have hfzb18_1 := blk_frozen BK20.out 1; have hczb18_2 : w92.cell? ⟨gb19, 2, none⟩ = some (.bool t3) := (blk_cell BK20.out 2).trans rfl; have hfzb18_2 := blk_frozen BK20.out 2
  have hczb43_0 : w92.cell? ⟨gb44, 0, none⟩ = some (.slice A38 t26.length c39) := (blk_cell BK45.out 0).trans rfl; have hfzb43_0 := blk_frozen BK45.out 0; have hczb43_1 : w92.cell? ⟨gb44, 1, none⟩ = some (.slice A41 t27.length c42) := (blk_cell BK45.out 1).trans rfl; have hfzb43_1 := blk_frozen BK45.out 1; have hczb43_2 : w92.cell? ⟨gb44, 2, none⟩ = some (.bool t28) := (blk_cell BK45.out 2).trans rfl; have hfzb43_2 := blk_frozen BK45.out 2
  have hczb82_0 : w92.cell? ⟨gb83, 0, none⟩ = some (.slice A77 t65.length c78) := (blk_cell BK84.out 0).trans rfl; have hfzb82_0 := blk_frozen BK84.out 0; have hczb82_1 : w92.cell? ⟨gb83, 1, none⟩ = some (.slice A80 t66.length c81) := (blk_cell BK84.out 1).trans rfl; have hfzb82_1 := blk_frozen BK84.out 1; have hczb82_2 : w92.cell? ⟨gb83, 2, none⟩ = some (.bool t67) := (blk_cell BK84.out 2).trans rfl; have hfzb82_2 := blk_frozen BK84.out 2
  clear hb
  go_wp2_with fail
  have hc_ := laws_heldMarker.calls k _ _ (markCellS_mk (1) t26) _ _ (Kit.from_ (1 + (markCellS_cnt t26 : Nat)) t27.length) t28 1 (1 + (markCellS_cnt t26 : Nat) + (t27.length : Nat) : Int) _ (Lk.Sr F37.out).2 (Lk.Sr F37.out).1 (Lk.Rr F40.out).2 (Lk.Rr F40.out).1 H95.out
  simp only [← HL58.out, ← HL59.out] at hc_
  refine hc_.mono ?_
  clear hc_
  rintro e_ w96 ⟨rfl, hb⟩
  have hq_ : Below w92.heap.size w92 w96 := ⟨hb.os, hb.tape, hb.output, hb.size, hb.block⟩
  have HZ97 := Aside0.mk (show w92.heap.size ≤ w96.heap.size from hq_.size)
  have hn_ := Aside0.mk (below_then HB.out HB.out.size hq_)
  clear HB
  have HB := hn_
  clear hn_
  have hn_ := Aside0.mk (Kd.S_below F12.out hq_)
  clear F12
  have F12 := hn_
  clear hn_
  have hn_ := Aside0.mk (Kd.R_below F15.out hq_)
  clear F15
  have F15 := hn_
  clear hn_
  have hn_ := Aside0.mk (Kd.S_below F37.out hq_)
  clear F37
  have F37 := hn_
  clear hn_
  have hn_ := Aside0.mk (Kd.R_below F40.out hq_)
  clear F40
  have F40 := hn_
  clear hn_
  have hn_ := Aside0.mk (Kd.S_below F76.out hq_)
  clear F76
  have F76 := hn_
  clear hn_
  have hn_ := Aside0.mk (Kd.R_below F79.out hq_)
  clear F79
  have F79 := hn_
  clear hn_
  have hn_ := Aside0.mk (blk_below BK20.out hq_)
  clear hczb18_0 hfzb18_0; clear hczb18_1 hfzb18_1; clear hczb18_2 hfzb18_2
  clear BK20
  have BK20 := hn_
  clear hn_
  have hn_ := Aside0.mk (blk_below BK45.out hq_)
  clear hczb43_0 hfzb43_0; clear hczb43_1 hfzb43_1; clear hczb43_2 hfzb43_2
  clear BK45
  have BK45 := hn_
  clear hn_
  have hn_ := Aside0.mk (blk_below BK84.out hq_)
  clear hczb82_0 hfzb82_0; clear hczb82_1 hfzb82_1; clear hczb82_2 hfzb82_2
  clear BK84
  have BK84 := hn_
  clear hn_
  clear hq_
  have hczb18_0 : w96.cell? ⟨gb19, 0, none⟩ = some (.slice A13 t1.length c14) := (blk_cell BK20.out 0).trans rfl; have hfzb18_0 := blk_frozen BK20.out 0; have hczb18_1 : w96.cell? ⟨gb19, 1, none⟩ = some (.slice A16 t2.length c17) := (blk_cell BK20.out 1).trans rfl; have hfzb18_1 := blk_frozen BK20.out 1; have hczb18_2 : w96.cell? ⟨gb19, 2, none⟩ = some (.bool t3) := (blk_cell BK20.out 2).trans rfl; have hfzb18_2 := blk_frozen BK20.out 2
  have hczb43_0 : w96.cell? ⟨gb44, 0, none⟩ = some (.slice A38 t26.length c39) := (blk_cell BK45.out 0).trans rfl; have hfzb43_0 := blk_frozen BK45.out 0; have hczb43_1 : w96.cell? ⟨gb44, 1, none⟩ = some (.slice A41 t27.length c42) := (blk_cell BK45.out 1).trans rfl; have hfzb43_1 := blk_frozen BK45.out 1; have hczb43_2 : w96.cell? ⟨gb44, 2, none⟩ = some (.bool t28) := (blk_cell BK45.out 2).trans rfl; have hfzb43_2 := blk_frozen BK45.out 2
  have hczb82_0 : w96.cell? ⟨gb83, 0, none⟩ = some (.slice A77 t65.length c78) := (blk_cell BK84.out 0).trans rfl; have hfzb82_0 := blk_frozen BK84.out 0; have hczb82_1 : w96.cell? ⟨gb83, 1, none⟩ = some (.slice A80 t66.length c81) := (blk_cell BK84.out 1).trans rfl; have hfzb82_1 := blk_frozen BK84.out 1; have hczb82_2 : w96.cell? ⟨gb83, 2, none⟩ = some (.bool t67) := (blk_cell BK84.out 2).trans rfl; have hfzb82_2 := blk_frozen BK84.out 2
  clear hb
  go_wp2_with fail
  go_ret
  exact ⟨rfl, HB.out⟩
end Go.Proofs.Ytmgnnegmohmbhaa.Q
