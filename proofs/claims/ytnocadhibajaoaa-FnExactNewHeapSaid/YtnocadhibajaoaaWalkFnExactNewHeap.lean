/- The law FnExactNewHeap of this seat: the walk along its one way. Conditions: none. -/
import Derived.Test.YtnocadhibajaoaaQx0
import Derived.Test.YtnocadhibajaoaaQx1
import Derived.Test.YtnocadhibajaoaaQx2
import Derived.Test.YtnocadhibajaoaaQx3
import Derived.Test.YtnocadhibajaoaaGoodFnExactNewHeap
import Derived.Test.YtnocadhibajaoaaLk
namespace Go.Proofs.Ytnocadhibajaoaa.Q
open Go.RowKit Go.Proofs.YtnocadhibajaoaaW.PrintWords Go.Proofs.YtnocadhibajaoaaW.PrintLast Go.Proofs.YtnocadhibajaoaaW.PrintMore
set_option linter.unusedVariables false
set_option linter.unusedSimpArgs false
open Lk in
set_option maxHeartbeats 8000000 in
set_option maxRecDepth 100000 in
theorem laws_FnExactNewHeap.calls (k : Nat)  (r : Bool) (w : World)  (h : laws_FnExactNewHeap.f k  = some r) :
    Calls Try.prog 3 #[] w fun e w' => e = .returned (.bool r) ∧ Below w.heap.size w w' := by
  unfold laws_FnExactNewHeap.f at h
  split at h
  case isFalse => cases h
  rename_i hg
  obtain rfl := Option.some.inj h
  clear h
  have HB := Aside0.mk (Below.refl w.heap.size w)
  unfold laws_FnExactNewHeap.good at hg
  obtain ⟨t1, t2, t3, t4, H50, t31, t32, t33, t34, H350, H620, H660, H730, t76, t77, t78, t79, H800, H1070, H1110, hg⟩ := hg
  have H5 := Aside0.mk H50
  clear H50
  have H35 := Aside0.mk H350
  clear H350
  have H62 := Aside0.mk H620
  clear H620
  have H66 := Aside0.mk H660
  clear H660
  have H73 := Aside0.mk H730
  clear H730
  have H80 := Aside0.mk H800
  clear H800
  have H107 := Aside0.mk H1070
  clear H1070
  have H111 := Aside0.mk H1110
  clear H1110
  clear hg
  go_enter Try.func3, Try.ntmps3
  go_wp2_with fail
  refine (spec_NewHeap.calls k t1 t2 t3 t4 _ H5.out).mono ?_
  rintro e_ w6 ⟨v7, v8, v9, rfl, f10, f11, f12, hb⟩
  have hq_ : Below w.heap.size w w6 := ⟨hb.os, hb.tape, hb.output, hb.size, hb.block⟩
  have HZ13 := Aside0.mk (show w.heap.size ≤ w6.heap.size from hq_.size)
  have hn_ := Aside0.mk (below_then HB.out HB.out.size hq_)
  clear HB
  have HB := hn_
  clear hn_
  clear hq_
  clear hb
  have F14 := Aside0.mk (Lk.newN (b := w.heap.size) (base := w.heap.size) (Sep := fun k_ => some k_ ≠ (v8 : Value).ownBlock ∧ some k_ ≠ (v9 : Value).ownBlock) f10 (by have := HZ13.out; omega) (fun k_ hk_ => ⟨hk_.1, hk_.2⟩))
  clear f10
  have F17 := Aside0.mk (Lk.newR (b := w.heap.size) (base := w.heap.size) (Sep := fun k_ => some k_ ≠ (v9 : Value).ownBlock) rfl f11 (by have := HZ13.out; omega) (fun k_ hk_ => hk_.2))
  clear f11
  have F20 := Aside0.mk (Lk.newR (b := w.heap.size) (base := w.heap.size) (Sep := fun k_ => some k_ ≠ (v8 : Value).ownBlock) rfl f12 (by have := HZ13.out; omega) (fun k_ hk_ => hk_.2))
  clear f12
  obtain ⟨A15, c16, e_⟩ := Kd.N_slice F14.out
  subst e_
  obtain ⟨A18, c19, e_⟩ := Kd.R_slice F17.out
  subst e_
  obtain ⟨A21, c22, e_⟩ := Kd.R_slice F20.out
  subst e_
  go_wp2_with (first | ((with_reducible refine gate_dst (N := 1) rfl ?_); refine box_event ?hg (N := 1) ?hd (cs := #[.slice none 0 0, .slice none 0 0, .slice none 0 0, .int .i64 0]) (t := 25) ?hr ?_; (case hd => rfl); (case hg => rfl); (case hr => first | (go_simp; done) | (go_simp; rfl)); intro gb24 hg_ w27 hx_ hb; have hg2_ : gb24 = w6.heap.size := hg_; have hq_ : Below w6.heap.size w6 w27 := ⟨hb.os, hb.tape, hb.output, hb.size, hb.block⟩; have HZ28 := Aside0.mk (show w6.heap.size ≤ w27.heap.size from hq_.size); have hn_ := Aside0.mk (below_then HB.out HB.out.size hq_); clear HB; have HB := hn_; clear hn_; have hn_ := Aside0.mk (Kd.N_below F14.out hq_); clear F14; have F14 := hn_; clear hn_; have hn_ := Aside0.mk (Kd.R_below F17.out hq_); clear F17; have F17 := hn_; clear hn_; have hn_ := Aside0.mk (Kd.R_below F20.out hq_); clear F20; have F20 := hn_; clear hn_; clear hq_; have BK25 := Aside0.mk hx_; have GQ26 := Aside0.mk (show w6.heap.size ≤ gb24 ∧ gb24 < w27.heap.size from ⟨Nat.le_of_eq hg2_.symm, blk_lt hx_⟩); clear hb hg_ hg2_ hx_; have hczb23_0 : w27.cell? ⟨gb24, 0, none⟩ = some (.slice none 0 0) := (blk_cell BK25.out 0).trans rfl; have hfzb23_0 := blk_frozen BK25.out 0; have hczb23_1 : w27.cell? ⟨gb24, 1, none⟩ = some (.slice none 0 0) := (blk_cell BK25.out 1).trans rfl; have hfzb23_1 := blk_frozen BK25.out 1; have hczb23_2 : w27.cell? ⟨gb24, 2, none⟩ = some (.slice none 0 0) := (blk_cell BK25.out 2).trans rfl; have hfzb23_2 := blk_frozen BK25.out 2; have hczb23_3 : w27.cell? ⟨gb24, 3, none⟩ = some (.int .i64 0) := (blk_cell BK25.out 3).trans rfl; have hfzb23_3 := blk_frozen BK25.out 3) | ((with_reducible refine gate_store (t := 25) (p := 1) rfl ?_); refine store_event (t := 25) (p := 1) (v := ?vo_w29) (w1 := ((((w27.setCell ⟨gb24, 0, none⟩ (.slice A15 t1.length c16)).setCell ⟨gb24, 1, none⟩ (.slice A18 t2.length c19)).setCell ⟨gb24, 2, none⟩ (.slice A21 t3.length c22)).setCell ⟨gb24, 3, none⟩ (.int .i64 t4))) ?hg ?ho ?hn ?hr ?_; (case ho => rfl); (case hg => rfl); (case hn => rfl); (case hr => first | (go_simp; done) | (go_simp; rfl)); intro w29 hw_; have hx_ : w29.heap[gb24]? = some (.cells #[(.slice A15 t1.length c16), (.slice A18 t2.length c19), (.slice A21 t3.length c22), (.int .i64 t4)] 25 (0, 0)) := (by rw [hw_]; exact Lk.filled (us := [(.slice A15 t1.length c16), (.slice A18 t2.length c19), (.slice A21 t3.length c22), (.int .i64 t4)]) BK25.out rfl); have hk2_ : Kept w27 w29 (fun k_ => k_ = gb24) := (by rw [hw_]; exact Lk.fill_kept [(.slice A15 t1.length c16), (.slice A18 t2.length c19), (.slice A21 t3.length c22), (.int .i64 t4)] 0 w27); have hB_ := Aside0.mk (show Below w.heap.size w w29 by rw [hw_]; exact Lk.fill_below [(.slice A15 t1.length c16), (.slice A18 t2.length c19), (.slice A21 t3.length c22), (.int .i64 t4)] 0 w w27 HB.out (by have := HZ13.out; have := HZ28.out; have := GQ26.out; omega)); clear HB; have HB := hB_; clear hB_; have HZ30 := Aside0.mk (show w27.heap.size ≤ w29.heap.size from hk2_.1); have hn_ := Aside0.mk (Kd.N_kept F14.out hk2_ (fun k_ h1_ h2_ => by have := HZ13.out; have := HZ28.out; have := GQ26.out; have h3_ := h1_.1; omega)); clear F14; have F14 := hn_; clear hn_; have hn_ := Aside0.mk (Kd.R_kept F17.out hk2_ (fun k_ h1_ h2_ => by have := HZ13.out; have := HZ28.out; have := GQ26.out; have h3_ := h1_.1; omega)); clear F17; have F17 := hn_; clear hn_; have hn_ := Aside0.mk (Kd.R_kept F20.out hk2_ (fun k_ h1_ h2_ => by have := HZ13.out; have := HZ28.out; have := GQ26.out; have h3_ := h1_.1; omega)); clear F20; have F20 := hn_; clear hn_; clear hczb23_0 hfzb23_0; clear hczb23_1 hfzb23_1; clear hczb23_2 hfzb23_2; clear hczb23_3 hfzb23_3; clear BK25; have BK25 := Aside0.mk hx_; clear hk2_ hx_ hw_; have hczb23_0 : w29.cell? ⟨gb24, 0, none⟩ = some (.slice A15 t1.length c16) := (blk_cell BK25.out 0).trans rfl; have hfzb23_0 := blk_frozen BK25.out 0; have hczb23_1 : w29.cell? ⟨gb24, 1, none⟩ = some (.slice A18 t2.length c19) := (blk_cell BK25.out 1).trans rfl; have hfzb23_1 := blk_frozen BK25.out 1; have hczb23_2 : w29.cell? ⟨gb24, 2, none⟩ = some (.slice A21 t3.length c22) := (blk_cell BK25.out 2).trans rfl; have hfzb23_2 := blk_frozen BK25.out 2; have hczb23_3 : w29.cell? ⟨gb24, 3, none⟩ = some (.int .i64 t4) := (blk_cell BK25.out 3).trans rfl; have hfzb23_3 := blk_frozen BK25.out 3))
  refine (impl_NewHeap.calls t31 t32 t33 t34 _ H35.out).mono ?_
  rintro e_ w36 ⟨v37, v38, v39, rfl, f40, f41, f42, hb⟩
  have hq_ : Below w29.heap.size w29 w36 := ⟨hb.os, hb.tape, hb.output, hb.size, hb.block⟩
  have HZ43 := Aside0.mk (show w29.heap.size ≤ w36.heap.size from hq_.size)
  have hn_ := Aside0.mk (below_then HB.out HB.out.size hq_)
  clear HB
  have HB := hn_
  clear hn_
  have hn_ := Aside0.mk (Kd.N_below F14.out hq_)
  clear F14
  have F14 := hn_
  clear hn_
  have hn_ := Aside0.mk (Kd.R_below F17.out hq_)
  clear F17
  have F17 := hn_
  clear hn_
  have hn_ := Aside0.mk (Kd.R_below F20.out hq_)
  clear F20
  have F20 := hn_
  clear hn_
  have hn_ := Aside0.mk (blk_below BK25.out hq_)
  clear hczb23_0 hfzb23_0; clear hczb23_1 hfzb23_1; clear hczb23_2 hfzb23_2; clear hczb23_3 hfzb23_3
  clear BK25
  have BK25 := hn_
  clear hn_
  clear hq_
  have hczb23_0 : w36.cell? ⟨gb24, 0, none⟩ = some (.slice A15 t1.length c16) := (blk_cell BK25.out 0).trans rfl; have hfzb23_0 := blk_frozen BK25.out 0; have hczb23_1 : w36.cell? ⟨gb24, 1, none⟩ = some (.slice A18 t2.length c19) := (blk_cell BK25.out 1).trans rfl; have hfzb23_1 := blk_frozen BK25.out 1; have hczb23_2 : w36.cell? ⟨gb24, 2, none⟩ = some (.slice A21 t3.length c22) := (blk_cell BK25.out 2).trans rfl; have hfzb23_2 := blk_frozen BK25.out 2; have hczb23_3 : w36.cell? ⟨gb24, 3, none⟩ = some (.int .i64 t4) := (blk_cell BK25.out 3).trans rfl; have hfzb23_3 := blk_frozen BK25.out 3
  clear hb
  have F44 := Aside0.mk (Lk.newS (b := w29.heap.size) (base := w.heap.size) (Sep := fun k_ => some k_ ≠ (v38 : Value).ownBlock ∧ some k_ ≠ (v39 : Value).ownBlock) f40 (by have := HZ13.out; have := HZ28.out; have := HZ30.out; have := HZ43.out; omega) (fun k_ hk_ => hk_))
  clear f40
  have F47 := Aside0.mk (Lk.newR (b := w29.heap.size) (base := w.heap.size) (Sep := fun k_ => some k_ ≠ (v39 : Value).ownBlock) rfl f41 (by have := HZ13.out; have := HZ28.out; have := HZ30.out; have := HZ43.out; omega) (fun k_ hk_ => hk_))
  clear f41
  have F50 := Aside0.mk (Lk.newR (b := w29.heap.size) (base := w.heap.size) (Sep := fun k_ => some k_ ≠ (v38 : Value).ownBlock) rfl f42 (by have := HZ13.out; have := HZ28.out; have := HZ30.out; have := HZ43.out; omega) (fun k_ hk_ => hk_))
  clear f42
  obtain ⟨A45, c46, e_⟩ := Kd.S_slice F44.out
  subst e_
  obtain ⟨A48, c49, e_⟩ := Kd.R_slice F47.out
  subst e_
  obtain ⟨A51, c52, e_⟩ := Kd.R_slice F50.out
  subst e_
  go_wp2_with (first | ((with_reducible refine gate_dst (N := 2) rfl ?_); refine box_event ?hg (N := 2) ?hd (cs := #[.slice none 0 0, .slice none 0 0, .slice none 0 0, .int .i64 0]) (t := 25) ?hr ?_; (case hd => rfl); (case hg => rfl); (case hr => first | (go_simp; done) | (go_simp; rfl)); intro gb54 hg_ w57 hx_ hb; have hg2_ : gb54 = w36.heap.size := hg_; have hq_ : Below w36.heap.size w36 w57 := ⟨hb.os, hb.tape, hb.output, hb.size, hb.block⟩; have HZ58 := Aside0.mk (show w36.heap.size ≤ w57.heap.size from hq_.size); have hn_ := Aside0.mk (below_then HB.out HB.out.size hq_); clear HB; have HB := hn_; clear hn_; have hn_ := Aside0.mk (Kd.N_below F14.out hq_); clear F14; have F14 := hn_; clear hn_; have hn_ := Aside0.mk (Kd.R_below F17.out hq_); clear F17; have F17 := hn_; clear hn_; have hn_ := Aside0.mk (Kd.R_below F20.out hq_); clear F20; have F20 := hn_; clear hn_; have hn_ := Aside0.mk (Kd.S_below F44.out hq_); clear F44; have F44 := hn_; clear hn_; have hn_ := Aside0.mk (Kd.R_below F47.out hq_); clear F47; have F47 := hn_; clear hn_; have hn_ := Aside0.mk (Kd.R_below F50.out hq_); clear F50; have F50 := hn_; clear hn_; have hn_ := Aside0.mk (blk_below BK25.out hq_); clear hczb23_0 hfzb23_0; clear hczb23_1 hfzb23_1; clear hczb23_2 hfzb23_2; clear hczb23_3 hfzb23_3; clear BK25; have BK25 := hn_; clear hn_; clear hq_; have hczb23_0 : w57.cell? ⟨gb24, 0, none⟩ = some (.slice A15 t1.length c16) := (blk_cell BK25.out 0).trans rfl; have hfzb23_0 := blk_frozen BK25.out 0; have hczb23_1 : w57.cell? ⟨gb24, 1, none⟩ = some (.slice A18 t2.length c19) := (blk_cell BK25.out 1).trans rfl; have hfzb23_1 := blk_frozen BK25.out 1; have hczb23_2 : w57.cell? ⟨gb24, 2, none⟩ = some (.slice A21 t3.length c22) := (blk_cell BK25.out 2).trans rfl; have hfzb23_2 := blk_frozen BK25.out 2; have hczb23_3 : w57.cell? ⟨gb24, 3, none⟩ = some (.int .i64 t4) := (blk_cell BK25.out 3).trans rfl; have hfzb23_3 := blk_frozen BK25.out 3; have BK55 := Aside0.mk hx_; have GQ56 := Aside0.mk (show w36.heap.size ≤ gb54 ∧ gb54 < w57.heap.size from ⟨Nat.le_of_eq hg2_.symm, blk_lt hx_⟩); clear hb hg_ hg2_ hx_; have hczb53_0 : w57.cell? ⟨gb54, 0, none⟩ = some (.slice none 0 0) := (blk_cell BK55.out 0).trans rfl; have hfzb53_0 := blk_frozen BK55.out 0; have hczb53_1 : w57.cell? ⟨gb54, 1, none⟩ = some (.slice none 0 0) := (blk_cell BK55.out 1).trans rfl; have hfzb53_1 := blk_frozen BK55.out 1; have hczb53_2 : w57.cell? ⟨gb54, 2, none⟩ = some (.slice none 0 0) := (blk_cell BK55.out 2).trans rfl; have hfzb53_2 := blk_frozen BK55.out 2; have hczb53_3 : w57.cell? ⟨gb54, 3, none⟩ = some (.int .i64 0) := (blk_cell BK55.out 3).trans rfl; have hfzb53_3 := blk_frozen BK55.out 3) | ((with_reducible refine gate_store (t := 25) (p := 2) rfl ?_); refine store_event (t := 25) (p := 2) (v := ?vo_w59) (w1 := ((((w57.setCell ⟨gb54, 0, none⟩ (.slice A45 t31.length c46)).setCell ⟨gb54, 1, none⟩ (.slice A48 t32.length c49)).setCell ⟨gb54, 2, none⟩ (.slice A51 t33.length c52)).setCell ⟨gb54, 3, none⟩ (.int .i64 t34))) ?hg ?ho ?hn ?hr ?_; (case ho => rfl); (case hg => rfl); (case hn => rfl); (case hr => first | (go_simp; done) | (go_simp; rfl)); intro w59 hw_; have hx_ : w59.heap[gb54]? = some (.cells #[(.slice A45 t31.length c46), (.slice A48 t32.length c49), (.slice A51 t33.length c52), (.int .i64 t34)] 25 (0, 0)) := (by rw [hw_]; exact Lk.filled (us := [(.slice A45 t31.length c46), (.slice A48 t32.length c49), (.slice A51 t33.length c52), (.int .i64 t34)]) BK55.out rfl); have hk2_ : Kept w57 w59 (fun k_ => k_ = gb54) := (by rw [hw_]; exact Lk.fill_kept [(.slice A45 t31.length c46), (.slice A48 t32.length c49), (.slice A51 t33.length c52), (.int .i64 t34)] 0 w57); have hB_ := Aside0.mk (show Below w.heap.size w w59 by rw [hw_]; exact Lk.fill_below [(.slice A45 t31.length c46), (.slice A48 t32.length c49), (.slice A51 t33.length c52), (.int .i64 t34)] 0 w w57 HB.out (by have := HZ13.out; have := HZ28.out; have := HZ30.out; have := HZ43.out; have := HZ58.out; have := GQ56.out; omega)); clear HB; have HB := hB_; clear hB_; have HZ60 := Aside0.mk (show w57.heap.size ≤ w59.heap.size from hk2_.1); have hn_ := Aside0.mk (Kd.N_kept F14.out hk2_ (fun k_ h1_ h2_ => by have := HZ13.out; have := HZ28.out; have := HZ30.out; have := HZ43.out; have := HZ58.out; have := GQ56.out; have h3_ := h1_.1; omega)); clear F14; have F14 := hn_; clear hn_; have hn_ := Aside0.mk (Kd.R_kept F17.out hk2_ (fun k_ h1_ h2_ => by have := HZ13.out; have := HZ28.out; have := HZ30.out; have := HZ43.out; have := HZ58.out; have := GQ56.out; have h3_ := h1_.1; omega)); clear F17; have F17 := hn_; clear hn_; have hn_ := Aside0.mk (Kd.R_kept F20.out hk2_ (fun k_ h1_ h2_ => by have := HZ13.out; have := HZ28.out; have := HZ30.out; have := HZ43.out; have := HZ58.out; have := GQ56.out; have h3_ := h1_.1; omega)); clear F20; have F20 := hn_; clear hn_; have hn_ := Aside0.mk (Kd.S_kept F44.out hk2_ (fun k_ h1_ h2_ => by have := HZ13.out; have := HZ28.out; have := HZ30.out; have := HZ43.out; have := HZ58.out; have := GQ56.out; have h3_ := h1_.1; omega)); clear F44; have F44 := hn_; clear hn_; have hn_ := Aside0.mk (Kd.R_kept F47.out hk2_ (fun k_ h1_ h2_ => by have := HZ13.out; have := HZ28.out; have := HZ30.out; have := HZ43.out; have := HZ58.out; have := GQ56.out; have h3_ := h1_.1; omega)); clear F47; have F47 := hn_; clear hn_; have hn_ := Aside0.mk (Kd.R_kept F50.out hk2_ (fun k_ h1_ h2_ => by have := HZ13.out; have := HZ28.out; have := HZ30.out; have := HZ43.out; have := HZ58.out; have := GQ56.out; have h3_ := h1_.1; omega)); clear F50; have F50 := hn_; clear hn_; clear hczb23_0 hfzb23_0; clear hczb23_1 hfzb23_1; clear hczb23_2 hfzb23_2; clear hczb23_3 hfzb23_3; have hn_ := Aside0.mk (blk_kept BK25.out hk2_ (fun h_ => by have := HZ13.out; have := HZ28.out; have := HZ30.out; have := HZ43.out; have := HZ58.out; have := GQ56.out; have := GQ26.out; omega)); clear BK25; have BK25 := hn_; clear hn_; clear hczb53_0 hfzb53_0; clear hczb53_1 hfzb53_1; clear hczb53_2 hfzb53_2; clear hczb53_3 hfzb53_3; clear BK55; have BK55 := Aside0.mk hx_; clear hk2_ hx_ hw_; have hczb23_0 : w59.cell? ⟨gb24, 0, none⟩ = some (.slice A15 t1.length c16) := (blk_cell BK25.out 0).trans rfl; have hfzb23_0 := blk_frozen BK25.out 0; have hczb23_1 : w59.cell? ⟨gb24, 1, none⟩ = some (.slice A18 t2.length c19) := (blk_cell BK25.out 1).trans rfl; have hfzb23_1 := blk_frozen BK25.out 1; have hczb23_2 : w59.cell? ⟨gb24, 2, none⟩ = some (.slice A21 t3.length c22) := (blk_cell BK25.out 2).trans rfl; have hfzb23_2 := blk_frozen BK25.out 2; have hczb23_3 : w59.cell? ⟨gb24, 3, none⟩ = some (.int .i64 t4) := (blk_cell BK25.out 3).trans rfl; have hfzb23_3 := blk_frozen BK25.out 3; have hczb53_0 : w59.cell? ⟨gb54, 0, none⟩ = some (.slice A45 t31.length c46) := (blk_cell BK55.out 0).trans rfl; have hfzb53_0 := blk_frozen BK55.out 0; have hczb53_1 : w59.cell? ⟨gb54, 1, none⟩ = some (.slice A48 t32.length c49) := (blk_cell BK55.out 1).trans rfl; have hfzb53_1 := blk_frozen BK55.out 1; have hczb53_2 : w59.cell? ⟨gb54, 2, none⟩ = some (.slice A51 t33.length c52) := (blk_cell BK55.out 2).trans rfl; have hfzb53_2 := blk_frozen BK55.out 2; have hczb53_3 : w59.cell? ⟨gb54, 3, none⟩ = some (.int .i64 t34) := (blk_cell BK55.out 3).trans rfl; have hfzb53_3 := blk_frozen BK55.out 3))
  refine (laws_eqHeap.calls k _ _ t31 _ _ t32 _ _ t33 t34 _ _ t1 _ _ t2 _ _ t3 t4 true _ (Lk.Sr F44.out).2 (Lk.Sr F44.out).1 (Lk.Rr F47.out).2 (Lk.Rr F47.out).1 (Lk.Rr F50.out).2 (Lk.Rr F50.out).1 (Lk.Nr F14.out).2 (Lk.Nr F14.out).1 (Lk.Rr F17.out).2 (Lk.Rr F17.out).1 (Lk.Rr F20.out).2 (Lk.Rr F20.out).1 H62.out).mono ?_
  rintro e_ w63 ⟨rfl, hb⟩
  have hq_ : Below w59.heap.size w59 w63 := ⟨hb.os, hb.tape, hb.output, hb.size, hb.block⟩
  have HZ64 := Aside0.mk (show w59.heap.size ≤ w63.heap.size from hq_.size)
  have hn_ := Aside0.mk (below_then HB.out HB.out.size hq_)
  clear HB
  have HB := hn_
  clear hn_
  have hn_ := Aside0.mk (Kd.N_below F14.out hq_)
  clear F14
  have F14 := hn_
  clear hn_
  have hn_ := Aside0.mk (Kd.R_below F17.out hq_)
  clear F17
  have F17 := hn_
  clear hn_
  have hn_ := Aside0.mk (Kd.R_below F20.out hq_)
  clear F20
  have F20 := hn_
  clear hn_
  have hn_ := Aside0.mk (Kd.S_below F44.out hq_)
  clear F44
  have F44 := hn_
  clear hn_
  have hn_ := Aside0.mk (Kd.R_below F47.out hq_)
  clear F47
  have F47 := hn_
  clear hn_
  have hn_ := Aside0.mk (Kd.R_below F50.out hq_)
  clear F50
  have F50 := hn_
  clear hn_
  have hn_ := Aside0.mk (blk_below BK25.out hq_)
  clear hczb23_0 hfzb23_0; clear hczb23_1 hfzb23_1; clear hczb23_2 hfzb23_2; clear hczb23_3 hfzb23_3
  clear BK25
  have BK25 := hn_
  clear hn_
  have hn_ := Aside0.mk (blk_below BK55.out hq_)
  clear hczb53_0 hfzb53_0; clear hczb53_1 hfzb53_1; clear hczb53_2 hfzb53_2; clear hczb53_3 hfzb53_3
  clear BK55
  have BK55 := hn_
  clear hn_
  clear hq_
  have hczb23_0 : w63.cell? ⟨gb24, 0, none⟩ = some (.slice A15 t1.length c16) := (blk_cell BK25.out 0).trans rfl; have hfzb23_0 := blk_frozen BK25.out 0; have hczb23_1 : w63.cell? ⟨gb24, 1, none⟩ = some (.slice A18 t2.length c19) := (blk_cell BK25.out 1).trans rfl; have hfzb23_1 := blk_frozen BK25.out 1; have hczb23_2 : w63.cell? ⟨gb24, 2, none⟩ = some (.slice A21 t3.length c22) := (blk_cell BK25.out 2).trans rfl; have hfzb23_2 := blk_frozen BK25.out 2; have hczb23_3 : w63.cell? ⟨gb24, 3, none⟩ = some (.int .i64 t4) := (blk_cell BK25.out 3).trans rfl; have hfzb23_3 := blk_frozen BK25.out 3
  have hczb53_0 : w63.cell? ⟨gb54, 0, none⟩ = some (.slice A45 t31.length c46) := (blk_cell BK55.out 0).trans rfl; have hfzb53_0 := blk_frozen BK55.out 0; have hczb53_1 : w63.cell? ⟨gb54, 1, none⟩ = some (.slice A48 t32.length c49) := (blk_cell BK55.out 1).trans rfl; have hfzb53_1 := blk_frozen BK55.out 1; have hczb53_2 : w63.cell? ⟨gb54, 2, none⟩ = some (.slice A51 t33.length c52) := (blk_cell BK55.out 2).trans rfl; have hfzb53_2 := blk_frozen BK55.out 2; have hczb53_3 : w63.cell? ⟨gb54, 3, none⟩ = some (.int .i64 t34) := (blk_cell BK55.out 3).trans rfl; have hfzb53_3 := blk_frozen BK55.out 3
  clear hb
  go_wp2_with fail
  have hn_ := H66.out
  refine (laws_markHeap.calls (fun k_ => w29.heap.size ≤ k_ ∧ k_ < w36.heap.size) _ t31 _ t32 _ t33 t34 1 w _ HB.out F44.out F47.out F50.out (by omega) hn_).mono ?_
  rintro e_ w65 ⟨rfl, f0_, f1_, f2_, hb0_, hk_⟩
  have hk2_ : Kept w63 w65 (fun k_ => w29.heap.size ≤ k_ ∧ k_ < w36.heap.size) := Kept.mono hk_ (fun k_ h_ => by first | exact h_ | exact h_.1)
  have HZ67 := Aside0.mk (show w63.heap.size ≤ w65.heap.size from hk2_.1)
  clear HB
  have HB := Aside0.mk hb0_
  have hn_ := Aside0.mk (Kd.N_kept F14.out hk2_ (fun k_ h1_ h2_ => by have := HZ13.out; have := HZ28.out; have := HZ30.out; have := HZ43.out; have := HZ58.out; have := HZ60.out; have := HZ64.out; have h3_ := h1_.1; omega))
  clear F14
  have F14 := hn_
  clear hn_
  have hn_ := Aside0.mk (Kd.R_kept F17.out hk2_ (fun k_ h1_ h2_ => by have := HZ13.out; have := HZ28.out; have := HZ30.out; have := HZ43.out; have := HZ58.out; have := HZ60.out; have := HZ64.out; have h3_ := h1_.1; omega))
  clear F17
  have F17 := hn_
  clear hn_
  have hn_ := Aside0.mk (Kd.R_kept F20.out hk2_ (fun k_ h1_ h2_ => by have := HZ13.out; have := HZ28.out; have := HZ30.out; have := HZ43.out; have := HZ58.out; have := HZ60.out; have := HZ64.out; have h3_ := h1_.1; omega))
  clear F20
  have F20 := hn_
  clear hn_
  have hn_ := Aside0.mk (f0_)
  have F44n := hn_
  clear hn_
  have hn_ := Aside0.mk (f1_)
  have F47n := hn_
  clear hn_
  have hn_ := Aside0.mk (f2_)
  have F50n := hn_
  clear hn_
  clear F44
  have F44 := F44n
  clear F44n
  clear F47
  have F47 := F47n
  clear F47n
  clear F50
  have F50 := F50n
  clear F50n
  have hn_ := Aside0.mk (blk_kept BK25.out hk2_ (fun h_ => by have := HZ13.out; have := HZ28.out; have := HZ30.out; have := HZ43.out; have := HZ58.out; have := HZ60.out; have := HZ64.out; have := GQ26.out; omega))
  clear hczb23_0 hfzb23_0; clear hczb23_1 hfzb23_1; clear hczb23_2 hfzb23_2; clear hczb23_3 hfzb23_3
  clear BK25
  have BK25 := hn_
  clear hn_
  have hn_ := Aside0.mk (blk_kept BK55.out hk2_ (fun h_ => by have := HZ13.out; have := HZ28.out; have := HZ30.out; have := HZ43.out; have := HZ58.out; have := HZ60.out; have := HZ64.out; have := GQ56.out; omega))
  clear hczb53_0 hfzb53_0; clear hczb53_1 hfzb53_1; clear hczb53_2 hfzb53_2; clear hczb53_3 hfzb53_3
  clear BK55
  have BK55 := hn_
  clear hn_
  clear hk2_ hk_ hb0_ f0_ f1_ f2_
  have hczb23_0 : w65.cell? ⟨gb24, 0, none⟩ = some (.slice A15 t1.length c16) := (blk_cell BK25.out 0).trans rfl; have hfzb23_0 := blk_frozen BK25.out 0; have hczb23_1 : w65.cell? ⟨gb24, 1, none⟩ = some (.slice A18 t2.length c19) := (blk_cell BK25.out 1).trans rfl; have hfzb23_1 := blk_frozen BK25.out 1; have hczb23_2 : w65.cell? ⟨gb24, 2, none⟩ = some (.slice A21 t3.length c22) := (blk_cell BK25.out 2).trans rfl; have hfzb23_2 := blk_frozen BK25.out 2; have hczb23_3 : w65.cell? ⟨gb24, 3, none⟩ = some (.int .i64 t4) := (blk_cell BK25.out 3).trans rfl; have hfzb23_3 := blk_frozen BK25.out 3
  have hczb53_0 : w65.cell? ⟨gb54, 0, none⟩ = some (.slice A45 t31.length c46) := (blk_cell BK55.out 0).trans rfl; have hfzb53_0 := blk_frozen BK55.out 0; have hczb53_1 : w65.cell? ⟨gb54, 1, none⟩ = some (.slice A48 t32.length c49) := (blk_cell BK55.out 1).trans rfl; have hfzb53_1 := blk_frozen BK55.out 1; have hczb53_2 : w65.cell? ⟨gb54, 2, none⟩ = some (.slice A51 t33.length c52) := (blk_cell BK55.out 2).trans rfl; have hfzb53_2 := blk_frozen BK55.out 2; have hczb53_3 : w65.cell? ⟨gb54, 3, none⟩ = some (.int .i64 t34) := (blk_cell BK55.out 3).trans rfl; have hfzb53_3 := blk_frozen BK55.out 3
  have hl68 := (Kd.S_reads' F44.out).1
  have HL68 := Aside0.mk hl68
  clear hl68
  have hl69 := (Kd.R_reads' F47.out).1
  have HL69 := Aside0.mk hl69
  clear hl69
  have hl70 := (Kd.R_reads' F50.out).1
  have HL70 := Aside0.mk hl70
  clear hl70
  have hn1_ : decide ((1 + (markObjectS_cnt t31 : Nat) + (t32.length : Nat) + (t33.length : Nat) : Int) < 0) = false := decide_eq_false (by omega)
  have hd71 := hn1_
  clear hn1_
  go_wp2_with fail
  have hc_ := laws_heldHeap.calls k _ _ (markObjectS_mk (1) t31) _ _ (Kit.from_ (1 + (markObjectS_cnt t31 : Nat)) t32.length) _ _ (Kit.from_ (1 + (markObjectS_cnt t31 : Nat) + (t32.length : Nat)) t33.length) t34 1 (1 + (markObjectS_cnt t31 : Nat) + (t32.length : Nat) + (t33.length : Nat) : Int) _ (Lk.Sr F44.out).2 (Lk.Sr F44.out).1 (Lk.Rr F47.out).2 (Lk.Rr F47.out).1 (Lk.Rr F50.out).2 (Lk.Rr F50.out).1 H73.out
  simp only [← HL68.out, ← HL69.out, ← HL70.out] at hc_
  refine hc_.mono ?_
  clear hc_
  rintro e_ w74 ⟨rfl, hb⟩
  have hq_ : Below w65.heap.size w65 w74 := ⟨hb.os, hb.tape, hb.output, hb.size, hb.block⟩
  have HZ75 := Aside0.mk (show w65.heap.size ≤ w74.heap.size from hq_.size)
  have hn_ := Aside0.mk (below_then HB.out HB.out.size hq_)
  clear HB
  have HB := hn_
  clear hn_
  have hn_ := Aside0.mk (Kd.N_below F14.out hq_)
  clear F14
  have F14 := hn_
  clear hn_
  have hn_ := Aside0.mk (Kd.R_below F17.out hq_)
  clear F17
  have F17 := hn_
  clear hn_
  have hn_ := Aside0.mk (Kd.R_below F20.out hq_)
  clear F20
  have F20 := hn_
  clear hn_
  have hn_ := Aside0.mk (Kd.S_below F44.out hq_)
  clear F44
  have F44 := hn_
  clear hn_
  have hn_ := Aside0.mk (Kd.R_below F47.out hq_)
  clear F47
  have F47 := hn_
  clear hn_
  have hn_ := Aside0.mk (Kd.R_below F50.out hq_)
  clear F50
  have F50 := hn_
  clear hn_
  have hn_ := Aside0.mk (blk_below BK25.out hq_)
  clear hczb23_0 hfzb23_0; clear hczb23_1 hfzb23_1; clear hczb23_2 hfzb23_2; clear hczb23_3 hfzb23_3
  clear BK25
  have BK25 := hn_
  clear hn_
  have hn_ := Aside0.mk (blk_below BK55.out hq_)
  clear hczb53_0 hfzb53_0; clear hczb53_1 hfzb53_1; clear hczb53_2 hfzb53_2; clear hczb53_3 hfzb53_3
  clear BK55
  have BK55 := hn_
  clear hn_
  clear hq_
  have hczb23_0 : w74.cell? ⟨gb24, 0, none⟩ = some (.slice A15 t1.length c16) := (blk_cell BK25.out 0).trans rfl; have hfzb23_0 := blk_frozen BK25.out 0; have hczb23_1 : w74.cell? ⟨gb24, 1, none⟩ = some (.slice A18 t2.length c19) := (blk_cell BK25.out 1).trans rfl; have hfzb23_1 := blk_frozen BK25.out 1; have hczb23_2 : w74.cell? ⟨gb24, 2, none⟩ = some (.slice A21 t3.length c22) := (blk_cell BK25.out 2).trans rfl; have hfzb23_2 := blk_frozen BK25.out 2; have hczb23_3 : w74.cell? ⟨gb24, 3, none⟩ = some (.int .i64 t4) := (blk_cell BK25.out 3).trans rfl; have hfzb23_3 := blk_frozen BK25.out 3
  have hczb53_0 : w74.cell? ⟨gb54, 0, none⟩ = some (.slice A45 t31.length c46) := (blk_cell BK55.out 0).trans rfl; have hfzb53_0 := blk_frozen BK55.out 0; have hczb53_1 : w74.cell? ⟨gb54, 1, none⟩ = some (.slice A48 t32.length c49) := (blk_cell BK55.out 1).trans rfl; have hfzb53_1 := blk_frozen BK55.out 1; have hczb53_2 : w74.cell? ⟨gb54, 2, none⟩ = some (.slice A51 t33.length c52) := (blk_cell BK55.out 2).trans rfl; have hfzb53_2 := blk_frozen BK55.out 2; have hczb53_3 : w74.cell? ⟨gb54, 3, none⟩ = some (.int .i64 t34) := (blk_cell BK55.out 3).trans rfl; have hfzb53_3 := blk_frozen BK55.out 3
  clear hb
  go_wp2_with fail
  refine (impl_NewHeap.calls t76 t77 t78 t79 _ H80.out).mono ?_
  rintro e_ w81 ⟨v82, v83, v84, rfl, f85, f86, f87, hb⟩
  have hq_ : Below w74.heap.size w74 w81 := ⟨hb.os, hb.tape, hb.output, hb.size, hb.block⟩
  have HZ88 := Aside0.mk (show w74.heap.size ≤ w81.heap.size from hq_.size)
  have hn_ := Aside0.mk (below_then HB.out HB.out.size hq_)
  clear HB
  have HB := hn_
  clear hn_
  have hn_ := Aside0.mk (Kd.N_below F14.out hq_)
  clear F14
  have F14 := hn_
  clear hn_
  have hn_ := Aside0.mk (Kd.R_below F17.out hq_)
  clear F17
  have F17 := hn_
  clear hn_
  have hn_ := Aside0.mk (Kd.R_below F20.out hq_)
  clear F20
  have F20 := hn_
  clear hn_
  have hn_ := Aside0.mk (Kd.S_below F44.out hq_)
  clear F44
  have F44 := hn_
  clear hn_
  have hn_ := Aside0.mk (Kd.R_below F47.out hq_)
  clear F47
  have F47 := hn_
  clear hn_
  have hn_ := Aside0.mk (Kd.R_below F50.out hq_)
  clear F50
  have F50 := hn_
  clear hn_
  have hn_ := Aside0.mk (blk_below BK25.out hq_)
  clear hczb23_0 hfzb23_0; clear hczb23_1 hfzb23_1; clear hczb23_2 hfzb23_2; clear hczb23_3 hfzb23_3
  clear BK25
  have BK25 := hn_
  clear hn_
  have hn_ := Aside0.mk (blk_below BK55.out hq_)
  clear hczb53_0 hfzb53_0; clear hczb53_1 hfzb53_1; clear hczb53_2 hfzb53_2; clear hczb53_3 hfzb53_3
  clear BK55
  have BK55 := hn_
  clear hn_
  clear hq_
  have hczb23_0 : w81.cell? ⟨gb24, 0, none⟩ = some (.slice A15 t1.length c16) := (blk_cell BK25.out 0).trans rfl; have hfzb23_0 := blk_frozen BK25.out 0; have hczb23_1 : w81.cell? ⟨gb24, 1, none⟩ = some (.slice A18 t2.length c19) := (blk_cell BK25.out 1).trans rfl; have hfzb23_1 := blk_frozen BK25.out 1; have hczb23_2 : w81.cell? ⟨gb24, 2, none⟩ = some (.slice A21 t3.length c22) := (blk_cell BK25.out 2).trans rfl; have hfzb23_2 := blk_frozen BK25.out 2; have hczb23_3 : w81.cell? ⟨gb24, 3, none⟩ = some (.int .i64 t4) := (blk_cell BK25.out 3).trans rfl; have hfzb23_3 := blk_frozen BK25.out 3
  have hczb53_0 : w81.cell? ⟨gb54, 0, none⟩ = some (.slice A45 t31.length c46) := (blk_cell BK55.out 0).trans rfl; have hfzb53_0 := blk_frozen BK55.out 0; have hczb53_1 : w81.cell? ⟨gb54, 1, none⟩ = some (.slice A48 t32.length c49) := (blk_cell BK55.out 1).trans rfl; have hfzb53_1 := blk_frozen BK55.out 1; have hczb53_2 : w81.cell? ⟨gb54, 2, none⟩ = some (.slice A51 t33.length c52) := (blk_cell BK55.out 2).trans rfl; have hfzb53_2 := blk_frozen BK55.out 2; have hczb53_3 : w81.cell? ⟨gb54, 3, none⟩ = some (.int .i64 t34) := (blk_cell BK55.out 3).trans rfl; have hfzb53_3 := blk_frozen BK55.out 3
  clear hb
  have F89 := Aside0.mk (Lk.newS (b := w74.heap.size) (base := w.heap.size) (Sep := fun k_ => some k_ ≠ (v83 : Value).ownBlock ∧ some k_ ≠ (v84 : Value).ownBlock) f85 (by have := HZ13.out; have := HZ28.out; have := HZ30.out; have := HZ43.out; have := HZ58.out; have := HZ60.out; have := HZ64.out; have := HZ67.out; have := HZ75.out; have := HZ88.out; omega) (fun k_ hk_ => hk_))
  clear f85
  have F92 := Aside0.mk (Lk.newR (b := w74.heap.size) (base := w.heap.size) (Sep := fun k_ => some k_ ≠ (v84 : Value).ownBlock) rfl f86 (by have := HZ13.out; have := HZ28.out; have := HZ30.out; have := HZ43.out; have := HZ58.out; have := HZ60.out; have := HZ64.out; have := HZ67.out; have := HZ75.out; have := HZ88.out; omega) (fun k_ hk_ => hk_))
  clear f86
  have F95 := Aside0.mk (Lk.newR (b := w74.heap.size) (base := w.heap.size) (Sep := fun k_ => some k_ ≠ (v83 : Value).ownBlock) rfl f87 (by have := HZ13.out; have := HZ28.out; have := HZ30.out; have := HZ43.out; have := HZ58.out; have := HZ60.out; have := HZ64.out; have := HZ67.out; have := HZ75.out; have := HZ88.out; omega) (fun k_ hk_ => hk_))
  clear f87
  obtain ⟨A90, c91, e_⟩ := Kd.S_slice F89.out
  subst e_
  obtain ⟨A93, c94, e_⟩ := Kd.R_slice F92.out
  subst e_
  obtain ⟨A96, c97, e_⟩ := Kd.R_slice F95.out
  subst e_
  go_wp2_with (first | ((with_reducible refine gate_dst (N := 5) rfl ?_); refine box_event ?hg (N := 5) ?hd (cs := #[.slice none 0 0, .slice none 0 0, .slice none 0 0, .int .i64 0]) (t := 25) ?hr ?_; (case hd => rfl); (case hg => rfl); (case hr => first | (go_simp; done) | (go_simp; rfl)); intro gb99 hg_ w102 hx_ hb; have hg2_ : gb99 = w81.heap.size := hg_; have hq_ : Below w81.heap.size w81 w102 := ⟨hb.os, hb.tape, hb.output, hb.size, hb.block⟩; have HZ103 := Aside0.mk (show w81.heap.size ≤ w102.heap.size from hq_.size); have hn_ := Aside0.mk (below_then HB.out HB.out.size hq_); clear HB; have HB := hn_; clear hn_; have hn_ := Aside0.mk (Kd.N_below F14.out hq_); clear F14; have F14 := hn_; clear hn_; have hn_ := Aside0.mk (Kd.R_below F17.out hq_); clear F17; have F17 := hn_; clear hn_; have hn_ := Aside0.mk (Kd.R_below F20.out hq_); clear F20; have F20 := hn_; clear hn_; have hn_ := Aside0.mk (Kd.S_below F44.out hq_); clear F44; have F44 := hn_; clear hn_; have hn_ := Aside0.mk (Kd.R_below F47.out hq_); clear F47; have F47 := hn_; clear hn_; have hn_ := Aside0.mk (Kd.R_below F50.out hq_); clear F50; have F50 := hn_; clear hn_; have hn_ := Aside0.mk (Kd.S_below F89.out hq_); clear F89; have F89 := hn_; clear hn_; have hn_ := Aside0.mk (Kd.R_below F92.out hq_); clear F92; have F92 := hn_; clear hn_; have hn_ := Aside0.mk (Kd.R_below F95.out hq_); clear F95; have F95 := hn_; clear hn_; have hn_ := Aside0.mk (blk_below BK25.out hq_); clear hczb23_0 hfzb23_0; clear hczb23_1 hfzb23_1; clear hczb23_2 hfzb23_2; clear hczb23_3 hfzb23_3; clear BK25; have BK25 := hn_; clear hn_; have hn_ := Aside0.mk (blk_below BK55.out hq_); clear hczb53_0 hfzb53_0; clear hczb53_1 hfzb53_1; clear hczb53_2 hfzb53_2; clear hczb53_3 hfzb53_3; clear BK55; have BK55 := hn_; clear hn_; clear hq_; have hczb23_0 : w102.cell? ⟨gb24, 0, none⟩ = some (.slice A15 t1.length c16) := (blk_cell BK25.out 0).trans rfl; have hfzb23_0 := blk_frozen BK25.out 0; have hczb23_1 : w102.cell? ⟨gb24, 1, none⟩ = some (.slice A18 t2.length c19) := (blk_cell BK25.out 1).trans rfl; have hfzb23_1 := blk_frozen BK25.out 1; have hczb23_2 : w102.cell? ⟨gb24, 2, none⟩ = some (.slice A21 t3.length c22) := (blk_cell BK25.out 2).trans rfl; have hfzb23_2 := blk_frozen BK25.out 2; have hczb23_3 : w102.cell? ⟨gb24, 3, none⟩ = some (.int .i64 t4) := (blk_cell BK25.out 3).trans rfl; have hfzb23_3 := blk_frozen BK25.out 3; have hczb53_0 : w102.cell? ⟨gb54, 0, none⟩ = some (.slice A45 t31.length c46) := (blk_cell BK55.out 0).trans rfl; have hfzb53_0 := blk_frozen BK55.out 0; have hczb53_1 : w102.cell? ⟨gb54, 1, none⟩ = some (.slice A48 t32.length c49) := (blk_cell BK55.out 1).trans rfl; have hfzb53_1 := blk_frozen BK55.out 1; have hczb53_2 : w102.cell? ⟨gb54, 2, none⟩ = some (.slice A51 t33.length c52) := (blk_cell BK55.out 2).trans rfl; have hfzb53_2 := blk_frozen BK55.out 2; have hczb53_3 : w102.cell? ⟨gb54, 3, none⟩ = some (.int .i64 t34) := (blk_cell BK55.out 3).trans rfl; have hfzb53_3 := blk_frozen BK55.out 3; have BK100 := Aside0.mk hx_; have GQ101 := Aside0.mk (show w81.heap.size ≤ gb99 ∧ gb99 < w102.heap.size from ⟨Nat.le_of_eq hg2_.symm, blk_lt hx_⟩); clear hb hg_ hg2_ hx_; have hczb98_0 : w102.cell? ⟨gb99, 0, none⟩ = some (.slice none 0 0) := (blk_cell BK100.out 0).trans rfl; have hfzb98_0 := blk_frozen BK100.out 0; have hczb98_1 : w102.cell? ⟨gb99, 1, none⟩ = some (.slice none 0 0) := (blk_cell BK100.out 1).trans rfl; have hfzb98_1 := blk_frozen BK100.out 1; have hczb98_2 : w102.cell? ⟨gb99, 2, none⟩ = some (.slice none 0 0) := (blk_cell BK100.out 2).trans rfl; have hfzb98_2 := blk_frozen BK100.out 2; have hczb98_3 : w102.cell? ⟨gb99, 3, none⟩ = some (.int .i64 0) := (blk_cell BK100.out 3).trans rfl; have hfzb98_3 := blk_frozen BK100.out 3) | ((with_reducible refine gate_store (t := 25) (p := 5) rfl ?_); refine store_event (t := 25) (p := 5) (v := ?vo_w104) (w1 := ((((w102.setCell ⟨gb99, 0, none⟩ (.slice A90 t76.length c91)).setCell ⟨gb99, 1, none⟩ (.slice A93 t77.length c94)).setCell ⟨gb99, 2, none⟩ (.slice A96 t78.length c97)).setCell ⟨gb99, 3, none⟩ (.int .i64 t79))) ?hg ?ho ?hn ?hr ?_; (case ho => rfl); (case hg => rfl); (case hn => rfl); (case hr => first | (go_simp; done) | (go_simp; rfl)); intro w104 hw_; have hx_ : w104.heap[gb99]? = some (.cells #[(.slice A90 t76.length c91), (.slice A93 t77.length c94), (.slice A96 t78.length c97), (.int .i64 t79)] 25 (0, 0)) := (by rw [hw_]; exact Lk.filled (us := [(.slice A90 t76.length c91), (.slice A93 t77.length c94), (.slice A96 t78.length c97), (.int .i64 t79)]) BK100.out rfl); have hk2_ : Kept w102 w104 (fun k_ => k_ = gb99) := (by rw [hw_]; exact Lk.fill_kept [(.slice A90 t76.length c91), (.slice A93 t77.length c94), (.slice A96 t78.length c97), (.int .i64 t79)] 0 w102); have hB_ := Aside0.mk (show Below w.heap.size w w104 by rw [hw_]; exact Lk.fill_below [(.slice A90 t76.length c91), (.slice A93 t77.length c94), (.slice A96 t78.length c97), (.int .i64 t79)] 0 w w102 HB.out (by have := HZ13.out; have := HZ28.out; have := HZ30.out; have := HZ43.out; have := HZ58.out; have := HZ60.out; have := HZ64.out; have := HZ67.out; have := HZ75.out; have := HZ88.out; have := HZ103.out; have := GQ101.out; omega)); clear HB; have HB := hB_; clear hB_; have HZ105 := Aside0.mk (show w102.heap.size ≤ w104.heap.size from hk2_.1); have hn_ := Aside0.mk (Kd.N_kept F14.out hk2_ (fun k_ h1_ h2_ => by have := HZ13.out; have := HZ28.out; have := HZ30.out; have := HZ43.out; have := HZ58.out; have := HZ60.out; have := HZ64.out; have := HZ67.out; have := HZ75.out; have := HZ88.out; have := HZ103.out; have := GQ101.out; have h3_ := h1_.1; omega)); clear F14; have F14 := hn_; clear hn_; have hn_ := Aside0.mk (Kd.R_kept F17.out hk2_ (fun k_ h1_ h2_ => by have := HZ13.out; have := HZ28.out; have := HZ30.out; have := HZ43.out; have := HZ58.out; have := HZ60.out; have := HZ64.out; have := HZ67.out; have := HZ75.out; have := HZ88.out; have := HZ103.out; have := GQ101.out; have h3_ := h1_.1; omega)); clear F17; have F17 := hn_; clear hn_; have hn_ := Aside0.mk (Kd.R_kept F20.out hk2_ (fun k_ h1_ h2_ => by have := HZ13.out; have := HZ28.out; have := HZ30.out; have := HZ43.out; have := HZ58.out; have := HZ60.out; have := HZ64.out; have := HZ67.out; have := HZ75.out; have := HZ88.out; have := HZ103.out; have := GQ101.out; have h3_ := h1_.1; omega)); clear F20; have F20 := hn_; clear hn_; have hn_ := Aside0.mk (Kd.S_kept F44.out hk2_ (fun k_ h1_ h2_ => by have := HZ13.out; have := HZ28.out; have := HZ30.out; have := HZ43.out; have := HZ58.out; have := HZ60.out; have := HZ64.out; have := HZ67.out; have := HZ75.out; have := HZ88.out; have := HZ103.out; have := GQ101.out; have h3_ := h1_.1; omega)); clear F44; have F44 := hn_; clear hn_; have hn_ := Aside0.mk (Kd.R_kept F47.out hk2_ (fun k_ h1_ h2_ => by have := HZ13.out; have := HZ28.out; have := HZ30.out; have := HZ43.out; have := HZ58.out; have := HZ60.out; have := HZ64.out; have := HZ67.out; have := HZ75.out; have := HZ88.out; have := HZ103.out; have := GQ101.out; have h3_ := h1_.1; omega)); clear F47; have F47 := hn_; clear hn_; have hn_ := Aside0.mk (Kd.R_kept F50.out hk2_ (fun k_ h1_ h2_ => by have := HZ13.out; have := HZ28.out; have := HZ30.out; have := HZ43.out; have := HZ58.out; have := HZ60.out; have := HZ64.out; have := HZ67.out; have := HZ75.out; have := HZ88.out; have := HZ103.out; have := GQ101.out; have h3_ := h1_.1; omega)); clear F50; have F50 := hn_; clear hn_; have hn_ := Aside0.mk (Kd.S_kept F89.out hk2_ (fun k_ h1_ h2_ => by have := HZ13.out; have := HZ28.out; have := HZ30.out; have := HZ43.out; have := HZ58.out; have := HZ60.out; have := HZ64.out; have := HZ67.out; have := HZ75.out; have := HZ88.out; have := HZ103.out; have := GQ101.out; have h3_ := h1_.1; omega)); clear F89; have F89 := hn_; clear hn_; have hn_ := Aside0.mk (Kd.R_kept F92.out hk2_ (fun k_ h1_ h2_ => by have := HZ13.out; have := HZ28.out; have := HZ30.out; have := HZ43.out; have := HZ58.out; have := HZ60.out; have := HZ64.out; have := HZ67.out; have := HZ75.out; have := HZ88.out; have := HZ103.out; have := GQ101.out; have h3_ := h1_.1; omega)); clear F92; have F92 := hn_; clear hn_; have hn_ := Aside0.mk (Kd.R_kept F95.out hk2_ (fun k_ h1_ h2_ => by have := HZ13.out; have := HZ28.out; have := HZ30.out; have := HZ43.out; have := HZ58.out; have := HZ60.out; have := HZ64.out; have := HZ67.out; have := HZ75.out; have := HZ88.out; have := HZ103.out; have := GQ101.out; have h3_ := h1_.1; omega)); clear F95; have F95 := hn_; clear hn_; clear hczb23_0 hfzb23_0; clear hczb23_1 hfzb23_1; clear hczb23_2 hfzb23_2; clear hczb23_3 hfzb23_3; have hn_ := Aside0.mk (blk_kept BK25.out hk2_ (fun h_ => by have := HZ13.out; have := HZ28.out; have := HZ30.out; have := HZ43.out; have := HZ58.out; have := HZ60.out; have := HZ64.out; have := HZ67.out; have := HZ75.out; have := HZ88.out; have := HZ103.out; have := GQ101.out; have := GQ26.out; omega)); clear BK25; have BK25 := hn_; clear hn_; clear hczb53_0 hfzb53_0; clear hczb53_1 hfzb53_1; clear hczb53_2 hfzb53_2; clear hczb53_3 hfzb53_3; have hn_ := Aside0.mk (blk_kept BK55.out hk2_ (fun h_ => by have := HZ13.out; have := HZ28.out; have := HZ30.out; have := HZ43.out; have := HZ58.out; have := HZ60.out; have := HZ64.out; have := HZ67.out; have := HZ75.out; have := HZ88.out; have := HZ103.out; have := GQ101.out; have := GQ56.out; omega)); clear BK55; have BK55 := hn_; clear hn_; clear hczb98_0 hfzb98_0; clear hczb98_1 hfzb98_1; clear hczb98_2 hfzb98_2; clear hczb98_3 hfzb98_3; clear BK100; have BK100 := Aside0.mk hx_; clear hk2_ hx_ hw_; have hczb23_0 : w104.cell? ⟨gb24, 0, none⟩ = some (.slice A15 t1.length c16) := (blk_cell BK25.out 0).trans rfl; have hfzb23_0 := blk_frozen BK25.out 0; have hczb23_1 : w104.cell? ⟨gb24, 1, none⟩ = some (.slice A18 t2.length c19) := (blk_cell BK25.out 1).trans rfl; have hfzb23_1 := blk_frozen BK25.out 1; have hczb23_2 : w104.cell? ⟨gb24, 2, none⟩ = some (.slice A21 t3.length c22) := (blk_cell BK25.out 2).trans rfl; have hfzb23_2 := blk_frozen BK25.out 2; have hczb23_3 : w104.cell? ⟨gb24, 3, none⟩ = some (.int .i64 t4) := (blk_cell BK25.out 3).trans rfl; have hfzb23_3 := blk_frozen BK25.out 3; have hczb53_0 : w104.cell? ⟨gb54, 0, none⟩ = some (.slice A45 t31.length c46) := (blk_cell BK55.out 0).trans rfl; have hfzb53_0 := blk_frozen BK55.out 0; have hczb53_1 : w104.cell? ⟨gb54, 1, none⟩ = some (.slice A48 t32.length c49) := (blk_cell BK55.out 1).trans rfl; have hfzb53_1 := blk_frozen BK55.out 1; have hczb53_2 : w104.cell? ⟨gb54, 2, none⟩ = some (.slice A51 t33.length c52) := (blk_cell BK55.out 2).trans rfl; have hfzb53_2 := blk_frozen BK55.out 2; have hczb53_3 : w104.cell? ⟨gb54, 3, none⟩ = some (.int .i64 t34) := (blk_cell BK55.out 3).trans rfl; have hfzb53_3 := blk_frozen BK55.out 3; have hczb98_0 : w104.cell? ⟨gb99, 0, none⟩ = some (.slice A90 t76.length c91) := (blk_cell BK100.out 0).trans rfl; have hfzb98_0 := blk_frozen BK100.out 0; have hczb98_1 : w104.cell? ⟨gb99, 1, none⟩ = some (.slice A93 t77.length c94) := (blk_cell BK100.out 1).trans rfl; have hfzb98_1 := blk_frozen BK100.out 1; have hczb98_2 : w104.cell? ⟨gb99, 2, none⟩ = some (.slice A96 t78.length c97) := (blk_cell BK100.out 2).trans rfl; have hfzb98_2 := blk_frozen BK100.out 2; have hczb98_3 : w104.cell? ⟨gb99, 3, none⟩ = some (.int .i64 t79) := (blk_cell BK100.out 3).trans rfl; have hfzb98_3 := blk_frozen BK100.out 3))
  refine (laws_eqHeap.calls k _ _ t76 _ _ t77 _ _ t78 t79 _ _ t1 _ _ t2 _ _ t3 t4 true _ (Lk.Sr F89.out).2 (Lk.Sr F89.out).1 (Lk.Rr F92.out).2 (Lk.Rr F92.out).1 (Lk.Rr F95.out).2 (Lk.Rr F95.out).1 (Lk.Nr F14.out).2 (Lk.Nr F14.out).1 (Lk.Rr F17.out).2 (Lk.Rr F17.out).1 (Lk.Rr F20.out).2 (Lk.Rr F20.out).1 H107.out).mono ?_
  rintro e_ w108 ⟨rfl, hb⟩
  have hq_ : Below w104.heap.size w104 w108 := ⟨hb.os, hb.tape, hb.output, hb.size, hb.block⟩
  have HZ109 := Aside0.mk (show w104.heap.size ≤ w108.heap.size from hq_.size)
  have hn_ := Aside0.mk (below_then HB.out HB.out.size hq_)
  clear HB
  have HB := hn_
  clear hn_
  have hn_ := Aside0.mk (Kd.N_below F14.out hq_)
  clear F14
  have F14 := hn_
  clear hn_
  have hn_ := Aside0.mk (Kd.R_below F17.out hq_)
  clear F17
  have F17 := hn_
  clear hn_
  have hn_ := Aside0.mk (Kd.R_below F20.out hq_)
  clear F20
  have F20 := hn_
  clear hn_
  have hn_ := Aside0.mk (Kd.S_below F44.out hq_)
  clear F44
  have F44 := hn_
  clear hn_
  have hn_ := Aside0.mk (Kd.R_below F47.out hq_)
  clear F47
  have F47 := hn_
  clear hn_
  have hn_ := Aside0.mk (Kd.R_below F50.out hq_)
  clear F50
  have F50 := hn_
  clear hn_
  have hn_ := Aside0.mk (Kd.S_below F89.out hq_)
  clear F89
  have F89 := hn_
  clear hn_
  have hn_ := Aside0.mk (Kd.R_below F92.out hq_)
  clear F92
  have F92 := hn_
  clear hn_
  have hn_ := Aside0.mk (Kd.R_below F95.out hq_)
  clear F95
  have F95 := hn_
  clear hn_
  have hn_ := Aside0.mk (blk_below BK25.out hq_)
  clear hczb23_0 hfzb23_0; clear hczb23_1 hfzb23_1; clear hczb23_2 hfzb23_2; clear hczb23_3 hfzb23_3
  clear BK25
  have BK25 := hn_
  clear hn_
  have hn_ := Aside0.mk (blk_below BK55.out hq_)
  clear hczb53_0 hfzb53_0; clear hczb53_1 hfzb53_1; clear hczb53_2 hfzb53_2; clear hczb53_3 hfzb53_3
  clear BK55
  have BK55 := hn_
  clear hn_
  have hn_ := Aside0.mk (blk_below BK100.out hq_)
  clear hczb98_0 hfzb98_0; clear hczb98_1 hfzb98_1; clear hczb98_2 hfzb98_2; clear hczb98_3 hfzb98_3
  clear BK100
  have BK100 := hn_
  clear hn_
  clear hq_
  have hczb23_0 : w108.cell? ⟨gb24, 0, none⟩ = some (.slice A15 t1.length c16) := (blk_cell BK25.out 0).trans rfl; have hfzb23_0 := blk_frozen BK25.out 0; have hczb23_1 : w108.cell? ⟨gb24, 1, none⟩ = some (.slice A18 t2.length c19) := (blk_cell BK25.out 1).trans rfl; have hfzb23_1 := blk_frozen BK25.out 1; have hczb23_2 : w108.cell? ⟨gb24, 2, none⟩ = some (.slice A21 t3.length c22) := (blk_cell BK25.out 2).trans rfl; have hfzb23_2 := blk_frozen BK25.out 2; have hczb23_3 : w108.cell? ⟨gb24, 3, none⟩ = some (.int .i64 t4) := (blk_cell BK25.out 3).trans rfl; have hfzb23_3 := blk_frozen BK25.out 3
  have hczb53_0 : w108.cell? ⟨gb54, 0, none⟩ = some (.slice A45 t31.length c46) := (blk_cell BK55.out 0).trans rfl; have hfzb53_0 := blk_frozen BK55.out 0; have hczb53_1 : w108.cell? ⟨gb54, 1, none⟩ = some (.slice A48 t32.length c49) := (blk_cell BK55.out 1).trans rfl; have hfzb53_1 := blk_frozen BK55.out 1; have hczb53_2 : w108.cell? ⟨gb54, 2, none⟩ = some (.slice A51 t33.length c52) := (blk_cell BK55.out 2).trans rfl; have hfzb53_2 := blk_frozen BK55.out 2; have hczb53_3 : w108.cell? ⟨gb54, 3, none⟩ = some (.int .i64 t34) := (blk_cell BK55.out 3).trans rfl; have hfzb53_3 := blk_frozen BK55.out 3
  have hczb98_0 : w108.cell? ⟨gb99, 0, none⟩ = some (.slice A90 t76.length c91) := (blk_cell BK100.out 0).trans rfl; have hfzb98_0 := blk_frozen BK100.out 0; have hczb98_1 : w108.cell? ⟨gb99, 1, none⟩ = some (.slice A93 t77.length c94) := (blk_cell BK100.out 1).trans rfl; have hfzb98_1 := blk_frozen BK100.out 1; have hczb98_2 : w108.cell? ⟨gb99, 2, none⟩ = some (.slice A96 t78.length c97) := (blk_cell BK100.out 2).trans rfl; have hfzb98_2 := blk_frozen BK100.out 2; have hczb98_3 : w108.cell? ⟨gb99, 3, none⟩ = some (.int .i64 t79) := (blk_cell BK100.out 3).trans rfl; have hfzb98_3 := blk_frozen BK100.out 3
  clear hb
  go_wp2_with fail
  have hc_ := laws_heldHeap.calls k _ _ (markObjectS_mk (1) t31) _ _ (Kit.from_ (1 + (markObjectS_cnt t31 : Nat)) t32.length) _ _ (Kit.from_ (1 + (markObjectS_cnt t31 : Nat) + (t32.length : Nat)) t33.length) t34 1 (1 + (markObjectS_cnt t31 : Nat) + (t32.length : Nat) + (t33.length : Nat) : Int) _ (Lk.Sr F44.out).2 (Lk.Sr F44.out).1 (Lk.Rr F47.out).2 (Lk.Rr F47.out).1 (Lk.Rr F50.out).2 (Lk.Rr F50.out).1 H111.out
  simp only [← HL68.out, ← HL69.out, ← HL70.out] at hc_
  refine hc_.mono ?_
  clear hc_
  rintro e_ w112 ⟨rfl, hb⟩
  have hq_ : Below w108.heap.size w108 w112 := ⟨hb.os, hb.tape, hb.output, hb.size, hb.block⟩
  have HZ113 := Aside0.mk (show w108.heap.size ≤ w112.heap.size from hq_.size)
  have hn_ := Aside0.mk (below_then HB.out HB.out.size hq_)
  clear HB
  have HB := hn_
  clear hn_
  have hn_ := Aside0.mk (Kd.N_below F14.out hq_)
  clear F14
  have F14 := hn_
  clear hn_
  have hn_ := Aside0.mk (Kd.R_below F17.out hq_)
  clear F17
  have F17 := hn_
  clear hn_
  have hn_ := Aside0.mk (Kd.R_below F20.out hq_)
  clear F20
  have F20 := hn_
  clear hn_
  have hn_ := Aside0.mk (Kd.S_below F44.out hq_)
  clear F44
  have F44 := hn_
  clear hn_
  have hn_ := Aside0.mk (Kd.R_below F47.out hq_)
  clear F47
  have F47 := hn_
  clear hn_
  have hn_ := Aside0.mk (Kd.R_below F50.out hq_)
  clear F50
  have F50 := hn_
  clear hn_
  have hn_ := Aside0.mk (Kd.S_below F89.out hq_)
  clear F89
  have F89 := hn_
  clear hn_
  have hn_ := Aside0.mk (Kd.R_below F92.out hq_)
  clear F92
  have F92 := hn_
  clear hn_
  have hn_ := Aside0.mk (Kd.R_below F95.out hq_)
  clear F95
  have F95 := hn_
  clear hn_
  have hn_ := Aside0.mk (blk_below BK25.out hq_)
  clear hczb23_0 hfzb23_0; clear hczb23_1 hfzb23_1; clear hczb23_2 hfzb23_2; clear hczb23_3 hfzb23_3
  clear BK25
  have BK25 := hn_
  clear hn_
  have hn_ := Aside0.mk (blk_below BK55.out hq_)
  clear hczb53_0 hfzb53_0; clear hczb53_1 hfzb53_1; clear hczb53_2 hfzb53_2; clear hczb53_3 hfzb53_3
  clear BK55
  have BK55 := hn_
  clear hn_
  have hn_ := Aside0.mk (blk_below BK100.out hq_)
  clear hczb98_0 hfzb98_0; clear hczb98_1 hfzb98_1; clear hczb98_2 hfzb98_2; clear hczb98_3 hfzb98_3
  clear BK100
  have BK100 := hn_
  clear hn_
  clear hq_
  have hczb23_0 : w112.cell? ⟨gb24, 0, none⟩ = some (.slice A15 t1.length c16) := (blk_cell BK25.out 0).trans rfl; have hfzb23_0 := blk_frozen BK25.out 0; have hczb23_1 : w112.cell? ⟨gb24, 1, none⟩ = some (.slice A18 t2.length c19) := (blk_cell BK25.out 1).trans rfl; have hfzb23_1 := blk_frozen BK25.out 1; have hczb23_2 : w112.cell? ⟨gb24, 2, none⟩ = some (.slice A21 t3.length c22) := (blk_cell BK25.out 2).trans rfl; have hfzb23_2 := blk_frozen BK25.out 2; have hczb23_3 : w112.cell? ⟨gb24, 3, none⟩ = some (.int .i64 t4) := (blk_cell BK25.out 3).trans rfl; have hfzb23_3 := blk_frozen BK25.out 3
  have hczb53_0 : w112.cell? ⟨gb54, 0, none⟩ = some (.slice A45 t31.length c46) := (blk_cell BK55.out 0).trans rfl; have hfzb53_0 := blk_frozen BK55.out 0; have hczb53_1 : w112.cell? ⟨gb54, 1, none⟩ = some (.slice A48 t32.length c49) := (blk_cell BK55.out 1).trans rfl; have hfzb53_1 := blk_frozen BK55.out 1; have hczb53_2 : w112.cell? ⟨gb54, 2, none⟩ = some (.slice A51 t33.length c52) := (blk_cell BK55.out 2).trans rfl; have hfzb53_2 := blk_frozen BK55.out 2; have hczb53_3 : w112.cell? ⟨gb54, 3, none⟩ = some (.int .i64 t34) := (blk_cell BK55.out 3).trans rfl; have hfzb53_3 := blk_frozen BK55.out 3
  have hczb98_0 : w112.cell? ⟨gb99, 0, none⟩ = some (.slice A90 t76.length c91) := (blk_cell BK100.out 0).trans rfl; have hfzb98_0 := blk_frozen BK100.out 0; have hczb98_1 : w112.cell? ⟨gb99, 1, none⟩ = some (.slice A93 t77.length c94) := (blk_cell BK100.out 1).trans rfl; have hfzb98_1 := blk_frozen BK100.out 1; have hczb98_2 : w112.cell? ⟨gb99, 2, none⟩ = some (.slice A96 t78.length c97) := (blk_cell BK100.out 2).trans rfl; have hfzb98_2 := blk_frozen BK100.out 2; have hczb98_3 : w112.cell? ⟨gb99, 3, none⟩ = some (.int .i64 t79) := (blk_cell BK100.out 3).trans rfl; have hfzb98_3 := blk_frozen BK100.out 3
  clear hb
  go_wp2_with fail
  go_ret
  exact ⟨rfl, HB.out⟩
end Go.Proofs.Ytnocadhibajaoaa.Q
