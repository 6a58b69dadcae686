/- The law FnExactLineTree of this seat: the walk along its one way. Conditions: none. -/
import Derived.Test.YtgjojppbichaiaaQx0
import Derived.Test.YtgjojppbichaiaaQx1
import Derived.Test.YtgjojppbichaiaaQx2
import Derived.Test.YtgjojppbichaiaaQx6
import Derived.Test.YtgjojppbichaiaaQx8
import Derived.Test.YtgjojppbichaiaaQx9
import Derived.Test.YtgjojppbichaiaaGoodFnExactLineTree
import Derived.Test.YtgjojppbichaiaaLk
namespace Go.Proofs.Ytgjojppbichaiaa.Q
open Go.RowKit Go.Proofs.YtgjojppbichaiaaW.PrintWords Go.Proofs.YtgjojppbichaiaaW.PrintLast Go.Proofs.YtgjojppbichaiaaW.PrintMore
set_option linter.unusedVariables false
set_option linter.unusedSimpArgs false
open Lk in
set_option maxHeartbeats 8000000 in
set_option maxRecDepth 100000 in
theorem laws_FnExactLineTree.calls (k : Nat) (A0 : Option Addr) (c0 : Nat) (l0 : List (S78)) (r : Bool) (w : World) (hr0 : Kd.C k78 w A0 l0.length l0) (hc0 : l0.length ≤ c0) (h : laws_FnExactLineTree.f k l0 = some r) :
    Calls Try.prog 9 #[.slice A0 l0.length c0] w fun e w' => e = .returned (.bool r) ∧ Below w.heap.size w w' := by
  unfold laws_FnExactLineTree.f at h
  split at h
  case isFalse => cases h
  rename_i hg
  obtain rfl := Option.some.inj h
  clear h
  have HR0 := Aside0.mk hr0
  have HC0 := Aside0.mk hc0
  clear hr0 hc0
  have HB := Aside0.mk (Below.refl w.heap.size w)
  unfold laws_FnExactLineTree.good at hg
  obtain ⟨t1, H20, hg⟩ := hg
  have H2 := Aside0.mk H20
  clear H20
  rcases hg with hs | ⟨hs, hg⟩
  · have hs1_ : decide (t1 < 0) = true := decide_eq_true hs
    clear hs
    go_enter Try.func9, Try.ntmps9
    go_wp2_with fail
    refine (laws_szXCellS.calls _ _ l0 1048576 t1 _ (Kd.C_below HR0.out HB.out) HC0.out H2.out).mono ?_
    rintro e_ w3 ⟨rfl, ⟨nd_, hd_⟩⟩
    have hb : Below w.heap.size w w3 := by rw [hd_]; exact pw_below_drewN (Below.refl _ _) nd_
    clear hd_
    have hq_ : Below w.heap.size w w3 := ⟨hb.os, hb.tape, hb.output, hb.size, hb.block⟩
    have HZ4 := Aside0.mk (show w.heap.size ≤ w3.heap.size from hq_.size)
    have hn_ := Aside0.mk (below_then HB.out HB.out.size hq_)
    clear HB
    have HB := hn_
    clear hn_
    have HA5 := Aside0.mk (show w.heap.size ≤ w3.heap.size from HB.out.size)
    clear hq_
    clear hb
    go_wp2_with fail
    go_ret
    exact ⟨rfl, by repeat first | exact HB.out | apply below_alloc⟩
  have hs2_ : decide (t1 < 0) = false := decide_eq_false hs
  clear hs
  obtain ⟨t6, H70, t16, t17, t18, H190, t43, H440, t53, t54, H560, H810, t85, H860, H960, t101, t102, H1030, H1040, H1090, H1140, H1200, t124, H1250, t134, t135, H1370, H1620, H1670, hg⟩ := hg
  have H7 := Aside0.mk H70
  clear H70
  have H19 := Aside0.mk H190
  clear H190
  have H44 := Aside0.mk H440
  clear H440
  have H56 := Aside0.mk H560
  clear H560
  have H81 := Aside0.mk H810
  clear H810
  have H86 := Aside0.mk H860
  clear H860
  have H96 := Aside0.mk H960
  clear H960
  have H103 := Aside0.mk H1030
  clear H1030
  have H104 := Aside0.mk H1040
  clear H1040
  have H109 := Aside0.mk H1090
  clear H1090
  have H114 := Aside0.mk H1140
  clear H1140
  have H120 := Aside0.mk H1200
  clear H1200
  have H125 := Aside0.mk H1250
  clear H1250
  have H137 := Aside0.mk H1370
  clear H1370
  have H162 := Aside0.mk H1620
  clear H1620
  have H167 := Aside0.mk H1670
  clear H1670
  clear hg
  go_enter Try.func9, Try.ntmps9
  go_wp2_with fail
  refine (laws_szXCellS.calls _ _ l0 1048576 t1 _ (Kd.C_below HR0.out HB.out) HC0.out H2.out).mono ?_
  rintro e_ w3 ⟨rfl, ⟨nd_, hd_⟩⟩
  have hb : Below w.heap.size w w3 := by rw [hd_]; exact pw_below_drewN (Below.refl _ _) nd_
  clear hd_
  have hq_ : Below w.heap.size w w3 := ⟨hb.os, hb.tape, hb.output, hb.size, hb.block⟩
  have HZ4 := Aside0.mk (show w.heap.size ≤ w3.heap.size from hq_.size)
  have hn_ := Aside0.mk (below_then HB.out HB.out.size hq_)
  clear HB
  have HB := hn_
  clear hn_
  have HA5 := Aside0.mk (show w.heap.size ≤ w3.heap.size from HB.out.size)
  clear hq_
  clear hb
  go_wp2_with fail
  refine (laws_toXCellS.calls k _ _ l0 t6 _ (Kd.C_below HR0.out HB.out) HC0.out H7.out).mono ?_
  rintro e_ w8 ⟨v9, rfl, f10, hb⟩
  have hq_ : Below w3.heap.size w3 w8 := ⟨hb.os, hb.tape, hb.output, hb.size, hb.block⟩
  have HZ11 := Aside0.mk (show w3.heap.size ≤ w8.heap.size from hq_.size)
  have hn_ := Aside0.mk (below_then HB.out HB.out.size hq_)
  clear HB
  have HB := hn_
  clear hn_
  have HA12 := Aside0.mk (show w.heap.size ≤ w8.heap.size from HB.out.size)
  clear hq_
  clear hb
  have F13 := Aside0.mk (Lk.newR (b := w3.heap.size) (base := w.heap.size) (Sep := fun k_ => True) rfl f10 (HA5.out) (fun k_ hk_ => hk_))
  clear f10
  obtain ⟨A14, c15, e_⟩ := Kd.R_slice F13.out
  subst e_
  go_wp2_with fail
  refine (spec_LineTree.calls k _ _ t6 t16 t17 t18 _ (Lk.Rr F13.out).2 (Lk.Rr F13.out).1 H19.out).mono ?_
  rintro e_ w20 ⟨v21, v22, rfl, f23, f24, hb⟩
  have hq_ : Below w8.heap.size w8 w20 := ⟨hb.os, hb.tape, hb.output, hb.size, hb.block⟩
  have HZ25 := Aside0.mk (show w8.heap.size ≤ w20.heap.size from hq_.size)
  have hn_ := Aside0.mk (below_then HB.out HB.out.size hq_)
  clear HB
  have HB := hn_
  clear hn_
  have HA26 := Aside0.mk (show w.heap.size ≤ w20.heap.size from HB.out.size)
  have hn_ := Aside0.mk (Kd.R_below F13.out hq_)
  clear F13
  have F13 := hn_
  clear hn_
  clear hq_
  clear hb
  have F27 := Aside0.mk (Lk.newR (b := w8.heap.size) (base := w.heap.size) (Sep := fun k_ => True) rfl f23 (HA12.out) (fun k_ hk_ => hk_))
  clear f23
  have F30 := Aside0.mk (Lk.newR (b := w8.heap.size) (base := w.heap.size) (Sep := fun k_ => True) rfl f24 (HA12.out) (fun k_ hk_ => hk_))
  clear f24
  obtain ⟨A28, c29, e_⟩ := Kd.R_slice F27.out
  subst e_
  obtain ⟨A31, c32, e_⟩ := Kd.R_slice F30.out
  subst e_
  go_wp2_with (first | ((with_reducible refine gate_dst (N := 4) rfl ?_); refine box_event ?hg (N := 4) ?hd (cs := #[.slice none 0 0, .slice none 0 0]) (t := 38) ?hr ?_; (case hd => rfl); (case hg => rfl); (case hr => first | (go_simp; done) | (go_simp; rfl)); intro gb34 hg_ w37 hx_ hb; have hg2_ : gb34 = w20.heap.size := hg_; have hq_ : Below w20.heap.size w20 w37 := ⟨hb.os, hb.tape, hb.output, hb.size, hb.block⟩; have HZ38 := Aside0.mk (show w20.heap.size ≤ w37.heap.size from hq_.size); have hn_ := Aside0.mk (below_then HB.out HB.out.size hq_); clear HB; have HB := hn_; clear hn_; have HA39 := Aside0.mk (show w.heap.size ≤ w37.heap.size from HB.out.size); have hn_ := Aside0.mk (Kd.R_below F13.out hq_); clear F13; have F13 := hn_; clear hn_; have hn_ := Aside0.mk (Kd.R_below F27.out hq_); clear F27; have F27 := hn_; clear hn_; have hn_ := Aside0.mk (Kd.R_below F30.out hq_); clear F30; have F30 := hn_; clear hn_; clear hq_; have BK35 := Aside0.mk hx_; have GQ36 := Aside0.mk (show w20.heap.size ≤ gb34 ∧ gb34 < w37.heap.size from ⟨Nat.le_of_eq hg2_.symm, blk_lt hx_⟩); clear hb hg_ hg2_ hx_; have hczb33_0 : w37.cell? ⟨gb34, 0, none⟩ = some (.slice none 0 0) := (blk_cell BK35.out 0).trans rfl; have hfzb33_0 := blk_frozen BK35.out 0; have hczb33_1 : w37.cell? ⟨gb34, 1, none⟩ = some (.slice none 0 0) := (blk_cell BK35.out 1).trans rfl; have hfzb33_1 := blk_frozen BK35.out 1) | ((with_reducible refine gate_store (t := 38) (p := 4) rfl ?_); refine store_event (t := 38) (p := 4) (v := ?vo_w40) (w1 := ((w37.setCell ⟨gb34, 0, none⟩ (.slice A28 t16.length c29)).setCell ⟨gb34, 1, none⟩ (.slice A31 t17.length c32))) ?hg ?ho ?hn ?hr ?_; (case ho => rfl); (case hg => rfl); (case hn => rfl); (case hr => first | (go_simp; done) | (go_simp; rfl)); intro w40 hw_; have hx_ : w40.heap[gb34]? = some (.cells #[(.slice A28 t16.length c29), (.slice A31 t17.length c32)] 38 (0, 0)) := (by rw [hw_]; exact Lk.filled (us := [(.slice A28 t16.length c29), (.slice A31 t17.length c32)]) BK35.out rfl); have hk2_ : Kept w37 w40 (fun k_ => k_ = gb34) := (by rw [hw_]; exact Lk.fill_kept [(.slice A28 t16.length c29), (.slice A31 t17.length c32)] 0 w37); have hB_ := Aside0.mk (show Below w.heap.size w w40 by rw [hw_]; exact Lk.fill_below [(.slice A28 t16.length c29), (.slice A31 t17.length c32)] 0 w w37 HB.out (by skip; have := HA26.out; have := GQ36.out; omega)); clear HB; have HB := hB_; clear hB_; have HZ41 := Aside0.mk (show w37.heap.size ≤ w40.heap.size from hk2_.1); have HA42 := Aside0.mk (show w.heap.size ≤ w40.heap.size from HB.out.size); have hn_ := Aside0.mk (Kd.R_kept F13.out hk2_ (fun k_ h1_ h2_ => by skip; have := HZ25.out; have := GQ36.out; have h3_ := h1_.1; omega)); clear F13; have F13 := hn_; clear hn_; have hn_ := Aside0.mk (Kd.R_kept F27.out hk2_ (fun k_ h1_ h2_ => by skip; have := GQ36.out; have h3_ := h1_.1; omega)); clear F27; have F27 := hn_; clear hn_; have hn_ := Aside0.mk (Kd.R_kept F30.out hk2_ (fun k_ h1_ h2_ => by skip; have := GQ36.out; have h3_ := h1_.1; omega)); clear F30; have F30 := hn_; clear hn_; clear hczb33_0 hfzb33_0; clear hczb33_1 hfzb33_1; clear BK35; have BK35 := Aside0.mk hx_; clear hk2_ hx_ hw_; have hczb33_0 : w40.cell? ⟨gb34, 0, none⟩ = some (.slice A28 t16.length c29) := (blk_cell BK35.out 0).trans rfl; have hfzb33_0 := blk_frozen BK35.out 0; have hczb33_1 : w40.cell? ⟨gb34, 1, none⟩ = some (.slice A31 t17.length c32) := (blk_cell BK35.out 1).trans rfl; have hfzb33_1 := blk_frozen BK35.out 1))
  refine (laws_toXCellS.calls k _ _ l0 t43 _ (Kd.C_below HR0.out HB.out) HC0.out H44.out).mono ?_
  rintro e_ w45 ⟨v46, rfl, f47, hb⟩
  have hq_ : Below w40.heap.size w40 w45 := ⟨hb.os, hb.tape, hb.output, hb.size, hb.block⟩
  have HZ48 := Aside0.mk (show w40.heap.size ≤ w45.heap.size from hq_.size)
  have hn_ := Aside0.mk (below_then HB.out HB.out.size hq_)
  clear HB
  have HB := hn_
  clear hn_
  have HA49 := Aside0.mk (show w.heap.size ≤ w45.heap.size from HB.out.size)
  have hn_ := Aside0.mk (Kd.R_below F13.out hq_)
  clear F13
  have F13 := hn_
  clear hn_
  have hn_ := Aside0.mk (Kd.R_below F27.out hq_)
  clear F27
  have F27 := hn_
  clear hn_
  have hn_ := Aside0.mk (Kd.R_below F30.out hq_)
  clear F30
  have F30 := hn_
  clear hn_
  have hn_ := Aside0.mk (blk_below BK35.out hq_)
  clear hczb33_0 hfzb33_0; clear hczb33_1 hfzb33_1
  clear BK35
  have BK35 := hn_
  clear hn_
  clear hq_
  have hczb33_0 : w45.cell? ⟨gb34, 0, none⟩ = some (.slice A28 t16.length c29) := (blk_cell BK35.out 0).trans rfl; have hfzb33_0 := blk_frozen BK35.out 0; have hczb33_1 : w45.cell? ⟨gb34, 1, none⟩ = some (.slice A31 t17.length c32) := (blk_cell BK35.out 1).trans rfl; have hfzb33_1 := blk_frozen BK35.out 1
  clear hb
  have F50 := Aside0.mk (Lk.newR (b := w40.heap.size) (base := w.heap.size) (Sep := fun k_ => True) rfl f47 (HA42.out) (fun k_ hk_ => hk_))
  clear f47
  obtain ⟨A51, c52, e_⟩ := Kd.R_slice F50.out
  subst e_
  go_wp2_with fail
  refine (impl_LineTree.calls k _ _ t43 t53 t54 t18 _ (Lk.Rr F50.out).2 (Lk.Rr F50.out).1 H56.out).mono ?_
  rintro e_ w57 ⟨v58, v59, rfl, f60, f61, hb⟩
  have hq_ : Below w45.heap.size w45 w57 := ⟨hb.os, hb.tape, hb.output, hb.size, hb.block⟩
  have HZ62 := Aside0.mk (show w45.heap.size ≤ w57.heap.size from hq_.size)
  have hn_ := Aside0.mk (below_then HB.out HB.out.size hq_)
  clear HB
  have HB := hn_
  clear hn_
  have HA63 := Aside0.mk (show w.heap.size ≤ w57.heap.size from HB.out.size)
  have hn_ := Aside0.mk (Kd.R_below F13.out hq_)
  clear F13
  have F13 := hn_
  clear hn_
  have hn_ := Aside0.mk (Kd.R_below F27.out hq_)
  clear F27
  have F27 := hn_
  clear hn_
  have hn_ := Aside0.mk (Kd.R_below F30.out hq_)
  clear F30
  have F30 := hn_
  clear hn_
  have hn_ := Aside0.mk (Kd.R_below F50.out hq_)
  clear F50
  have F50 := hn_
  clear hn_
  have hn_ := Aside0.mk (blk_below BK35.out hq_)
  clear hczb33_0 hfzb33_0; clear hczb33_1 hfzb33_1
  clear BK35
  have BK35 := hn_
  clear hn_
  clear hq_
  have hczb33_0 : w57.cell? ⟨gb34, 0, none⟩ = some (.slice A28 t16.length c29) := (blk_cell BK35.out 0).trans rfl; have hfzb33_0 := blk_frozen BK35.out 0; have hczb33_1 : w57.cell? ⟨gb34, 1, none⟩ = some (.slice A31 t17.length c32) := (blk_cell BK35.out 1).trans rfl; have hfzb33_1 := blk_frozen BK35.out 1
  clear hb
  have F64 := Aside0.mk (Lk.newR (b := w45.heap.size) (base := w.heap.size) (Sep := fun k_ => True) rfl f60 (HA49.out) (fun k_ hk_ => hk_))
  clear f60
  have F67 := Aside0.mk (Lk.newR (b := w45.heap.size) (base := w.heap.size) (Sep := fun k_ => True) rfl f61 (HA49.out) (fun k_ hk_ => hk_))
  clear f61
  obtain ⟨A65, c66, e_⟩ := Kd.R_slice F64.out
  subst e_
  obtain ⟨A68, c69, e_⟩ := Kd.R_slice F67.out
  subst e_
  go_wp2_with (first | ((with_reducible refine gate_dst (N := 7) rfl ?_); refine box_event ?hg (N := 7) ?hd (cs := #[.slice none 0 0, .slice none 0 0]) (t := 38) ?hr ?_; (case hd => rfl); (case hg => rfl); (case hr => first | (go_simp; done) | (go_simp; rfl)); intro gb71 hg_ w74 hx_ hb; have hg2_ : gb71 = w57.heap.size := hg_; have hq_ : Below w57.heap.size w57 w74 := ⟨hb.os, hb.tape, hb.output, hb.size, hb.block⟩; have HZ75 := Aside0.mk (show w57.heap.size ≤ w74.heap.size from hq_.size); have hn_ := Aside0.mk (below_then HB.out HB.out.size hq_); clear HB; have HB := hn_; clear hn_; have HA76 := Aside0.mk (show w.heap.size ≤ w74.heap.size from HB.out.size); have hn_ := Aside0.mk (Kd.R_below F13.out hq_); clear F13; have F13 := hn_; clear hn_; have hn_ := Aside0.mk (Kd.R_below F27.out hq_); clear F27; have F27 := hn_; clear hn_; have hn_ := Aside0.mk (Kd.R_below F30.out hq_); clear F30; have F30 := hn_; clear hn_; have hn_ := Aside0.mk (Kd.R_below F50.out hq_); clear F50; have F50 := hn_; clear hn_; have hn_ := Aside0.mk (Kd.R_below F64.out hq_); clear F64; have F64 := hn_; clear hn_; have hn_ := Aside0.mk (Kd.R_below F67.out hq_); clear F67; have F67 := hn_; clear hn_; have hn_ := Aside0.mk (blk_below BK35.out hq_); clear hczb33_0 hfzb33_0; clear hczb33_1 hfzb33_1; clear BK35; have BK35 := hn_; clear hn_; clear hq_; have hczb33_0 : w74.cell? ⟨gb34, 0, none⟩ = some (.slice A28 t16.length c29) := (blk_cell BK35.out 0).trans rfl; have hfzb33_0 := blk_frozen BK35.out 0; have hczb33_1 : w74.cell? ⟨gb34, 1, none⟩ = some (.slice A31 t17.length c32) := (blk_cell BK35.out 1).trans rfl; have hfzb33_1 := blk_frozen BK35.out 1; have BK72 := Aside0.mk hx_; have GQ73 := Aside0.mk (show w57.heap.size ≤ gb71 ∧ gb71 < w74.heap.size from ⟨Nat.le_of_eq hg2_.symm, blk_lt hx_⟩); clear hb hg_ hg2_ hx_; have hczb70_0 : w74.cell? ⟨gb71, 0, none⟩ = some (.slice none 0 0) := (blk_cell BK72.out 0).trans rfl; have hfzb70_0 := blk_frozen BK72.out 0; have hczb70_1 : w74.cell? ⟨gb71, 1, none⟩ = some (.slice none 0 0) := (blk_cell BK72.out 1).trans rfl; have hfzb70_1 := blk_frozen BK72.out 1) | ((with_reducible refine gate_store (t := 38) (p := 7) rfl ?_); refine store_event (t := 38) (p := 7) (v := ?vo_w77) (w1 := ((w74.setCell ⟨gb71, 0, none⟩ (.slice A65 t53.length c66)).setCell ⟨gb71, 1, none⟩ (.slice A68 t54.length c69))) ?hg ?ho ?hn ?hr ?_; (case ho => rfl); (case hg => rfl); (case hn => rfl); (case hr => first | (go_simp; done) | (go_simp; rfl)); intro w77 hw_; have hx_ : w77.heap[gb71]? = some (.cells #[(.slice A65 t53.length c66), (.slice A68 t54.length c69)] 38 (0, 0)) := (by rw [hw_]; exact Lk.filled (us := [(.slice A65 t53.length c66), (.slice A68 t54.length c69)]) BK72.out rfl); have hk2_ : Kept w74 w77 (fun k_ => k_ = gb71) := (by rw [hw_]; exact Lk.fill_kept [(.slice A65 t53.length c66), (.slice A68 t54.length c69)] 0 w74); have hB_ := Aside0.mk (show Below w.heap.size w w77 by rw [hw_]; exact Lk.fill_below [(.slice A65 t53.length c66), (.slice A68 t54.length c69)] 0 w w74 HB.out (by skip; have := HA63.out; have := GQ73.out; omega)); clear HB; have HB := hB_; clear hB_; have HZ78 := Aside0.mk (show w74.heap.size ≤ w77.heap.size from hk2_.1); have HA79 := Aside0.mk (show w.heap.size ≤ w77.heap.size from HB.out.size); have hn_ := Aside0.mk (Kd.R_kept F13.out hk2_ (fun k_ h1_ h2_ => by skip; have := HZ25.out; have := HZ38.out; have := HZ41.out; have := HZ48.out; have := HZ62.out; have := GQ73.out; have h3_ := h1_.1; omega)); clear F13; have F13 := hn_; clear hn_; have hn_ := Aside0.mk (Kd.R_kept F27.out hk2_ (fun k_ h1_ h2_ => by skip; have := HZ38.out; have := HZ41.out; have := HZ48.out; have := HZ62.out; have := GQ73.out; have h3_ := h1_.1; omega)); clear F27; have F27 := hn_; clear hn_; have hn_ := Aside0.mk (Kd.R_kept F30.out hk2_ (fun k_ h1_ h2_ => by skip; have := HZ38.out; have := HZ41.out; have := HZ48.out; have := HZ62.out; have := GQ73.out; have h3_ := h1_.1; omega)); clear F30; have F30 := hn_; clear hn_; have hn_ := Aside0.mk (Kd.R_kept F50.out hk2_ (fun k_ h1_ h2_ => by skip; have := HZ62.out; have := GQ73.out; have h3_ := h1_.1; omega)); clear F50; have F50 := hn_; clear hn_; have hn_ := Aside0.mk (Kd.R_kept F64.out hk2_ (fun k_ h1_ h2_ => by skip; have := GQ73.out; have h3_ := h1_.1; omega)); clear F64; have F64 := hn_; clear hn_; have hn_ := Aside0.mk (Kd.R_kept F67.out hk2_ (fun k_ h1_ h2_ => by skip; have := GQ73.out; have h3_ := h1_.1; omega)); clear F67; have F67 := hn_; clear hn_; clear hczb33_0 hfzb33_0; clear hczb33_1 hfzb33_1; have hn_ := Aside0.mk (blk_kept BK35.out hk2_ (fun h_ => by skip; have := HZ41.out; have := HZ48.out; have := HZ62.out; have := GQ73.out; have := GQ36.out; omega)); clear BK35; have BK35 := hn_; clear hn_; clear hczb70_0 hfzb70_0; clear hczb70_1 hfzb70_1; clear BK72; have BK72 := Aside0.mk hx_; clear hk2_ hx_ hw_; have hczb33_0 : w77.cell? ⟨gb34, 0, none⟩ = some (.slice A28 t16.length c29) := (blk_cell BK35.out 0).trans rfl; have hfzb33_0 := blk_frozen BK35.out 0; have hczb33_1 : w77.cell? ⟨gb34, 1, none⟩ = some (.slice A31 t17.length c32) := (blk_cell BK35.out 1).trans rfl; have hfzb33_1 := blk_frozen BK35.out 1; have hczb70_0 : w77.cell? ⟨gb71, 0, none⟩ = some (.slice A65 t53.length c66) := (blk_cell BK72.out 0).trans rfl; have hfzb70_0 := blk_frozen BK72.out 0; have hczb70_1 : w77.cell? ⟨gb71, 1, none⟩ = some (.slice A68 t54.length c69) := (blk_cell BK72.out 1).trans rfl; have hfzb70_1 := blk_frozen BK72.out 1))
  refine (laws_eqLined.calls k _ _ t53 _ _ t54 _ _ t16 _ _ t17 true _ (Lk.Rr F64.out).2 (Lk.Rr F64.out).1 (Lk.Rr F67.out).2 (Lk.Rr F67.out).1 (Lk.Rr F27.out).2 (Lk.Rr F27.out).1 (Lk.Rr F30.out).2 (Lk.Rr F30.out).1 H81.out).mono ?_
  rintro e_ w82 ⟨rfl, hb⟩
  have hq_ : Below w77.heap.size w77 w82 := ⟨hb.os, hb.tape, hb.output, hb.size, hb.block⟩
  have HZ83 := Aside0.mk (show w77.heap.size ≤ w82.heap.size from hq_.size)
  have hn_ := Aside0.mk (below_then HB.out HB.out.size hq_)
  clear HB
  have HB := hn_
  clear hn_
  have HA84 := Aside0.mk (show w.heap.size ≤ w82.heap.size from HB.out.size)
  have hn_ := Aside0.mk (Kd.R_below F13.out hq_)
  clear F13
  have F13 := hn_
  clear hn_
  have hn_ := Aside0.mk (Kd.R_below F27.out hq_)
  clear F27
  have F27 := hn_
  clear hn_
  have hn_ := Aside0.mk (Kd.R_below F30.out hq_)
  clear F30
  have F30 := hn_
  clear hn_
  have hn_ := Aside0.mk (Kd.R_below F50.out hq_)
  clear F50
  have F50 := hn_
  clear hn_
  have hn_ := Aside0.mk (Kd.R_below F64.out hq_)
  clear F64
  have F64 := hn_
  clear hn_
  have hn_ := Aside0.mk (Kd.R_below F67.out hq_)
  clear F67
  have F67 := hn_
  clear hn_
  have hn_ := Aside0.mk (blk_below BK35.out hq_)
  clear hczb33_0 hfzb33_0; clear hczb33_1 hfzb33_1
  clear BK35
  have BK35 := hn_
  clear hn_
  have hn_ := Aside0.mk (blk_below BK72.out hq_)
  clear hczb70_0 hfzb70_0; clear hczb70_1 hfzb70_1
  clear BK72
  have BK72 := hn_
  clear hn_
  clear hq_
  have hczb33_0 : w82.cell? ⟨gb34, 0, none⟩ = some (.slice A28 t16.length c29) := (blk_cell BK35.out 0).trans rfl; have hfzb33_0 := blk_frozen BK35.out 0; have hczb33_1 : w82.cell? ⟨gb34, 1, none⟩ = some (.slice A31 t17.length c32) := (blk_cell BK35.out 1).trans rfl; have hfzb33_1 := blk_frozen BK35.out 1
  have hczb70_0 : w82.cell? ⟨gb71, 0, none⟩ = some (.slice A65 t53.length c66) := (blk_cell BK72.out 0).trans rfl; have hfzb70_0 := blk_frozen BK72.out 0; have hczb70_1 : w82.cell? ⟨gb71, 1, none⟩ = some (.slice A68 t54.length c69) := (blk_cell BK72.out 1).trans rfl; have hfzb70_1 := blk_frozen BK72.out 1
  clear hb
  go_wp2_with fail
  refine (laws_toXCellS.calls k _ _ l0 t85 _ (Kd.C_below HR0.out HB.out) HC0.out H86.out).mono ?_
  rintro e_ w87 ⟨v88, rfl, f89, hb⟩
  have hq_ : Below w82.heap.size w82 w87 := ⟨hb.os, hb.tape, hb.output, hb.size, hb.block⟩
  have HZ90 := Aside0.mk (show w82.heap.size ≤ w87.heap.size from hq_.size)
  have hn_ := Aside0.mk (below_then HB.out HB.out.size hq_)
  clear HB
  have HB := hn_
  clear hn_
  have HA91 := Aside0.mk (show w.heap.size ≤ w87.heap.size from HB.out.size)
  have hn_ := Aside0.mk (Kd.R_below F13.out hq_)
  clear F13
  have F13 := hn_
  clear hn_
  have hn_ := Aside0.mk (Kd.R_below F27.out hq_)
  clear F27
  have F27 := hn_
  clear hn_
  have hn_ := Aside0.mk (Kd.R_below F30.out hq_)
  clear F30
  have F30 := hn_
  clear hn_
  have hn_ := Aside0.mk (Kd.R_below F50.out hq_)
  clear F50
  have F50 := hn_
  clear hn_
  have hn_ := Aside0.mk (Kd.R_below F64.out hq_)
  clear F64
  have F64 := hn_
  clear hn_
  have hn_ := Aside0.mk (Kd.R_below F67.out hq_)
  clear F67
  have F67 := hn_
  clear hn_
  have hn_ := Aside0.mk (blk_below BK35.out hq_)
  clear hczb33_0 hfzb33_0; clear hczb33_1 hfzb33_1
  clear BK35
  have BK35 := hn_
  clear hn_
  have hn_ := Aside0.mk (blk_below BK72.out hq_)
  clear hczb70_0 hfzb70_0; clear hczb70_1 hfzb70_1
  clear BK72
  have BK72 := hn_
  clear hn_
  clear hq_
  have hczb33_0 : w87.cell? ⟨gb34, 0, none⟩ = some (.slice A28 t16.length c29) := (blk_cell BK35.out 0).trans rfl; have hfzb33_0 := blk_frozen BK35.out 0; have hczb33_1 : w87.cell? ⟨gb34, 1, none⟩ = some (.slice A31 t17.length c32) := (blk_cell BK35.out 1).trans rfl; have hfzb33_1 := blk_frozen BK35.out 1
  have hczb70_0 : w87.cell? ⟨gb71, 0, none⟩ = some (.slice A65 t53.length c66) := (blk_cell BK72.out 0).trans rfl; have hfzb70_0 := blk_frozen BK72.out 0; have hczb70_1 : w87.cell? ⟨gb71, 1, none⟩ = some (.slice A68 t54.length c69) := (blk_cell BK72.out 1).trans rfl; have hfzb70_1 := blk_frozen BK72.out 1
  clear hb
  have F92 := Aside0.mk (Lk.newR (b := w82.heap.size) (base := w.heap.size) (Sep := fun k_ => True) rfl f89 (HA84.out) (fun k_ hk_ => hk_))
  clear f89
  obtain ⟨A93, c94, e_⟩ := Kd.R_slice F92.out
  subst e_
  go_wp2_with fail
  refine (laws_eqXCellS.calls k _ _ t43 _ _ t85 true _ (Lk.Rr F50.out).2 (Lk.Rr F50.out).1 (Lk.Rr F92.out).2 (Lk.Rr F92.out).1 H96.out).mono ?_
  rintro e_ w97 ⟨rfl, hb⟩
  have hq_ : Below w87.heap.size w87 w97 := ⟨hb.os, hb.tape, hb.output, hb.size, hb.block⟩
  have HZ98 := Aside0.mk (show w87.heap.size ≤ w97.heap.size from hq_.size)
  have hn_ := Aside0.mk (below_then HB.out HB.out.size hq_)
  clear HB
  have HB := hn_
  clear hn_
  have HA99 := Aside0.mk (show w.heap.size ≤ w97.heap.size from HB.out.size)
  have hn_ := Aside0.mk (Kd.R_below F13.out hq_)
  clear F13
  have F13 := hn_
  clear hn_
  have hn_ := Aside0.mk (Kd.R_below F27.out hq_)
  clear F27
  have F27 := hn_
  clear hn_
  have hn_ := Aside0.mk (Kd.R_below F30.out hq_)
  clear F30
  have F30 := hn_
  clear hn_
  have hn_ := Aside0.mk (Kd.R_below F50.out hq_)
  clear F50
  have F50 := hn_
  clear hn_
  have hn_ := Aside0.mk (Kd.R_below F64.out hq_)
  clear F64
  have F64 := hn_
  clear hn_
  have hn_ := Aside0.mk (Kd.R_below F67.out hq_)
  clear F67
  have F67 := hn_
  clear hn_
  have hn_ := Aside0.mk (Kd.R_below F92.out hq_)
  clear F92
  have F92 := hn_
  clear hn_
  have hn_ := Aside0.mk (blk_below BK35.out hq_)
  clear hczb33_0 hfzb33_0; clear hczb33_1 hfzb33_1
  clear BK35
  have BK35 := hn_
  clear hn_
  have hn_ := Aside0.mk (blk_below BK72.out hq_)
  clear hczb70_0 hfzb70_0; clear hczb70_1 hfzb70_1
  clear BK72
  have BK72 := hn_
  clear hn_
  clear hq_
  have hczb33_0 : w97.cell? ⟨gb34, 0, none⟩ = some (.slice A28 t16.length c29) := (blk_cell BK35.out 0).trans rfl; have hfzb33_0 := blk_frozen BK35.out 0; have hczb33_1 : w97.cell? ⟨gb34, 1, none⟩ = some (.slice A31 t17.length c32) := (blk_cell BK35.out 1).trans rfl; have hfzb33_1 := blk_frozen BK35.out 1
  have hczb70_0 : w97.cell? ⟨gb71, 0, none⟩ = some (.slice A65 t53.length c66) := (blk_cell BK72.out 0).trans rfl; have hfzb70_0 := blk_frozen BK72.out 0; have hczb70_1 : w97.cell? ⟨gb71, 1, none⟩ = some (.slice A68 t54.length c69) := (blk_cell BK72.out 1).trans rfl; have hfzb70_1 := blk_frozen BK72.out 1
  clear hb
  go_wp2_with fail
  refine (laws_markXCellS.calls k (fun k_ => (w40.heap.size ≤ k_ ∧ k_ < w45.heap.size) ∧ some k_ = (.slice A51 t43.length c52 : Value).ownBlock ∧ (True)) _ t43 1 t101 t102 w _ HB.out F50.out H103.out).mono ?_
  rintro e_ w100 ⟨rfl, f0_, hb0_, hk_⟩
  have hk2_ : Kept w97 w100 (fun k_ => w40.heap.size ≤ k_ ∧ k_ < w45.heap.size) := Kept.mono hk_ (fun k_ h_ => by first | exact h_ | exact h_.1)
  have HZ105 := Aside0.mk (show w97.heap.size ≤ w100.heap.size from hk2_.1)
  clear HB
  have HB := Aside0.mk hb0_
  have hn_ := Aside0.mk (Kd.R_kept F13.out hk2_ (fun k_ h1_ h2_ => by skip; have := HZ25.out; have := HZ38.out; have := HZ41.out; have h3_ := h1_.1; omega))
  clear F13
  have F13 := hn_
  clear hn_
  have hn_ := Aside0.mk (Kd.R_kept F27.out hk2_ (fun k_ h1_ h2_ => by skip; have := HZ38.out; have := HZ41.out; have h3_ := h1_.1; omega))
  clear F27
  have F27 := hn_
  clear hn_
  have hn_ := Aside0.mk (Kd.R_kept F30.out hk2_ (fun k_ h1_ h2_ => by skip; have := HZ38.out; have := HZ41.out; have h3_ := h1_.1; omega))
  clear F30
  have F30 := hn_
  clear hn_
  have hn_ := Aside0.mk (Kd.R_kept F64.out hk2_ (fun k_ h1_ h2_ => by skip; have h3_ := h1_.1; omega))
  clear F64
  have F64 := hn_
  clear hn_
  have hn_ := Aside0.mk (Kd.R_kept F67.out hk2_ (fun k_ h1_ h2_ => by skip; have h3_ := h1_.1; omega))
  clear F67
  have F67 := hn_
  clear hn_
  have hn_ := Aside0.mk (Kd.R_kept F92.out hk2_ (fun k_ h1_ h2_ => by skip; have := HZ62.out; have := HZ75.out; have := HZ78.out; have := HZ83.out; have h3_ := h1_.1; omega))
  clear F92
  have F92 := hn_
  clear hn_
  have hn_ := Aside0.mk (Lk.markedR rfl f0_ (fun k_ e_ => (show (w40.heap.size ≤ k_ ∧ k_ < w45.heap.size) ∧ some k_ = (.slice A51 t43.length c52 : Value).ownBlock ∧ (True) from (F50.out.1 k_ e_.symm))))
  have F50n := hn_
  clear hn_
  clear F50
  have F50 := F50n
  clear F50n
  have hn_ := Aside0.mk (blk_kept BK35.out hk2_ (fun h_ => by skip; have := HZ41.out; have := GQ36.out; omega))
  clear hczb33_0 hfzb33_0; clear hczb33_1 hfzb33_1
  clear BK35
  have BK35 := hn_
  clear hn_
  have hn_ := Aside0.mk (blk_kept BK72.out hk2_ (fun h_ => by skip; have := HZ62.out; have := GQ73.out; omega))
  clear hczb70_0 hfzb70_0; clear hczb70_1 hfzb70_1
  clear BK72
  have BK72 := hn_
  clear hn_
  clear hk2_ hk_ hb0_ f0_
  have hczb33_0 : w100.cell? ⟨gb34, 0, none⟩ = some (.slice A28 t16.length c29) := (blk_cell BK35.out 0).trans rfl; have hfzb33_0 := blk_frozen BK35.out 0; have hczb33_1 : w100.cell? ⟨gb34, 1, none⟩ = some (.slice A31 t17.length c32) := (blk_cell BK35.out 1).trans rfl; have hfzb33_1 := blk_frozen BK35.out 1
  have hczb70_0 : w100.cell? ⟨gb71, 0, none⟩ = some (.slice A65 t53.length c66) := (blk_cell BK72.out 0).trans rfl; have hfzb70_0 := blk_frozen BK72.out 0; have hczb70_1 : w100.cell? ⟨gb71, 1, none⟩ = some (.slice A68 t54.length c69) := (blk_cell BK72.out 1).trans rfl; have hfzb70_1 := blk_frozen BK72.out 1
  have hl106 := (Kd.R_reads' F50.out).1
  have HL106 := Aside0.mk hl106
  clear hl106
  have hn1_ : decide (t101 < 0) = false := decide_eq_false (by have := H104.out; omega)
  have hd107 := hn1_
  clear hn1_
  go_wp2_with fail
  refine (laws_eqLined.calls k _ _ t53 _ _ t54 _ _ t16 _ _ t17 true _ (Lk.Rr F64.out).2 (Lk.Rr F64.out).1 (Lk.Rr F67.out).2 (Lk.Rr F67.out).1 (Lk.Rr F27.out).2 (Lk.Rr F27.out).1 (Lk.Rr F30.out).2 (Lk.Rr F30.out).1 H109.out).mono ?_
  rintro e_ w110 ⟨rfl, hb⟩
  have hq_ : Below w100.heap.size w100 w110 := ⟨hb.os, hb.tape, hb.output, hb.size, hb.block⟩
  have HZ111 := Aside0.mk (show w100.heap.size ≤ w110.heap.size from hq_.size)
  have hn_ := Aside0.mk (below_then HB.out HB.out.size hq_)
  clear HB
  have HB := hn_
  clear hn_
  have HA112 := Aside0.mk (show w.heap.size ≤ w110.heap.size from HB.out.size)
  have hn_ := Aside0.mk (Kd.R_below F13.out hq_)
  clear F13
  have F13 := hn_
  clear hn_
  have hn_ := Aside0.mk (Kd.R_below F27.out hq_)
  clear F27
  have F27 := hn_
  clear hn_
  have hn_ := Aside0.mk (Kd.R_below F30.out hq_)
  clear F30
  have F30 := hn_
  clear hn_
  have hn_ := Aside0.mk (Kd.R_below F50.out hq_)
  clear F50
  have F50 := hn_
  clear hn_
  have hn_ := Aside0.mk (Kd.R_below F64.out hq_)
  clear F64
  have F64 := hn_
  clear hn_
  have hn_ := Aside0.mk (Kd.R_below F67.out hq_)
  clear F67
  have F67 := hn_
  clear hn_
  have hn_ := Aside0.mk (Kd.R_below F92.out hq_)
  clear F92
  have F92 := hn_
  clear hn_
  have hn_ := Aside0.mk (blk_below BK35.out hq_)
  clear hczb33_0 hfzb33_0; clear hczb33_1 hfzb33_1
  clear BK35
  have BK35 := hn_
  clear hn_
  have hn_ := Aside0.mk (blk_below BK72.out hq_)
  clear hczb70_0 hfzb70_0; clear hczb70_1 hfzb70_1
  clear BK72
  have BK72 := hn_
  clear hn_
  clear hq_
  have hczb33_0 : w110.cell? ⟨gb34, 0, none⟩ = some (.slice A28 t16.length c29) := (blk_cell BK35.out 0).trans rfl; have hfzb33_0 := blk_frozen BK35.out 0; have hczb33_1 : w110.cell? ⟨gb34, 1, none⟩ = some (.slice A31 t17.length c32) := (blk_cell BK35.out 1).trans rfl; have hfzb33_1 := blk_frozen BK35.out 1
  have hczb70_0 : w110.cell? ⟨gb71, 0, none⟩ = some (.slice A65 t53.length c66) := (blk_cell BK72.out 0).trans rfl; have hfzb70_0 := blk_frozen BK72.out 0; have hczb70_1 : w110.cell? ⟨gb71, 1, none⟩ = some (.slice A68 t54.length c69) := (blk_cell BK72.out 1).trans rfl; have hfzb70_1 := blk_frozen BK72.out 1
  clear hb
  go_wp2_with fail
  have hn_ := H114.out
  have hn2_ := Aside0.mk (show Kd.R k86 86 w110 w.heap.size (fun k_ => (w45.heap.size ≤ k_ ∧ k_ < w57.heap.size) ∧ some k_ = (.slice A65 t53.length c66 : Value).ownBlock ∧ (some k_ ≠ (.slice A68 t54.length c69 : Value).ownBlock)) (.slice A65 t53.length c66) t53 from Kd.R_mono (Kd.R_apart' F64.out (Kd.R_typed F67.out) (by decide)) (fun k_ hk_ => ⟨hk_.1.1, hk_.1.2.1, hk_.2⟩))
  have F64q := hn2_
  clear hn2_
  have hn2_ := Aside0.mk (show Kd.R k63 63 w110 w.heap.size (fun k_ => (w45.heap.size ≤ k_ ∧ k_ < w57.heap.size) ∧ some k_ = (.slice A68 t54.length c69 : Value).ownBlock ∧ (some k_ ≠ (.slice A65 t53.length c66 : Value).ownBlock)) (.slice A68 t54.length c69) t54 from Kd.R_mono (Kd.R_apart' F67.out (Kd.R_typed F64.out) (by decide)) (fun k_ hk_ => ⟨hk_.1.1, hk_.1.2.1, hk_.2⟩))
  have F67q := hn2_
  clear hn2_
  clear F64
  have F64 := F64q
  clear F64q
  clear F67
  have F67 := F67q
  clear F67q
  refine (laws_markLined.calls (fun k_ => w45.heap.size ≤ k_ ∧ k_ < w57.heap.size) _ t53 _ t54 1 w _ HB.out F64.out F67.out (by omega) hn_).mono ?_
  rintro e_ w113 ⟨rfl, f0_, f1_, hb0_, hk_⟩
  have hk2_ : Kept w110 w113 (fun k_ => w45.heap.size ≤ k_ ∧ k_ < w57.heap.size) := Kept.mono hk_ (fun k_ h_ => by first | exact h_ | exact h_.1)
  have HZ115 := Aside0.mk (show w110.heap.size ≤ w113.heap.size from hk2_.1)
  clear HB
  have HB := Aside0.mk hb0_
  have hn_ := Aside0.mk (Kd.R_kept F13.out hk2_ (fun k_ h1_ h2_ => by skip; have := HZ25.out; have := HZ38.out; have := HZ41.out; have := HZ48.out; have h3_ := h1_.1; omega))
  clear F13
  have F13 := hn_
  clear hn_
  have hn_ := Aside0.mk (Kd.R_kept F27.out hk2_ (fun k_ h1_ h2_ => by skip; have := HZ38.out; have := HZ41.out; have := HZ48.out; have h3_ := h1_.1; omega))
  clear F27
  have F27 := hn_
  clear hn_
  have hn_ := Aside0.mk (Kd.R_kept F30.out hk2_ (fun k_ h1_ h2_ => by skip; have := HZ38.out; have := HZ41.out; have := HZ48.out; have h3_ := h1_.1; omega))
  clear F30
  have F30 := hn_
  clear hn_
  have hn_ := Aside0.mk (Kd.R_kept F50.out hk2_ (fun k_ h1_ h2_ => by skip; have h3_ := h1_.1; omega))
  clear F50
  have F50 := hn_
  clear hn_
  have hn_ := Aside0.mk (Kd.R_kept F92.out hk2_ (fun k_ h1_ h2_ => by skip; have := HZ75.out; have := HZ78.out; have := HZ83.out; have h3_ := h1_.1; omega))
  clear F92
  have F92 := hn_
  clear hn_
  have hn_ := Aside0.mk (f0_)
  have F64n := hn_
  clear hn_
  have hn_ := Aside0.mk (f1_)
  have F67n := hn_
  clear hn_
  clear F64
  have F64 := F64n
  clear F64n
  clear F67
  have F67 := F67n
  clear F67n
  have hn_ := Aside0.mk (blk_kept BK35.out hk2_ (fun h_ => by skip; have := HZ41.out; have := HZ48.out; have := GQ36.out; omega))
  clear hczb33_0 hfzb33_0; clear hczb33_1 hfzb33_1
  clear BK35
  have BK35 := hn_
  clear hn_
  have hn_ := Aside0.mk (blk_kept BK72.out hk2_ (fun h_ => by skip; have := GQ73.out; omega))
  clear hczb70_0 hfzb70_0; clear hczb70_1 hfzb70_1
  clear BK72
  have BK72 := hn_
  clear hn_
  clear hk2_ hk_ hb0_ f0_ f1_
  have hczb33_0 : w113.cell? ⟨gb34, 0, none⟩ = some (.slice A28 t16.length c29) := (blk_cell BK35.out 0).trans rfl; have hfzb33_0 := blk_frozen BK35.out 0; have hczb33_1 : w113.cell? ⟨gb34, 1, none⟩ = some (.slice A31 t17.length c32) := (blk_cell BK35.out 1).trans rfl; have hfzb33_1 := blk_frozen BK35.out 1
  have hczb70_0 : w113.cell? ⟨gb71, 0, none⟩ = some (.slice A65 t53.length c66) := (blk_cell BK72.out 0).trans rfl; have hfzb70_0 := blk_frozen BK72.out 0; have hczb70_1 : w113.cell? ⟨gb71, 1, none⟩ = some (.slice A68 t54.length c69) := (blk_cell BK72.out 1).trans rfl; have hfzb70_1 := blk_frozen BK72.out 1
  have hl116 := (Kd.R_reads' F64.out).1
  have HL116 := Aside0.mk hl116
  clear hl116
  have hl117 := (Kd.R_reads' F67.out).1
  have HL117 := Aside0.mk hl117
  clear hl117
  have hn1_ : decide ((1 + (markLStepS_cnt t53 : Nat) + (markGuardS_cnt t54 : Nat) : Int) < 0) = false := decide_eq_false (by omega)
  have hd118 := hn1_
  clear hn1_
  go_wp2_with fail
  have hc_ := laws_heldLined.calls k _ _ (markLStepS_mk (1) t53) _ _ (markGuardS_mk (1 + (markLStepS_cnt t53 : Nat)) t54) 1 (1 + (markLStepS_cnt t53 : Nat) + (markGuardS_cnt t54 : Nat) : Int) _ (Lk.Rr F64.out).2 (Lk.Rr F64.out).1 (Lk.Rr F67.out).2 (Lk.Rr F67.out).1 H120.out
  simp only [← HL116.out, ← HL117.out] at hc_
  refine hc_.mono ?_
  clear hc_
  rintro e_ w121 ⟨rfl, hb⟩
  have hq_ : Below w113.heap.size w113 w121 := ⟨hb.os, hb.tape, hb.output, hb.size, hb.block⟩
  have HZ122 := Aside0.mk (show w113.heap.size ≤ w121.heap.size from hq_.size)
  have hn_ := Aside0.mk (below_then HB.out HB.out.size hq_)
  clear HB
  have HB := hn_
  clear hn_
  have HA123 := Aside0.mk (show w.heap.size ≤ w121.heap.size from HB.out.size)
  have hn_ := Aside0.mk (Kd.R_below F13.out hq_)
  clear F13
  have F13 := hn_
  clear hn_
  have hn_ := Aside0.mk (Kd.R_below F27.out hq_)
  clear F27
  have F27 := hn_
  clear hn_
  have hn_ := Aside0.mk (Kd.R_below F30.out hq_)
  clear F30
  have F30 := hn_
  clear hn_
  have hn_ := Aside0.mk (Kd.R_below F50.out hq_)
  clear F50
  have F50 := hn_
  clear hn_
  have hn_ := Aside0.mk (Kd.R_below F64.out hq_)
  clear F64
  have F64 := hn_
  clear hn_
  have hn_ := Aside0.mk (Kd.R_below F67.out hq_)
  clear F67
  have F67 := hn_
  clear hn_
  have hn_ := Aside0.mk (Kd.R_below F92.out hq_)
  clear F92
  have F92 := hn_
  clear hn_
  have hn_ := Aside0.mk (blk_below BK35.out hq_)
  clear hczb33_0 hfzb33_0; clear hczb33_1 hfzb33_1
  clear BK35
  have BK35 := hn_
  clear hn_
  have hn_ := Aside0.mk (blk_below BK72.out hq_)
  clear hczb70_0 hfzb70_0; clear hczb70_1 hfzb70_1
  clear BK72
  have BK72 := hn_
  clear hn_
  clear hq_
  have hczb33_0 : w121.cell? ⟨gb34, 0, none⟩ = some (.slice A28 t16.length c29) := (blk_cell BK35.out 0).trans rfl; have hfzb33_0 := blk_frozen BK35.out 0; have hczb33_1 : w121.cell? ⟨gb34, 1, none⟩ = some (.slice A31 t17.length c32) := (blk_cell BK35.out 1).trans rfl; have hfzb33_1 := blk_frozen BK35.out 1
  have hczb70_0 : w121.cell? ⟨gb71, 0, none⟩ = some (.slice A65 t53.length c66) := (blk_cell BK72.out 0).trans rfl; have hfzb70_0 := blk_frozen BK72.out 0; have hczb70_1 : w121.cell? ⟨gb71, 1, none⟩ = some (.slice A68 t54.length c69) := (blk_cell BK72.out 1).trans rfl; have hfzb70_1 := blk_frozen BK72.out 1
  clear hb
  go_wp2_with fail
  refine (laws_toXCellS.calls k _ _ l0 t124 _ (Kd.C_below HR0.out HB.out) HC0.out H125.out).mono ?_
  rintro e_ w126 ⟨v127, rfl, f128, hb⟩
  have hq_ : Below w121.heap.size w121 w126 := ⟨hb.os, hb.tape, hb.output, hb.size, hb.block⟩
  have HZ129 := Aside0.mk (show w121.heap.size ≤ w126.heap.size from hq_.size)
  have hn_ := Aside0.mk (below_then HB.out HB.out.size hq_)
  clear HB
  have HB := hn_
  clear hn_
  have HA130 := Aside0.mk (show w.heap.size ≤ w126.heap.size from HB.out.size)
  have hn_ := Aside0.mk (Kd.R_below F13.out hq_)
  clear F13
  have F13 := hn_
  clear hn_
  have hn_ := Aside0.mk (Kd.R_below F27.out hq_)
  clear F27
  have F27 := hn_
  clear hn_
  have hn_ := Aside0.mk (Kd.R_below F30.out hq_)
  clear F30
  have F30 := hn_
  clear hn_
  have hn_ := Aside0.mk (Kd.R_below F50.out hq_)
  clear F50
  have F50 := hn_
  clear hn_
  have hn_ := Aside0.mk (Kd.R_below F64.out hq_)
  clear F64
  have F64 := hn_
  clear hn_
  have hn_ := Aside0.mk (Kd.R_below F67.out hq_)
  clear F67
  have F67 := hn_
  clear hn_
  have hn_ := Aside0.mk (Kd.R_below F92.out hq_)
  clear F92
  have F92 := hn_
  clear hn_
  have hn_ := Aside0.mk (blk_below BK35.out hq_)
  clear hczb33_0 hfzb33_0; clear hczb33_1 hfzb33_1
  clear BK35
  have BK35 := hn_
  clear hn_
  have hn_ := Aside0.mk (blk_below BK72.out hq_)
  clear hczb70_0 hfzb70_0; clear hczb70_1 hfzb70_1
  clear BK72
  have BK72 := hn_
  clear hn_
  clear hq_
  have hczb33_0 : w126.cell? ⟨gb34, 0, none⟩ = some (.slice A28 t16.length c29) := (blk_cell BK35.out 0).trans rfl; have hfzb33_0 := blk_frozen BK35.out 0; have hczb33_1 : w126.cell? ⟨gb34, 1, none⟩ = some (.slice A31 t17.length c32) := (blk_cell BK35.out 1).trans rfl; have hfzb33_1 := blk_frozen BK35.out 1
  have hczb70_0 : w126.cell? ⟨gb71, 0, none⟩ = some (.slice A65 t53.length c66) := (blk_cell BK72.out 0).trans rfl; have hfzb70_0 := blk_frozen BK72.out 0; have hczb70_1 : w126.cell? ⟨gb71, 1, none⟩ = some (.slice A68 t54.length c69) := (blk_cell BK72.out 1).trans rfl; have hfzb70_1 := blk_frozen BK72.out 1
  clear hb
  have F131 := Aside0.mk (Lk.newR (b := w121.heap.size) (base := w.heap.size) (Sep := fun k_ => True) rfl f128 (HA123.out) (fun k_ hk_ => hk_))
  clear f128
  obtain ⟨A132, c133, e_⟩ := Kd.R_slice F131.out
  subst e_
  go_wp2_with fail
  refine (impl_LineTree.calls k _ _ t124 t134 t135 t18 _ (Lk.Rr F131.out).2 (Lk.Rr F131.out).1 H137.out).mono ?_
  rintro e_ w138 ⟨v139, v140, rfl, f141, f142, hb⟩
  have hq_ : Below w126.heap.size w126 w138 := ⟨hb.os, hb.tape, hb.output, hb.size, hb.block⟩
  have HZ143 := Aside0.mk (show w126.heap.size ≤ w138.heap.size from hq_.size)
  have hn_ := Aside0.mk (below_then HB.out HB.out.size hq_)
  clear HB
  have HB := hn_
  clear hn_
  have HA144 := Aside0.mk (show w.heap.size ≤ w138.heap.size from HB.out.size)
  have hn_ := Aside0.mk (Kd.R_below F13.out hq_)
  clear F13
  have F13 := hn_
  clear hn_
  have hn_ := Aside0.mk (Kd.R_below F27.out hq_)
  clear F27
  have F27 := hn_
  clear hn_
  have hn_ := Aside0.mk (Kd.R_below F30.out hq_)
  clear F30
  have F30 := hn_
  clear hn_
  have hn_ := Aside0.mk (Kd.R_below F50.out hq_)
  clear F50
  have F50 := hn_
  clear hn_
  have hn_ := Aside0.mk (Kd.R_below F64.out hq_)
  clear F64
  have F64 := hn_
  clear hn_
  have hn_ := Aside0.mk (Kd.R_below F67.out hq_)
  clear F67
  have F67 := hn_
  clear hn_
  have hn_ := Aside0.mk (Kd.R_below F92.out hq_)
  clear F92
  have F92 := hn_
  clear hn_
  have hn_ := Aside0.mk (Kd.R_below F131.out hq_)
  clear F131
  have F131 := hn_
  clear hn_
  have hn_ := Aside0.mk (blk_below BK35.out hq_)
  clear hczb33_0 hfzb33_0; clear hczb33_1 hfzb33_1
  clear BK35
  have BK35 := hn_
  clear hn_
  have hn_ := Aside0.mk (blk_below BK72.out hq_)
  clear hczb70_0 hfzb70_0; clear hczb70_1 hfzb70_1
  clear BK72
  have BK72 := hn_
  clear hn_
  clear hq_
  have hczb33_0 : w138.cell? ⟨gb34, 0, none⟩ = some (.slice A28 t16.length c29) := (blk_cell BK35.out 0).trans rfl; have hfzb33_0 := blk_frozen BK35.out 0; have hczb33_1 : w138.cell? ⟨gb34, 1, none⟩ = some (.slice A31 t17.length c32) := (blk_cell BK35.out 1).trans rfl; have hfzb33_1 := blk_frozen BK35.out 1
  have hczb70_0 : w138.cell? ⟨gb71, 0, none⟩ = some (.slice A65 t53.length c66) := (blk_cell BK72.out 0).trans rfl; have hfzb70_0 := blk_frozen BK72.out 0; have hczb70_1 : w138.cell? ⟨gb71, 1, none⟩ = some (.slice A68 t54.length c69) := (blk_cell BK72.out 1).trans rfl; have hfzb70_1 := blk_frozen BK72.out 1
  clear hb
  have F145 := Aside0.mk (Lk.newR (b := w126.heap.size) (base := w.heap.size) (Sep := fun k_ => True) rfl f141 (HA130.out) (fun k_ hk_ => hk_))
  clear f141
  have F148 := Aside0.mk (Lk.newR (b := w126.heap.size) (base := w.heap.size) (Sep := fun k_ => True) rfl f142 (HA130.out) (fun k_ hk_ => hk_))
  clear f142
  obtain ⟨A146, c147, e_⟩ := Kd.R_slice F145.out
  subst e_
  obtain ⟨A149, c150, e_⟩ := Kd.R_slice F148.out
  subst e_
  go_wp2_with (first | ((with_reducible refine gate_dst (N := 12) rfl ?_); refine box_event ?hg (N := 12) ?hd (cs := #[.slice none 0 0, .slice none 0 0]) (t := 38) ?hr ?_; (case hd => rfl); (case hg => rfl); (case hr => first | (go_simp; done) | (go_simp; rfl)); intro gb152 hg_ w155 hx_ hb; have hg2_ : gb152 = w138.heap.size := hg_; have hq_ : Below w138.heap.size w138 w155 := ⟨hb.os, hb.tape, hb.output, hb.size, hb.block⟩; have HZ156 := Aside0.mk (show w138.heap.size ≤ w155.heap.size from hq_.size); have hn_ := Aside0.mk (below_then HB.out HB.out.size hq_); clear HB; have HB := hn_; clear hn_; have HA157 := Aside0.mk (show w.heap.size ≤ w155.heap.size from HB.out.size); have hn_ := Aside0.mk (Kd.R_below F13.out hq_); clear F13; have F13 := hn_; clear hn_; have hn_ := Aside0.mk (Kd.R_below F27.out hq_); clear F27; have F27 := hn_; clear hn_; have hn_ := Aside0.mk (Kd.R_below F30.out hq_); clear F30; have F30 := hn_; clear hn_; have hn_ := Aside0.mk (Kd.R_below F50.out hq_); clear F50; have F50 := hn_; clear hn_; have hn_ := Aside0.mk (Kd.R_below F64.out hq_); clear F64; have F64 := hn_; clear hn_; have hn_ := Aside0.mk (Kd.R_below F67.out hq_); clear F67; have F67 := hn_; clear hn_; have hn_ := Aside0.mk (Kd.R_below F92.out hq_); clear F92; have F92 := hn_; clear hn_; have hn_ := Aside0.mk (Kd.R_below F131.out hq_); clear F131; have F131 := hn_; clear hn_; have hn_ := Aside0.mk (Kd.R_below F145.out hq_); clear F145; have F145 := hn_; clear hn_; have hn_ := Aside0.mk (Kd.R_below F148.out hq_); clear F148; have F148 := hn_; clear hn_; have hn_ := Aside0.mk (blk_below BK35.out hq_); clear hczb33_0 hfzb33_0; clear hczb33_1 hfzb33_1; clear BK35; have BK35 := hn_; clear hn_; have hn_ := Aside0.mk (blk_below BK72.out hq_); clear hczb70_0 hfzb70_0; clear hczb70_1 hfzb70_1; clear BK72; have BK72 := hn_; clear hn_; clear hq_; have hczb33_0 : w155.cell? ⟨gb34, 0, none⟩ = some (.slice A28 t16.length c29) := (blk_cell BK35.out 0).trans rfl; have hfzb33_0 := blk_frozen BK35.out 0; have hczb33_1 : w155.cell? ⟨gb34, 1, none⟩ = some (.slice A31 t17.length c32) := (blk_cell BK35.out 1).trans rfl; have hfzb33_1 := blk_frozen BK35.out 1; have hczb70_0 : w155.cell? ⟨gb71, 0, none⟩ = some (.slice A65 t53.length c66) := (blk_cell BK72.out 0).trans rfl; have hfzb70_0 := blk_frozen BK72.out 0; have hczb70_1 : w155.cell? ⟨gb71, 1, none⟩ = some (.slice A68 t54.length c69) := (blk_cell BK72.out 1).trans rfl; have hfzb70_1 := blk_frozen BK72.out 1; have BK153 := Aside0.mk hx_; have GQ154 := Aside0.mk (show w138.heap.size ≤ gb152 ∧ gb152 < w155.heap.size from ⟨Nat.le_of_eq hg2_.symm, blk_lt hx_⟩); clear hb hg_ hg2_ hx_; have hczb151_0 : w155.cell? ⟨gb152, 0, none⟩ = some (.slice none 0 0) := (blk_cell BK153.out 0).trans rfl; have hfzb151_0 := blk_frozen BK153.out 0; have hczb151_1 : w155.cell? ⟨gb152, 1, none⟩ = some (.slice none 0 0) := (blk_cell BK153.out 1).trans rfl; have hfzb151_1 := blk_frozen BK153.out 1) | ((with_reducible refine gate_store (t := 38) (p := 12) rfl ?_); refine store_event (t := 38) (p := 12) (v := ?vo_w158) (w1 := ((w155.setCell ⟨gb152, 0, none⟩ (.slice A146 t134.length c147)).setCell ⟨gb152, 1, none⟩ (.slice A149 t135.length c150))) ?hg ?ho ?hn ?hr ?_; (case ho => rfl); (case hg => rfl); (case hn => rfl); (case hr => first | (go_simp; done) | (go_simp; rfl)); intro w158 hw_; have hx_ : w158.heap[gb152]? = some (.cells #[(.slice A146 t134.length c147), (.slice A149 t135.length c150)] 38 (0, 0)) := (by rw [hw_]; exact Lk.filled (us := [(.slice A146 t134.length c147), (.slice A149 t135.length c150)]) BK153.out rfl); have hk2_ : Kept w155 w158 (fun k_ => k_ = gb152) := (by rw [hw_]; exact Lk.fill_kept [(.slice A146 t134.length c147), (.slice A149 t135.length c150)] 0 w155); have hB_ := Aside0.mk (show Below w.heap.size w w158 by rw [hw_]; exact Lk.fill_below [(.slice A146 t134.length c147), (.slice A149 t135.length c150)] 0 w w155 HB.out (by skip; have := HA144.out; have := GQ154.out; omega)); clear HB; have HB := hB_; clear hB_; have HZ159 := Aside0.mk (show w155.heap.size ≤ w158.heap.size from hk2_.1); have HA160 := Aside0.mk (show w.heap.size ≤ w158.heap.size from HB.out.size); have hn_ := Aside0.mk (Kd.R_kept F13.out hk2_ (fun k_ h1_ h2_ => by skip; have := HZ25.out; have := HZ38.out; have := HZ41.out; have := HZ48.out; have := HZ62.out; have := HZ75.out; have := HZ78.out; have := HZ83.out; have := HZ90.out; have := HZ98.out; have := HZ105.out; have := HZ111.out; have := HZ115.out; have := HZ122.out; have := HZ129.out; have := HZ143.out; have := GQ154.out; have h3_ := h1_.1; omega)); clear F13; have F13 := hn_; clear hn_; have hn_ := Aside0.mk (Kd.R_kept F27.out hk2_ (fun k_ h1_ h2_ => by skip; have := HZ38.out; have := HZ41.out; have := HZ48.out; have := HZ62.out; have := HZ75.out; have := HZ78.out; have := HZ83.out; have := HZ90.out; have := HZ98.out; have := HZ105.out; have := HZ111.out; have := HZ115.out; have := HZ122.out; have := HZ129.out; have := HZ143.out; have := GQ154.out; have h3_ := h1_.1; omega)); clear F27; have F27 := hn_; clear hn_; have hn_ := Aside0.mk (Kd.R_kept F30.out hk2_ (fun k_ h1_ h2_ => by skip; have := HZ38.out; have := HZ41.out; have := HZ48.out; have := HZ62.out; have := HZ75.out; have := HZ78.out; have := HZ83.out; have := HZ90.out; have := HZ98.out; have := HZ105.out; have := HZ111.out; have := HZ115.out; have := HZ122.out; have := HZ129.out; have := HZ143.out; have := GQ154.out; have h3_ := h1_.1; omega)); clear F30; have F30 := hn_; clear hn_; have hn_ := Aside0.mk (Kd.R_kept F50.out hk2_ (fun k_ h1_ h2_ => by skip; have := HZ62.out; have := HZ75.out; have := HZ78.out; have := HZ83.out; have := HZ90.out; have := HZ98.out; have := HZ105.out; have := HZ111.out; have := HZ115.out; have := HZ122.out; have := HZ129.out; have := HZ143.out; have := GQ154.out; have h3_ := h1_.1; omega)); clear F50; have F50 := hn_; clear hn_; have hn_ := Aside0.mk (Kd.R_kept F64.out hk2_ (fun k_ h1_ h2_ => by skip; have := HZ75.out; have := HZ78.out; have := HZ83.out; have := HZ90.out; have := HZ98.out; have := HZ105.out; have := HZ111.out; have := HZ115.out; have := HZ122.out; have := HZ129.out; have := HZ143.out; have := GQ154.out; have h3_ := h1_.1; omega)); clear F64; have F64 := hn_; clear hn_; have hn_ := Aside0.mk (Kd.R_kept F67.out hk2_ (fun k_ h1_ h2_ => by skip; have := HZ75.out; have := HZ78.out; have := HZ83.out; have := HZ90.out; have := HZ98.out; have := HZ105.out; have := HZ111.out; have := HZ115.out; have := HZ122.out; have := HZ129.out; have := HZ143.out; have := GQ154.out; have h3_ := h1_.1; omega)); clear F67; have F67 := hn_; clear hn_; have hn_ := Aside0.mk (Kd.R_kept F92.out hk2_ (fun k_ h1_ h2_ => by skip; have := HZ98.out; have := HZ105.out; have := HZ111.out; have := HZ115.out; have := HZ122.out; have := HZ129.out; have := HZ143.out; have := GQ154.out; have h3_ := h1_.1; omega)); clear F92; have F92 := hn_; clear hn_; have hn_ := Aside0.mk (Kd.R_kept F131.out hk2_ (fun k_ h1_ h2_ => by skip; have := HZ143.out; have := GQ154.out; have h3_ := h1_.1; omega)); clear F131; have F131 := hn_; clear hn_; have hn_ := Aside0.mk (Kd.R_kept F145.out hk2_ (fun k_ h1_ h2_ => by skip; have := GQ154.out; have h3_ := h1_.1; omega)); clear F145; have F145 := hn_; clear hn_; have hn_ := Aside0.mk (Kd.R_kept F148.out hk2_ (fun k_ h1_ h2_ => by skip; have := GQ154.out; have h3_ := h1_.1; omega)); clear F148; have F148 := hn_; clear hn_; clear hczb33_0 hfzb33_0; clear hczb33_1 hfzb33_1; have hn_ := Aside0.mk (blk_kept BK35.out hk2_ (fun h_ => by skip; have := HZ41.out; have := HZ48.out; have := HZ62.out; have := HZ75.out; have := HZ78.out; have := HZ83.out; have := HZ90.out; have := HZ98.out; have := HZ105.out; have := HZ111.out; have := HZ115.out; have := HZ122.out; have := HZ129.out; have := HZ143.out; have := GQ154.out; have := GQ36.out; omega)); clear BK35; have BK35 := hn_; clear hn_; clear hczb70_0 hfzb70_0; clear hczb70_1 hfzb70_1; have hn_ := Aside0.mk (blk_kept BK72.out hk2_ (fun h_ => by skip; have := HZ78.out; have := HZ83.out; have := HZ90.out; have := HZ98.out; have := HZ105.out; have := HZ111.out; have := HZ115.out; have := HZ122.out; have := HZ129.out; have := HZ143.out; have := GQ154.out; have := GQ73.out; omega)); clear BK72; have BK72 := hn_; clear hn_; clear hczb151_0 hfzb151_0; clear hczb151_1 hfzb151_1; clear BK153; have BK153 := Aside0.mk hx_; clear hk2_ hx_ hw_; have hczb33_0 : w158.cell? ⟨gb34, 0, none⟩ = some (.slice A28 t16.length c29) := (blk_cell BK35.out 0).trans rfl; have hfzb33_0 := blk_frozen BK35.out 0; have hczb33_1 : w158.cell? ⟨gb34, 1, none⟩ = some (.slice A31 t17.length c32) := (blk_cell BK35.out 1).trans rfl; have hfzb33_1 := blk_frozen BK35.out 1; have hczb70_0 : w158.cell? ⟨gb71, 0, none⟩ = some (.slice A65 t53.length c66) := (blk_cell BK72.out 0).trans rfl; have hfzb70_0 := blk_frozen BK72.out 0; have hczb70_1 : w158.cell? ⟨gb71, 1, none⟩ = some (.slice A68 t54.length c69) := (blk_cell BK72.out 1).trans rfl; have hfzb70_1 := blk_frozen BK72.out 1; have hczb151_0 : w158.cell? ⟨gb152, 0, none⟩ = some (.slice A146 t134.length c147) := (blk_cell BK153.out 0).trans rfl; have hfzb151_0 := blk_frozen BK153.out 0; have hczb151_1 : w158.cell? ⟨gb152, 1, none⟩ = some (.slice A149 t135.length c150) := (blk_cell BK153.out 1).trans rfl; have hfzb151_1 := blk_frozen BK153.out 1))
  refine (laws_eqLined.calls k _ _ t134 _ _ t135 _ _ t16 _ _ t17 true _ (Lk.Rr F145.out).2 (Lk.Rr F145.out).1 (Lk.Rr F148.out).2 (Lk.Rr F148.out).1 (Lk.Rr F27.out).2 (Lk.Rr F27.out).1 (Lk.Rr F30.out).2 (Lk.Rr F30.out).1 H162.out).mono ?_
  rintro e_ w163 ⟨rfl, hb⟩
  have hq_ : Below w158.heap.size w158 w163 := ⟨hb.os, hb.tape, hb.output, hb.size, hb.block⟩
  have HZ164 := Aside0.mk (show w158.heap.size ≤ w163.heap.size from hq_.size)
  have hn_ := Aside0.mk (below_then HB.out HB.out.size hq_)
  clear HB
  have HB := hn_
  clear hn_
  have HA165 := Aside0.mk (show w.heap.size ≤ w163.heap.size from HB.out.size)
  have hn_ := Aside0.mk (Kd.R_below F13.out hq_)
  clear F13
  have F13 := hn_
  clear hn_
  have hn_ := Aside0.mk (Kd.R_below F27.out hq_)
  clear F27
  have F27 := hn_
  clear hn_
  have hn_ := Aside0.mk (Kd.R_below F30.out hq_)
  clear F30
  have F30 := hn_
  clear hn_
  have hn_ := Aside0.mk (Kd.R_below F50.out hq_)
  clear F50
  have F50 := hn_
  clear hn_
  have hn_ := Aside0.mk (Kd.R_below F64.out hq_)
  clear F64
  have F64 := hn_
  clear hn_
  have hn_ := Aside0.mk (Kd.R_below F67.out hq_)
  clear F67
  have F67 := hn_
  clear hn_
  have hn_ := Aside0.mk (Kd.R_below F92.out hq_)
  clear F92
  have F92 := hn_
  clear hn_
  have hn_ := Aside0.mk (Kd.R_below F131.out hq_)
  clear F131
  have F131 := hn_
  clear hn_
  have hn_ := Aside0.mk (Kd.R_below F145.out hq_)
  clear F145
  have F145 := hn_
  clear hn_
  have hn_ := Aside0.mk (Kd.R_below F148.out hq_)
  clear F148
  have F148 := hn_
  clear hn_
  have hn_ := Aside0.mk (blk_below BK35.out hq_)
  clear hczb33_0 hfzb33_0; clear hczb33_1 hfzb33_1
  clear BK35
  have BK35 := hn_
  clear hn_
  have hn_ := Aside0.mk (blk_below BK72.out hq_)
  clear hczb70_0 hfzb70_0; clear hczb70_1 hfzb70_1
  clear BK72
  have BK72 := hn_
  clear hn_
  have hn_ := Aside0.mk (blk_below BK153.out hq_)
  clear hczb151_0 hfzb151_0; clear hczb151_1 hfzb151_1
  clear BK153
  have BK153 := hn_
  clear hn_
  clear hq_
  have hczb33_0 : w163.cell? ⟨gb34, 0, none⟩ = some (.slice A28 t16.length c29) := (blk_cell BK35.out 0).trans rfl; have hfzb33_0 := blk_frozen BK35.out 0; have hczb33_1 : w163.cell? ⟨gb34, 1, none⟩ = some (.slice A31 t17.length c32) := (blk_cell BK35.out 1).trans rfl; have hfzb33_1 := blk_frozen BK35.out 1
  have hczb70_0 : w163.cell? ⟨gb71, 0, none⟩ = some (.slice A65 t53.length c66) := (blk_cell BK72.out 0).trans rfl; have hfzb70_0 := blk_frozen BK72.out 0; have hczb70_1 : w163.cell? ⟨gb71, 1, none⟩ = some (.slice A68 t54.length c69) := (blk_cell BK72.out 1).trans rfl; have hfzb70_1 := blk_frozen BK72.out 1
  have hczb151_0 : w163.cell? ⟨gb152, 0, none⟩ = some (.slice A146 t134.length c147) := (blk_cell BK153.out 0).trans rfl; have hfzb151_0 := blk_frozen BK153.out 0; have hczb151_1 : w163.cell? ⟨gb152, 1, none⟩ = some (.slice A149 t135.length c150) := (blk_cell BK153.out 1).trans rfl; have hfzb151_1 := blk_frozen BK153.out 1
  clear hb
  go_wp2_with fail
  have hc_ := laws_heldLined.calls k _ _ (markLStepS_mk (1) t53) _ _ (markGuardS_mk (1 + (markLStepS_cnt t53 : Nat)) t54) 1 (1 + (markLStepS_cnt t53 : Nat) + (markGuardS_cnt t54 : Nat) : Int) _ (Lk.Rr F64.out).2 (Lk.Rr F64.out).1 (Lk.Rr F67.out).2 (Lk.Rr F67.out).1 H167.out
  simp only [← HL116.out, ← HL117.out] at hc_
  refine hc_.mono ?_
  clear hc_
  rintro e_ w168 ⟨rfl, hb⟩
  have hq_ : Below w163.heap.size w163 w168 := ⟨hb.os, hb.tape, hb.output, hb.size, hb.block⟩
  have HZ169 := Aside0.mk (show w163.heap.size ≤ w168.heap.size from hq_.size)
  have hn_ := Aside0.mk (below_then HB.out HB.out.size hq_)
  clear HB
  have HB := hn_
  clear hn_
  have HA170 := Aside0.mk (show w.heap.size ≤ w168.heap.size from HB.out.size)
  have hn_ := Aside0.mk (Kd.R_below F13.out hq_)
  clear F13
  have F13 := hn_
  clear hn_
  have hn_ := Aside0.mk (Kd.R_below F27.out hq_)
  clear F27
  have F27 := hn_
  clear hn_
  have hn_ := Aside0.mk (Kd.R_below F30.out hq_)
  clear F30
  have F30 := hn_
  clear hn_
  have hn_ := Aside0.mk (Kd.R_below F50.out hq_)
  clear F50
  have F50 := hn_
  clear hn_
  have hn_ := Aside0.mk (Kd.R_below F64.out hq_)
  clear F64
  have F64 := hn_
  clear hn_
  have hn_ := Aside0.mk (Kd.R_below F67.out hq_)
  clear F67
  have F67 := hn_
  clear hn_
  have hn_ := Aside0.mk (Kd.R_below F92.out hq_)
  clear F92
  have F92 := hn_
  clear hn_
  have hn_ := Aside0.mk (Kd.R_below F131.out hq_)
  clear F131
  have F131 := hn_
  clear hn_
  have hn_ := Aside0.mk (Kd.R_below F145.out hq_)
  clear F145
  have F145 := hn_
  clear hn_
  have hn_ := Aside0.mk (Kd.R_below F148.out hq_)
  clear F148
  have F148 := hn_
  clear hn_
  have hn_ := Aside0.mk (blk_below BK35.out hq_)
  clear hczb33_0 hfzb33_0; clear hczb33_1 hfzb33_1
  clear BK35
  have BK35 := hn_
  clear hn_
  have hn_ := Aside0.mk (blk_below BK72.out hq_)
  clear hczb70_0 hfzb70_0; clear hczb70_1 hfzb70_1
  clear BK72
  have BK72 := hn_
  clear hn_
  have hn_ := Aside0.mk (blk_below BK153.out hq_)
  clear hczb151_0 hfzb151_0; clear hczb151_1 hfzb151_1
  clear BK153
  have BK153 := hn_
  clear hn_
  clear hq_
  have hczb33_0 : w168.cell? ⟨gb34, 0, none⟩ = some (.slice A28 t16.length c29) := (blk_cell BK35.out 0).trans rfl; have hfzb33_0 := blk_frozen BK35.out 0; have hczb33_1 : w168.cell? ⟨gb34, 1, none⟩ = some (.slice A31 t17.length c32) := (blk_cell BK35.out 1).trans rfl; have hfzb33_1 := blk_frozen BK35.out 1
  have hczb70_0 : w168.cell? ⟨gb71, 0, none⟩ = some (.slice A65 t53.length c66) := (blk_cell BK72.out 0).trans rfl; have hfzb70_0 := blk_frozen BK72.out 0; have hczb70_1 : w168.cell? ⟨gb71, 1, none⟩ = some (.slice A68 t54.length c69) := (blk_cell BK72.out 1).trans rfl; have hfzb70_1 := blk_frozen BK72.out 1
  have hczb151_0 : w168.cell? ⟨gb152, 0, none⟩ = some (.slice A146 t134.length c147) := (blk_cell BK153.out 0).trans rfl; have hfzb151_0 := blk_frozen BK153.out 0; have hczb151_1 : w168.cell? ⟨gb152, 1, none⟩ = some (.slice A149 t135.length c150) := (blk_cell BK153.out 1).trans rfl; have hfzb151_1 := blk_frozen BK153.out 1
  clear hb
  go_wp2_with fail
  go_ret
  exact ⟨rfl, HB.out⟩
end Go.Proofs.Ytgjojppbichaiaa.Q
