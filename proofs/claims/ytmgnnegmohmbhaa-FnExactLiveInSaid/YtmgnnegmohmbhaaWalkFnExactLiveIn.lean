/- The law FnExactLiveIn of this seat: the walk along its one way. Conditions: none. -/
import Derived.Test.YtmgnnegmohmbhaaQx0
import Derived.Test.YtmgnnegmohmbhaaQx1
import Derived.Test.YtmgnnegmohmbhaaQx2
import Derived.Test.YtmgnnegmohmbhaaQx5
import Derived.Test.YtmgnnegmohmbhaaQx13
import Derived.Test.YtmgnnegmohmbhaaGoodFnExactLiveIn
import Derived.Test.YtmgnnegmohmbhaaLk
namespace Go.Proofs.Ytmgnnegmohmbhaa.Q
open Go.RowKit Go.Proofs.YtmgnnegmohmbhaaW.PrintWords Go.Proofs.YtmgnnegmohmbhaaW.PrintLast Go.Proofs.YtmgnnegmohmbhaaW.PrintMore
set_option linter.unusedVariables false
set_option linter.unusedSimpArgs false
open Lk in
set_option maxHeartbeats 8000000 in
set_option maxRecDepth 100000 in
theorem laws_FnExactLiveIn.calls (k : Nat) (A0_0 : Option Addr) (c0_0 : Nat) (l0_0 : List (S56)) (A0_1 : Option Addr) (c0_1 : Nat) (l0_1 : List Int) (a0_2 : Bool) (r : Bool) (w : World) (hr0_0 : Kd.C k56 w A0_0 l0_0.length l0_0) (hc0_0 : l0_0.length ≤ c0_0) (hr0_1 : Kd.C (Kd.int .i64) w A0_1 l0_1.length l0_1) (hc0_1 : l0_1.length ≤ c0_1) (h : laws_FnExactLiveIn.f k l0_0 l0_1 a0_2 = some r) :
    Calls Try.prog 6 #[.agg #[.slice A0_0 l0_0.length c0_0, .slice A0_1 l0_1.length c0_1, .bool a0_2]] w fun e w' => e = .returned (.bool r) ∧ Below w.heap.size w w' := by
  unfold laws_FnExactLiveIn.f at h
  split at h
  case isFalse => cases h
  rename_i hg
  obtain rfl := Option.some.inj h
  clear h
  have HR0_0 := Aside0.mk hr0_0
  have HC0_0 := Aside0.mk hc0_0
  clear hr0_0 hc0_0
  have HR0_1 := Aside0.mk hr0_1
  have HC0_1 := Aside0.mk hc0_1
  clear hr0_1 hc0_1
  have HB := Aside0.mk (Below.refl w.heap.size w)
  unfold laws_FnExactLiveIn.good at hg
  obtain ⟨t8, H90, hg⟩ := hg
  have H9 := Aside0.mk H90
  clear H90
  rcases hg with hs | ⟨hs, hg⟩
  · have hs1_ : decide (t8 < 0) = true := decide_eq_true hs
    clear hs
    go_enter Try.func6, Try.ntmps6
    go_wp2_with (first | ((with_reducible refine gate_dst (N := 1) rfl ?_); refine bxe 1 #[.slice A0_0 l0_0.length c0_0, .slice A0_1 l0_1.length c0_1, .bool a0_2] 33 ?_; intro gb2 hg_ w5 hx_ hb; have hg2_ : gb2 = w.heap.size := hg_; have hq_ : Below w.heap.size w w5 := ⟨hb.os, hb.tape, hb.output, hb.size, hb.block⟩; have HZ6 := Aside0.mk (show w.heap.size ≤ w5.heap.size from hq_.size); replace HB := Aside0.mk (below_then HB.out HB.out.size hq_); have HA7 := Aside0.mk (show w.heap.size ≤ w5.heap.size from HB.out.size); clear hq_; have BK3 := Aside0.mk hx_; have GQ4 := Aside0.mk (show w.heap.size ≤ gb2 ∧ gb2 < w5.heap.size from ⟨Nat.le_of_eq hg2_.symm, blk_lt hx_⟩); clear hb hg_ hg2_ hx_; obtain ⟨hczb1_0, hfzb1_0, hczb1_1, hfzb1_1, hczb1_2, hfzb1_2⟩ := bk3 BK3.out))
    refine (laws_szMarker.calls k _ _ l0_0 _ _ l0_1 a0_2 1048576 t8 _ (Kd.C_below HR0_0.out HB.out) HC0_0.out (Kd.C_below HR0_1.out HB.out) HC0_1.out H9.out).mono ?_
    rintro e_ w10 ⟨rfl, hb⟩
    have hq_ : Below w5.heap.size w5 w10 := ⟨hb.os, hb.tape, hb.output, hb.size, hb.block⟩
    have HZ11 := Aside0.mk (show w5.heap.size ≤ w10.heap.size from hq_.size)
    replace HB := Aside0.mk (below_then HB.out HB.out.size hq_)
    have HA12 := Aside0.mk (show w.heap.size ≤ w10.heap.size from HB.out.size)
    have hn_ := Aside0.mk (blk_below BK3.out hq_)
    clear hczb1_0 hfzb1_0; clear hczb1_1 hfzb1_1; clear hczb1_2 hfzb1_2
    clear BK3
    have BK3 := hn_
    clear hn_
    clear hq_
    obtain ⟨hczb1_0, hfzb1_0, hczb1_1, hfzb1_1, hczb1_2, hfzb1_2⟩ := bk3 BK3.out
    clear hb
    go_wp2_with fail
    go_ret
    exact ⟨rfl, by repeat first | exact HB.out | apply below_alloc⟩
  have hs2_ : decide (t8 < 0) = false := decide_eq_false hs
  clear hs
  obtain ⟨t13, t14, t15, H160, t30, t31, H320, t41, t42, t43, H440, t68, H700, H800, t87, t88, t89, H900, H1050, H1100, H1160, t121, t122, H1230, H1240, H1290, t133, t134, t135, H1360, t150, H1520, H1620, H1670, hg⟩ := hg
  have H16 := Aside0.mk H160
  clear H160
  have H32 := Aside0.mk H320
  clear H320
  have H44 := Aside0.mk H440
  clear H440
  have H70 := Aside0.mk H700
  clear H700
  have H80 := Aside0.mk H800
  clear H800
  have H90 := Aside0.mk H900
  clear H900
  have H105 := Aside0.mk H1050
  clear H1050
  have H110 := Aside0.mk H1100
  clear H1100
  have H116 := Aside0.mk H1160
  clear H1160
  have H123 := Aside0.mk H1230
  clear H1230
  have H124 := Aside0.mk H1240
  clear H1240
  have H129 := Aside0.mk H1290
  clear H1290
  have H136 := Aside0.mk H1360
  clear H1360
  have H152 := Aside0.mk H1520
  clear H1520
  have H162 := Aside0.mk H1620
  clear H1620
  have H167 := Aside0.mk H1670
  clear H1670
  clear hg
  go_enter Try.func6, Try.ntmps6
  go_wp2_with (first | ((with_reducible refine gate_dst (N := 1) rfl ?_); refine bxe 1 #[.slice A0_0 l0_0.length c0_0, .slice A0_1 l0_1.length c0_1, .bool a0_2] 33 ?_; intro gb2 hg_ w5 hx_ hb; have hg2_ : gb2 = w.heap.size := hg_; have hq_ : Below w.heap.size w w5 := ⟨hb.os, hb.tape, hb.output, hb.size, hb.block⟩; have HZ6 := Aside0.mk (show w.heap.size ≤ w5.heap.size from hq_.size); replace HB := Aside0.mk (below_then HB.out HB.out.size hq_); have HA7 := Aside0.mk (show w.heap.size ≤ w5.heap.size from HB.out.size); clear hq_; have BK3 := Aside0.mk hx_; have GQ4 := Aside0.mk (show w.heap.size ≤ gb2 ∧ gb2 < w5.heap.size from ⟨Nat.le_of_eq hg2_.symm, blk_lt hx_⟩); clear hb hg_ hg2_ hx_; obtain ⟨hczb1_0, hfzb1_0, hczb1_1, hfzb1_1, hczb1_2, hfzb1_2⟩ := bk3 BK3.out))
  refine (laws_szMarker.calls k _ _ l0_0 _ _ l0_1 a0_2 1048576 t8 _ (Kd.C_below HR0_0.out HB.out) HC0_0.out (Kd.C_below HR0_1.out HB.out) HC0_1.out H9.out).mono ?_
  rintro e_ w10 ⟨rfl, hb⟩
  have hq_ : Below w5.heap.size w5 w10 := ⟨hb.os, hb.tape, hb.output, hb.size, hb.block⟩
  have HZ11 := Aside0.mk (show w5.heap.size ≤ w10.heap.size from hq_.size)
  replace HB := Aside0.mk (below_then HB.out HB.out.size hq_)
  have HA12 := Aside0.mk (show w.heap.size ≤ w10.heap.size from HB.out.size)
  have hn_ := Aside0.mk (blk_below BK3.out hq_)
  clear hczb1_0 hfzb1_0; clear hczb1_1 hfzb1_1; clear hczb1_2 hfzb1_2
  clear BK3
  have BK3 := hn_
  clear hn_
  clear hq_
  obtain ⟨hczb1_0, hfzb1_0, hczb1_1, hfzb1_1, hczb1_2, hfzb1_2⟩ := bk3 BK3.out
  clear hb
  go_wp2_with fail
  refine (laws_toMarker.calls k _ _ l0_0 _ _ l0_1 a0_2 t13 t14 t15 _ (Kd.C_below HR0_0.out HB.out) HC0_0.out (Kd.C_below HR0_1.out HB.out) HC0_1.out H16.out).mono ?_
  rintro e_ w17 ⟨v18, v19, rfl, f20, f21, hb⟩
  have hq_ : Below w10.heap.size w10 w17 := ⟨hb.os, hb.tape, hb.output, hb.size, hb.block⟩
  have HZ22 := Aside0.mk (show w10.heap.size ≤ w17.heap.size from hq_.size)
  replace HB := Aside0.mk (below_then HB.out HB.out.size hq_)
  have HA23 := Aside0.mk (show w.heap.size ≤ w17.heap.size from HB.out.size)
  have hn_ := Aside0.mk (blk_below BK3.out hq_)
  clear hczb1_0 hfzb1_0; clear hczb1_1 hfzb1_1; clear hczb1_2 hfzb1_2
  clear BK3
  have BK3 := hn_
  clear hn_
  clear hq_
  obtain ⟨hczb1_0, hfzb1_0, hczb1_1, hfzb1_1, hczb1_2, hfzb1_2⟩ := bk3 BK3.out
  clear hb
  have F24 := Aside0.mk (Lk.newS (b := w10.heap.size) (base := w.heap.size) (Sep := fun k_ => some k_ ≠ (v19 : Value).ownBlock) f20 (HA12.out) (fun k_ hk_ => hk_))
  clear f20
  have F27 := Aside0.mk (Lk.newR (b := w10.heap.size) (base := w.heap.size) (Sep := fun k_ => True) rfl f21 (HA12.out) (fun k_ hk_ => hk_))
  clear f21
  obtain ⟨A25, c26, e_⟩ := Kd.S_slice F24.out
  subst e_
  obtain ⟨A28, c29, e_⟩ := Kd.R_slice F27.out
  subst e_
  go_wp2_with fail
  refine (spec_LiveIn.calls k _ _ t13 _ _ t14 t15 t30 t31 _ (Lk.Sr F24.out).2 (Lk.Sr F24.out).1 (Lk.Rr F27.out).2 (Lk.Rr F27.out).1 H32.out).mono ?_
  rintro e_ w33 ⟨v34, rfl, f35, hb⟩
  have hq_ : Below w17.heap.size w17 w33 := ⟨hb.os, hb.tape, hb.output, hb.size, hb.block⟩
  have HZ36 := Aside0.mk (show w17.heap.size ≤ w33.heap.size from hq_.size)
  replace HB := Aside0.mk (below_then HB.out HB.out.size hq_)
  have HA37 := Aside0.mk (show w.heap.size ≤ w33.heap.size from HB.out.size)
  replace F24 := Aside0.mk (Kd.S_below F24.out hq_)
  replace F27 := Aside0.mk (Kd.R_below F27.out hq_)
  have hn_ := Aside0.mk (blk_below BK3.out hq_)
  clear hczb1_0 hfzb1_0; clear hczb1_1 hfzb1_1; clear hczb1_2 hfzb1_2
  clear BK3
  have BK3 := hn_
  clear hn_
  clear hq_
  obtain ⟨hczb1_0, hfzb1_0, hczb1_1, hfzb1_1, hczb1_2, hfzb1_2⟩ := bk3 BK3.out
  clear hb
  have F38 := Aside0.mk (Lk.newR (b := w17.heap.size) (base := w.heap.size) (Sep := fun k_ => True) rfl f35 (HA23.out) (fun k_ hk_ => hk_))
  clear f35
  obtain ⟨A39, c40, e_⟩ := Kd.R_slice F38.out
  subst e_
  go_wp2_with fail
  refine (laws_toMarker.calls k _ _ l0_0 _ _ l0_1 a0_2 t41 t42 t43 _ (Kd.C_below HR0_0.out HB.out) HC0_0.out (Kd.C_below HR0_1.out HB.out) HC0_1.out H44.out).mono ?_
  rintro e_ w45 ⟨v46, v47, rfl, f48, f49, hb⟩
  have hq_ : Below w33.heap.size w33 w45 := ⟨hb.os, hb.tape, hb.output, hb.size, hb.block⟩
  have HZ50 := Aside0.mk (show w33.heap.size ≤ w45.heap.size from hq_.size)
  replace HB := Aside0.mk (below_then HB.out HB.out.size hq_)
  have HA51 := Aside0.mk (show w.heap.size ≤ w45.heap.size from HB.out.size)
  replace F24 := Aside0.mk (Kd.S_below F24.out hq_)
  replace F27 := Aside0.mk (Kd.R_below F27.out hq_)
  replace F38 := Aside0.mk (Kd.R_below F38.out hq_)
  have hn_ := Aside0.mk (blk_below BK3.out hq_)
  clear hczb1_0 hfzb1_0; clear hczb1_1 hfzb1_1; clear hczb1_2 hfzb1_2
  clear BK3
  have BK3 := hn_
  clear hn_
  clear hq_
  obtain ⟨hczb1_0, hfzb1_0, hczb1_1, hfzb1_1, hczb1_2, hfzb1_2⟩ := bk3 BK3.out
  clear hb
  have F52 := Aside0.mk (Lk.newS (b := w33.heap.size) (base := w.heap.size) (Sep := fun k_ => some k_ ≠ (v47 : Value).ownBlock) f48 (HA37.out) (fun k_ hk_ => hk_))
  clear f48
  have F55 := Aside0.mk (Lk.newR (b := w33.heap.size) (base := w.heap.size) (Sep := fun k_ => True) rfl f49 (HA37.out) (fun k_ hk_ => hk_))
  clear f49
  obtain ⟨A53, c54, e_⟩ := Kd.S_slice F52.out
  subst e_
  obtain ⟨A56, c57, e_⟩ := Kd.R_slice F55.out
  subst e_
  go_wp2_with (first | ((with_reducible refine gate_dst (N := 6) rfl ?_); refine bxe 6 #[.slice none 0 0, .slice none 0 0, .bool false] 25 ?_; intro gb59 hg_ w62 hx_ hb; have hg2_ : gb59 = w45.heap.size := hg_; have hq_ : Below w45.heap.size w45 w62 := ⟨hb.os, hb.tape, hb.output, hb.size, hb.block⟩; have HZ63 := Aside0.mk (show w45.heap.size ≤ w62.heap.size from hq_.size); replace HB := Aside0.mk (below_then HB.out HB.out.size hq_); have HA64 := Aside0.mk (show w.heap.size ≤ w62.heap.size from HB.out.size); replace F24 := Aside0.mk (Kd.S_below F24.out hq_); replace F27 := Aside0.mk (Kd.R_below F27.out hq_); replace F38 := Aside0.mk (Kd.R_below F38.out hq_); replace F52 := Aside0.mk (Kd.S_below F52.out hq_); replace F55 := Aside0.mk (Kd.R_below F55.out hq_); have hn_ := Aside0.mk (blk_below BK3.out hq_); clear hczb1_0 hfzb1_0; clear hczb1_1 hfzb1_1; clear hczb1_2 hfzb1_2; clear BK3; have BK3 := hn_; clear hn_; clear hq_; obtain ⟨hczb1_0, hfzb1_0, hczb1_1, hfzb1_1, hczb1_2, hfzb1_2⟩ := bk3 BK3.out; have BK60 := Aside0.mk hx_; have GQ61 := Aside0.mk (show w45.heap.size ≤ gb59 ∧ gb59 < w62.heap.size from ⟨Nat.le_of_eq hg2_.symm, blk_lt hx_⟩); clear hb hg_ hg2_ hx_; obtain ⟨hczb58_0, hfzb58_0, hczb58_1, hfzb58_1, hczb58_2, hfzb58_2⟩ := bk3 BK60.out) | ((with_reducible refine gate_store (t := 25) (p := 6) rfl ?_); refine store_event (t := 25) (p := 6) (v := ?vo_w65) (w1 := (((w62.setCell ⟨gb59, 0, none⟩ (.slice A53 t41.length c54)).setCell ⟨gb59, 1, none⟩ (.slice A56 t42.length c57)).setCell ⟨gb59, 2, none⟩ (.bool t43))) ?hg ?ho ?hn ?hr ?_; (case ho => rfl); (case hg => rfl); (case hn => rfl); (case hr => first | (go_simp; done) | (go_simp; rfl)); intro w65 hw_; have hx_ : w65.heap[gb59]? = some (.cells #[(.slice A53 t41.length c54), (.slice A56 t42.length c57), (.bool t43)] 25 (0, 0)) := (by rw [hw_]; exact Lk.filled (us := [(.slice A53 t41.length c54), (.slice A56 t42.length c57), (.bool t43)]) BK60.out rfl); have hk2_ : Kept w62 w65 (fun k_ => k_ = gb59) := (by rw [hw_]; exact Lk.fill_kept [(.slice A53 t41.length c54), (.slice A56 t42.length c57), (.bool t43)] 0 w62); replace HB := Aside0.mk (show Below w.heap.size w w65 by rw [hw_]; exact Lk.fill_below [(.slice A53 t41.length c54), (.slice A56 t42.length c57), (.bool t43)] 0 w w62 HB.out (by skip; have := HA51.out; have := GQ61.out; omega)); have HZ66 := Aside0.mk (show w62.heap.size ≤ w65.heap.size from hk2_.1); have HA67 := Aside0.mk (show w.heap.size ≤ w65.heap.size from HB.out.size); have hn_ := Aside0.mk (Kd.S_kept F24.out hk2_ (fun k_ h1_ h2_ => by skip; have := HZ36.out; have := HZ50.out; have := GQ61.out; have h3_ := h1_.1; omega)); clear F24; have F24 := hn_; clear hn_; have hn_ := Aside0.mk (Kd.R_kept F27.out hk2_ (fun k_ h1_ h2_ => by skip; have := HZ36.out; have := HZ50.out; have := GQ61.out; have h3_ := h1_.1; omega)); clear F27; have F27 := hn_; clear hn_; have hn_ := Aside0.mk (Kd.R_kept F38.out hk2_ (fun k_ h1_ h2_ => by skip; have := HZ50.out; have := GQ61.out; have h3_ := h1_.1; omega)); clear F38; have F38 := hn_; clear hn_; have hn_ := Aside0.mk (Kd.S_kept F52.out hk2_ (fun k_ h1_ h2_ => by skip; have := GQ61.out; have h3_ := h1_.1; omega)); clear F52; have F52 := hn_; clear hn_; have hn_ := Aside0.mk (Kd.R_kept F55.out hk2_ (fun k_ h1_ h2_ => by skip; have := GQ61.out; have h3_ := h1_.1; omega)); clear F55; have F55 := hn_; clear hn_; clear hczb1_0 hfzb1_0; clear hczb1_1 hfzb1_1; clear hczb1_2 hfzb1_2; have hn_ := Aside0.mk (blk_kept BK3.out hk2_ (fun h_ => by skip; have := HZ11.out; have := HZ22.out; have := HZ36.out; have := HZ50.out; have := GQ61.out; have := GQ4.out; omega)); clear BK3; have BK3 := hn_; clear hn_; clear hczb58_0 hfzb58_0; clear hczb58_1 hfzb58_1; clear hczb58_2 hfzb58_2; clear BK60; have BK60 := Aside0.mk hx_; clear hk2_ hx_ hw_; obtain ⟨hczb1_0, hfzb1_0, hczb1_1, hfzb1_1, hczb1_2, hfzb1_2⟩ := bk3 BK3.out; obtain ⟨hczb58_0, hfzb58_0, hczb58_1, hfzb58_1, hczb58_2, hfzb58_2⟩ := bk3 BK60.out))
  refine (impl_LiveIn.calls k _ _ t41 _ _ t42 t43 t68 t31 _ (Lk.Sr F52.out).2 (Lk.Sr F52.out).1 (Lk.Rr F55.out).2 (Lk.Rr F55.out).1 H70.out).mono ?_
  rintro e_ w71 ⟨v72, rfl, f73, hb⟩
  have hq_ : Below w65.heap.size w65 w71 := ⟨hb.os, hb.tape, hb.output, hb.size, hb.block⟩
  have HZ74 := Aside0.mk (show w65.heap.size ≤ w71.heap.size from hq_.size)
  replace HB := Aside0.mk (below_then HB.out HB.out.size hq_)
  have HA75 := Aside0.mk (show w.heap.size ≤ w71.heap.size from HB.out.size)
  replace F24 := Aside0.mk (Kd.S_below F24.out hq_)
  replace F27 := Aside0.mk (Kd.R_below F27.out hq_)
  replace F38 := Aside0.mk (Kd.R_below F38.out hq_)
  replace F52 := Aside0.mk (Kd.S_below F52.out hq_)
  replace F55 := Aside0.mk (Kd.R_below F55.out hq_)
  have hn_ := Aside0.mk (blk_below BK3.out hq_)
  clear hczb1_0 hfzb1_0; clear hczb1_1 hfzb1_1; clear hczb1_2 hfzb1_2
  clear BK3
  have BK3 := hn_
  clear hn_
  have hn_ := Aside0.mk (blk_below BK60.out hq_)
  clear hczb58_0 hfzb58_0; clear hczb58_1 hfzb58_1; clear hczb58_2 hfzb58_2
  clear BK60
  have BK60 := hn_
  clear hn_
  clear hq_
  obtain ⟨hczb1_0, hfzb1_0, hczb1_1, hfzb1_1, hczb1_2, hfzb1_2⟩ := bk3 BK3.out
  obtain ⟨hczb58_0, hfzb58_0, hczb58_1, hfzb58_1, hczb58_2, hfzb58_2⟩ := bk3 BK60.out
  clear hb
  have F76 := Aside0.mk (Lk.newR (b := w65.heap.size) (base := w.heap.size) (Sep := fun k_ => True) rfl f73 (HA67.out) (fun k_ hk_ => hk_))
  clear f73
  obtain ⟨A77, c78, e_⟩ := Kd.R_slice F76.out
  subst e_
  go_wp2_with fail
  refine (laws_eqIntS.calls k _ _ t68 _ _ t30 true _ (Lk.Rr F76.out).2 (Lk.Rr F76.out).1 (Lk.Rr F38.out).2 (Lk.Rr F38.out).1 H80.out).mono ?_
  rintro e_ w81 ⟨rfl, ⟨nd_, hd_⟩⟩
  have hb : Below w71.heap.size w71 w81 := by rw [hd_]; exact pw_below_drewN (Below.refl _ _) nd_
  clear hd_
  have hq_ : Below w71.heap.size w71 w81 := ⟨hb.os, hb.tape, hb.output, hb.size, hb.block⟩
  have HZ82 := Aside0.mk (show w71.heap.size ≤ w81.heap.size from hq_.size)
  replace HB := Aside0.mk (below_then HB.out HB.out.size hq_)
  have HA83 := Aside0.mk (show w.heap.size ≤ w81.heap.size from HB.out.size)
  replace F24 := Aside0.mk (Kd.S_below F24.out hq_)
  replace F27 := Aside0.mk (Kd.R_below F27.out hq_)
  replace F38 := Aside0.mk (Kd.R_below F38.out hq_)
  replace F52 := Aside0.mk (Kd.S_below F52.out hq_)
  replace F55 := Aside0.mk (Kd.R_below F55.out hq_)
  replace F76 := Aside0.mk (Kd.R_below F76.out hq_)
  have hn_ := Aside0.mk (blk_below BK3.out hq_)
  clear hczb1_0 hfzb1_0; clear hczb1_1 hfzb1_1; clear hczb1_2 hfzb1_2
  clear BK3
  have BK3 := hn_
  clear hn_
  have hn_ := Aside0.mk (blk_below BK60.out hq_)
  clear hczb58_0 hfzb58_0; clear hczb58_1 hfzb58_1; clear hczb58_2 hfzb58_2
  clear BK60
  have BK60 := hn_
  clear hn_
  clear hq_
  obtain ⟨hczb1_0, hfzb1_0, hczb1_1, hfzb1_1, hczb1_2, hfzb1_2⟩ := bk3 BK3.out
  obtain ⟨hczb58_0, hfzb58_0, hczb58_1, hfzb58_1, hczb58_2, hfzb58_2⟩ := bk3 BK60.out
  clear hb
  go_wp2_with fail
  have hb : Below w81.heap.size w81 w81.drew := below_drew (Below.refl _ _)
  obtain ⟨w84, hw_⟩ : ∃ w84, w81.drew = w84 := ⟨_, rfl⟩
  rw [hw_] at hb
  have hq_ : Below w81.heap.size w81 w84 := ⟨hb.os, hb.tape, hb.output, hb.size, hb.block⟩
  have HZ85 := Aside0.mk (show w81.heap.size ≤ w84.heap.size from hq_.size)
  replace HB := Aside0.mk (below_then HB.out HB.out.size hq_)
  have HA86 := Aside0.mk (show w.heap.size ≤ w84.heap.size from HB.out.size)
  replace F24 := Aside0.mk (Kd.S_below F24.out hq_)
  replace F27 := Aside0.mk (Kd.R_below F27.out hq_)
  replace F38 := Aside0.mk (Kd.R_below F38.out hq_)
  replace F52 := Aside0.mk (Kd.S_below F52.out hq_)
  replace F55 := Aside0.mk (Kd.R_below F55.out hq_)
  replace F76 := Aside0.mk (Kd.R_below F76.out hq_)
  have hn_ := Aside0.mk (blk_below BK3.out hq_)
  clear hczb1_0 hfzb1_0; clear hczb1_1 hfzb1_1; clear hczb1_2 hfzb1_2
  clear BK3
  have BK3 := hn_
  clear hn_
  have hn_ := Aside0.mk (blk_below BK60.out hq_)
  clear hczb58_0 hfzb58_0; clear hczb58_1 hfzb58_1; clear hczb58_2 hfzb58_2
  clear BK60
  have BK60 := hn_
  clear hn_
  clear hq_
  obtain ⟨hczb1_0, hfzb1_0, hczb1_1, hfzb1_1, hczb1_2, hfzb1_2⟩ := bk3 BK3.out
  obtain ⟨hczb58_0, hfzb58_0, hczb58_1, hfzb58_1, hczb58_2, hfzb58_2⟩ := bk3 BK60.out
  refine start_ (n := 5) (S := fun w' => w'.cell? ⟨gb59, 0, none⟩ = some (.slice A53 t41.length c54) ∧ w'.cell? ⟨gb59, 1, none⟩ = some (.slice A56 t42.length c57) ∧ w'.cell? ⟨gb59, 2, none⟩ = some (.bool t43) ∧ w'.cell? ⟨gb2, 0, none⟩ = some (.slice A0_0 l0_0.length c0_0) ∧ w'.cell? ⟨gb2, 1, none⟩ = some (.slice A0_1 l0_1.length c0_1) ∧ w'.cell? ⟨gb2, 2, none⟩ = some (.bool a0_2)) (ds := []) (bs 5 0) kR rfl kR (by rw [hw_]; exact ⟨bZ BK60.out 0, bZ BK60.out 1, bZ BK60.out 2, bZ BK3.out 0, bZ BK3.out 1, bZ BK3.out 2⟩) (fun hHeld => ?_)
  rw [hw_] at hHeld ⊢
  clear hw_ hb
  refine take_ (i := 0) (N := some 41) (v := ?_) (a' := ?_) (bs 5 1) rfl rfl (by kernel_rfl) (fun _ _ _ h => h) (Or.inl ⟨by rfl, ?_⟩) hHeld ?_ ?_
  rotate_left
  · rintro w' ⟨s0, s1, s2, s3, s4, s5⟩
    go_simp
    with_reducible rfl
  rotate_left
  · simp only [Act.put, List.setIfInBounds_toArray, List.set_cons_zero, List.set_cons_succ, i64_w, i32_w]
    rfl
  refine take_ (i := 1) (N := some 42) (v := ?_) (a' := ?_) (bs 5 3) rfl rfl (by kernel_rfl) (fun _ _ _ h => h) (Or.inl ⟨by rfl, ?_⟩) hHeld ?_ ?_
  rotate_left
  · rintro w' ⟨s0, s1, s2, s3, s4, s5⟩
    go_simp
    with_reducible rfl
  rotate_left
  · simp only [Act.put, List.setIfInBounds_toArray, List.set_cons_zero, List.set_cons_succ, i64_w, i32_w]
    rfl
  refine one_ (i := 2) (N := some 43) (bs 5 7) rfl rfl (by kernel_rfl) (by decide) (fun K hK => ?_)
  refine goes_ Try.func14 (by kernel_rfl) rfl #[.agg #[.slice A0_0 l0_0.length c0_0, .slice A0_1 l0_1.length c0_1, .bool a0_2]] (by rfl) rfl rfl (by (try simp only [List.map_toArray, List.map_cons, List.map_nil]); first | done | rfl | (simp only [List.length_drop, List.length_take]; rfl)) ?_
  refine (laws_toMarker.calls k _ _ l0_0 _ _ l0_1 a0_2 t87 t88 t89 _ (Kd.C_below HR0_0.out HB.out) HC0_0.out (Kd.C_below HR0_1.out HB.out) HC0_1.out H90.out).mono ?_
  rintro e_ w91 ⟨v92, v93, rfl, f94, f95, hb⟩
  have hq_ : Below w84.heap.size w84 w91 := ⟨hb.os, hb.tape, hb.output, hb.size, hb.block⟩
  have HZ96 := Aside0.mk (show w84.heap.size ≤ w91.heap.size from hq_.size)
  replace HB := Aside0.mk (below_then HB.out HB.out.size hq_)
  have HA97 := Aside0.mk (show w.heap.size ≤ w91.heap.size from HB.out.size)
  replace F24 := Aside0.mk (Kd.S_below F24.out hq_)
  replace F27 := Aside0.mk (Kd.R_below F27.out hq_)
  replace F38 := Aside0.mk (Kd.R_below F38.out hq_)
  replace F52 := Aside0.mk (Kd.S_below F52.out hq_)
  replace F55 := Aside0.mk (Kd.R_below F55.out hq_)
  replace F76 := Aside0.mk (Kd.R_below F76.out hq_)
  have hn_ := Aside0.mk (blk_below BK3.out hq_)
  clear hczb1_0 hfzb1_0; clear hczb1_1 hfzb1_1; clear hczb1_2 hfzb1_2
  clear BK3
  have BK3 := hn_
  clear hn_
  have hn_ := Aside0.mk (blk_below BK60.out hq_)
  clear hczb58_0 hfzb58_0; clear hczb58_1 hfzb58_1; clear hczb58_2 hfzb58_2
  clear BK60
  have BK60 := hn_
  clear hn_
  clear hq_
  obtain ⟨hczb1_0, hfzb1_0, hczb1_1, hfzb1_1, hczb1_2, hfzb1_2⟩ := bk3 BK3.out
  obtain ⟨hczb58_0, hfzb58_0, hczb58_1, hfzb58_1, hczb58_2, hfzb58_2⟩ := bk3 BK60.out
  clear hb
  refine ⟨_, rfl, ?_⟩
  have F98 := Aside0.mk (Lk.newS (b := w84.heap.size) (base := w.heap.size) (Sep := fun k_ => some k_ ≠ (v93 : Value).ownBlock) f94 (HA86.out) (fun k_ hk_ => hk_))
  clear f94
  have F101 := Aside0.mk (Lk.newR (b := w84.heap.size) (base := w.heap.size) (Sep := fun k_ => True) rfl f95 (HA86.out) (fun k_ hk_ => hk_))
  clear f95
  obtain ⟨A99, c100, e_⟩ := Kd.S_slice F98.out
  subst e_
  obtain ⟨A102, c103, e_⟩ := Kd.R_slice F101.out
  subst e_
  refine hK.out _ _ ⟨bZ BK60.out 0, bZ BK60.out 1, bZ BK60.out 2, bZ BK3.out 0, bZ BK3.out 1, bZ BK3.out 2⟩ (fun hHeld => ?_)
  clear hK K
  refine norm_ (a' := ?_) ?_ ?_
  rotate_left
  · show Act.put _ (some 43) _ = _
    simp only [Act.put, List.setIfInBounds_toArray, List.set_cons_zero, List.set_cons_succ, i64_w, i32_w]
    rfl
  refine one_ (i := 3) (N := some 44) (bs 5 15) rfl rfl (by kernel_rfl) (by decide) (fun K hK => ?_)
  refine goes_ Try.func9 (by kernel_rfl) rfl #[.agg #[.slice A53 t41.length c54, .slice A56 t42.length c57, .bool t43], .agg #[.slice A99 t87.length c100, .slice A102 t88.length c103, .bool t89]] (by rfl) rfl rfl (by (try simp only [List.map_toArray, List.map_cons, List.map_nil]); first | done | rfl | (simp only [List.length_drop, List.length_take]; rfl)) ?_
  refine (laws_eqMarker.calls k _ _ t41 _ _ t42 t43 _ _ t87 _ _ t88 t89 true _ (Lk.Sr F52.out).2 (Lk.Sr F52.out).1 (Lk.Rr F55.out).2 (Lk.Rr F55.out).1 (Lk.Sr F98.out).2 (Lk.Sr F98.out).1 (Lk.Rr F101.out).2 (Lk.Rr F101.out).1 H105.out).mono ?_
  rintro e_ w106 ⟨rfl, hb⟩
  have hq_ : Below w91.heap.size w91 w106 := ⟨hb.os, hb.tape, hb.output, hb.size, hb.block⟩
  have HZ107 := Aside0.mk (show w91.heap.size ≤ w106.heap.size from hq_.size)
  replace HB := Aside0.mk (below_then HB.out HB.out.size hq_)
  have HA108 := Aside0.mk (show w.heap.size ≤ w106.heap.size from HB.out.size)
  replace F24 := Aside0.mk (Kd.S_below F24.out hq_)
  replace F27 := Aside0.mk (Kd.R_below F27.out hq_)
  replace F38 := Aside0.mk (Kd.R_below F38.out hq_)
  replace F52 := Aside0.mk (Kd.S_below F52.out hq_)
  replace F55 := Aside0.mk (Kd.R_below F55.out hq_)
  replace F76 := Aside0.mk (Kd.R_below F76.out hq_)
  replace F98 := Aside0.mk (Kd.S_below F98.out hq_)
  replace F101 := Aside0.mk (Kd.R_below F101.out hq_)
  have hn_ := Aside0.mk (blk_below BK3.out hq_)
  clear hczb1_0 hfzb1_0; clear hczb1_1 hfzb1_1; clear hczb1_2 hfzb1_2
  clear BK3
  have BK3 := hn_
  clear hn_
  have hn_ := Aside0.mk (blk_below BK60.out hq_)
  clear hczb58_0 hfzb58_0; clear hczb58_1 hfzb58_1; clear hczb58_2 hfzb58_2
  clear BK60
  have BK60 := hn_
  clear hn_
  clear hq_
  obtain ⟨hczb1_0, hfzb1_0, hczb1_1, hfzb1_1, hczb1_2, hfzb1_2⟩ := bk3 BK3.out
  obtain ⟨hczb58_0, hfzb58_0, hczb58_1, hfzb58_1, hczb58_2, hfzb58_2⟩ := bk3 BK60.out
  clear hb
  refine ⟨_, rfl, ?_⟩
  refine hK.out _ _ ⟨bZ BK60.out 0, bZ BK60.out 1, bZ BK60.out 2, bZ BK3.out 0, bZ BK3.out 1, bZ BK3.out 2⟩ (fun hHeld => ?_)
  clear hK K
  refine norm_ (a' := ?_) ?_ ?_
  rotate_left
  · show Act.put _ (some 44) _ = _
    simp only [Act.put, List.setIfInBounds_toArray, List.set_cons_zero, List.set_cons_succ, i64_w, i32_w]
    rfl
  refine pure_ (i := 4) (N := some 45) (v := ?_) (a' := ?_) (bs 5 31) rfl rfl (by kernel_rfl) (fun _ _ _ h => h) (Or.inl ⟨by rfl, ?_⟩) ?_ ?_
  rotate_left
  · intro w'
    go_simp
    with_reducible rfl
  rotate_left
  · simp only [Act.put, List.setIfInBounds_toArray, List.set_cons_zero, List.set_cons_succ, i64_w, i32_w]
    rfl
  refine done_ (by kernel_rfl) ?_
  go_wp2_with fail
  have hn_ := H110.out
  refine (laws_markMarker.calls (fun k_ => w33.heap.size ≤ k_ ∧ k_ < w45.heap.size) _ t41 _ t42 t43 1 w _ HB.out F52.out F55.out (by omega) hn_).mono ?_
  rintro e_ w109 ⟨rfl, f0_, f1_, hb0_, hk_⟩
  have hk2_ : Kept w106 w109 (fun k_ => w33.heap.size ≤ k_ ∧ k_ < w45.heap.size) := Kept.mono hk_ (fun k_ h_ => by first | exact h_ | exact h_.1)
  have HZ111 := Aside0.mk (show w106.heap.size ≤ w109.heap.size from hk2_.1)
  clear HB
  have HB := Aside0.mk hb0_
  have hn_ := Aside0.mk (Kd.S_kept F24.out hk2_ (fun k_ h1_ h2_ => by skip; have := HZ36.out; have h3_ := h1_.1; omega))
  clear F24
  have F24 := hn_
  clear hn_
  have hn_ := Aside0.mk (Kd.R_kept F27.out hk2_ (fun k_ h1_ h2_ => by skip; have := HZ36.out; have h3_ := h1_.1; omega))
  clear F27
  have F27 := hn_
  clear hn_
  have hn_ := Aside0.mk (Kd.R_kept F38.out hk2_ (fun k_ h1_ h2_ => by skip; have h3_ := h1_.1; omega))
  clear F38
  have F38 := hn_
  clear hn_
  have hn_ := Aside0.mk (Kd.R_kept F76.out hk2_ (fun k_ h1_ h2_ => by skip; have := HZ63.out; have := HZ66.out; have h3_ := h1_.1; omega))
  clear F76
  have F76 := hn_
  clear hn_
  have hn_ := Aside0.mk (Kd.S_kept F98.out hk2_ (fun k_ h1_ h2_ => by skip; have := HZ63.out; have := HZ66.out; have := HZ74.out; have := HZ82.out; have := HZ85.out; have h3_ := h1_.1; omega))
  clear F98
  have F98 := hn_
  clear hn_
  have hn_ := Aside0.mk (Kd.R_kept F101.out hk2_ (fun k_ h1_ h2_ => by skip; have := HZ63.out; have := HZ66.out; have := HZ74.out; have := HZ82.out; have := HZ85.out; have h3_ := h1_.1; omega))
  clear F101
  have F101 := hn_
  clear hn_
  have hn_ := Aside0.mk (f0_)
  have F52n := hn_
  clear hn_
  have hn_ := Aside0.mk (f1_)
  have F55n := hn_
  clear hn_
  clear F52
  have F52 := F52n
  clear F52n
  clear F55
  have F55 := F55n
  clear F55n
  have hn_ := Aside0.mk (blk_kept BK3.out hk2_ (fun h_ => by skip; have := HZ11.out; have := HZ22.out; have := HZ36.out; have := GQ4.out; omega))
  clear hczb1_0 hfzb1_0; clear hczb1_1 hfzb1_1; clear hczb1_2 hfzb1_2
  clear BK3
  have BK3 := hn_
  clear hn_
  have hn_ := Aside0.mk (blk_kept BK60.out hk2_ (fun h_ => by skip; have := GQ61.out; omega))
  clear hczb58_0 hfzb58_0; clear hczb58_1 hfzb58_1; clear hczb58_2 hfzb58_2
  clear BK60
  have BK60 := hn_
  clear hn_
  clear hk2_ hk_ hb0_ f0_ f1_
  obtain ⟨hczb1_0, hfzb1_0, hczb1_1, hfzb1_1, hczb1_2, hfzb1_2⟩ := bk3 BK3.out
  obtain ⟨hczb58_0, hfzb58_0, hczb58_1, hfzb58_1, hczb58_2, hfzb58_2⟩ := bk3 BK60.out
  have hl112 := (Kd.S_reads' F52.out).1
  have HL112 := Aside0.mk hl112
  clear hl112
  have hl113 := (Kd.R_reads' F55.out).1
  have HL113 := Aside0.mk hl113
  clear hl113
  have hn1_ : decide ((1 + (markCellS_cnt t41 : Nat) + (t42.length : Nat) : Int) < 0) = false := decide_eq_false (by omega)
  have hd114 := hn1_
  clear hn1_
  go_wp2_with fail
  refine (laws_eqIntS.calls k _ _ t68 _ _ t30 true _ (Lk.Rr F76.out).2 (Lk.Rr F76.out).1 (Lk.Rr F38.out).2 (Lk.Rr F38.out).1 H116.out).mono ?_
  rintro e_ w117 ⟨rfl, ⟨nd_, hd_⟩⟩
  have hb : Below w109.heap.size w109 w117 := by rw [hd_]; exact pw_below_drewN (Below.refl _ _) nd_
  clear hd_
  have hq_ : Below w109.heap.size w109 w117 := ⟨hb.os, hb.tape, hb.output, hb.size, hb.block⟩
  have HZ118 := Aside0.mk (show w109.heap.size ≤ w117.heap.size from hq_.size)
  replace HB := Aside0.mk (below_then HB.out HB.out.size hq_)
  have HA119 := Aside0.mk (show w.heap.size ≤ w117.heap.size from HB.out.size)
  replace F24 := Aside0.mk (Kd.S_below F24.out hq_)
  replace F27 := Aside0.mk (Kd.R_below F27.out hq_)
  replace F38 := Aside0.mk (Kd.R_below F38.out hq_)
  replace F52 := Aside0.mk (Kd.S_below F52.out hq_)
  replace F55 := Aside0.mk (Kd.R_below F55.out hq_)
  replace F76 := Aside0.mk (Kd.R_below F76.out hq_)
  replace F98 := Aside0.mk (Kd.S_below F98.out hq_)
  replace F101 := Aside0.mk (Kd.R_below F101.out hq_)
  have hn_ := Aside0.mk (blk_below BK3.out hq_)
  clear hczb1_0 hfzb1_0; clear hczb1_1 hfzb1_1; clear hczb1_2 hfzb1_2
  clear BK3
  have BK3 := hn_
  clear hn_
  have hn_ := Aside0.mk (blk_below BK60.out hq_)
  clear hczb58_0 hfzb58_0; clear hczb58_1 hfzb58_1; clear hczb58_2 hfzb58_2
  clear BK60
  have BK60 := hn_
  clear hn_
  clear hq_
  obtain ⟨hczb1_0, hfzb1_0, hczb1_1, hfzb1_1, hczb1_2, hfzb1_2⟩ := bk3 BK3.out
  obtain ⟨hczb58_0, hfzb58_0, hczb58_1, hfzb58_1, hczb58_2, hfzb58_2⟩ := bk3 BK60.out
  clear hb
  go_wp2_with fail
  refine (laws_markIntS.calls k (fun k_ => (w65.heap.size ≤ k_ ∧ k_ < w71.heap.size) ∧ some k_ = (.slice A77 t68.length c78 : Value).ownBlock ∧ (True)) _ t68 1 t121 t122 w _ HB.out F76.out H123.out).mono ?_
  rintro e_ w120 ⟨rfl, f0_, hb0_, hk_⟩
  have hk2_ : Kept w117 w120 (fun k_ => w65.heap.size ≤ k_ ∧ k_ < w71.heap.size) := Kept.mono hk_ (fun k_ h_ => by first | exact h_ | exact h_.1)
  have HZ125 := Aside0.mk (show w117.heap.size ≤ w120.heap.size from hk2_.1)
  clear HB
  have HB := Aside0.mk hb0_
  have hn_ := Aside0.mk (Kd.S_kept F24.out hk2_ (fun k_ h1_ h2_ => by skip; have := HZ36.out; have := HZ50.out; have := HZ63.out; have := HZ66.out; have h3_ := h1_.1; omega))
  clear F24
  have F24 := hn_
  clear hn_
  have hn_ := Aside0.mk (Kd.R_kept F27.out hk2_ (fun k_ h1_ h2_ => by skip; have := HZ36.out; have := HZ50.out; have := HZ63.out; have := HZ66.out; have h3_ := h1_.1; omega))
  clear F27
  have F27 := hn_
  clear hn_
  have hn_ := Aside0.mk (Kd.R_kept F38.out hk2_ (fun k_ h1_ h2_ => by skip; have := HZ50.out; have := HZ63.out; have := HZ66.out; have h3_ := h1_.1; omega))
  clear F38
  have F38 := hn_
  clear hn_
  have hn_ := Aside0.mk (Kd.S_kept F52.out hk2_ (fun k_ h1_ h2_ => by skip; have := HZ63.out; have := HZ66.out; have h3_ := h1_.1; omega))
  clear F52
  have F52 := hn_
  clear hn_
  have hn_ := Aside0.mk (Kd.R_kept F55.out hk2_ (fun k_ h1_ h2_ => by skip; have := HZ63.out; have := HZ66.out; have h3_ := h1_.1; omega))
  clear F55
  have F55 := hn_
  clear hn_
  have hn_ := Aside0.mk (Kd.S_kept F98.out hk2_ (fun k_ h1_ h2_ => by skip; have := HZ82.out; have := HZ85.out; have h3_ := h1_.1; omega))
  clear F98
  have F98 := hn_
  clear hn_
  have hn_ := Aside0.mk (Kd.R_kept F101.out hk2_ (fun k_ h1_ h2_ => by skip; have := HZ82.out; have := HZ85.out; have h3_ := h1_.1; omega))
  clear F101
  have F101 := hn_
  clear hn_
  have hn_ := Aside0.mk (Lk.markedR rfl f0_ (fun k_ e_ => (show (w65.heap.size ≤ k_ ∧ k_ < w71.heap.size) ∧ some k_ = (.slice A77 t68.length c78 : Value).ownBlock ∧ (True) from (F76.out.1 k_ e_.symm))))
  have F76n := hn_
  clear hn_
  clear F76
  have F76 := F76n
  clear F76n
  have hn_ := Aside0.mk (blk_kept BK3.out hk2_ (fun h_ => by skip; have := HZ11.out; have := HZ22.out; have := HZ36.out; have := HZ50.out; have := HZ63.out; have := HZ66.out; have := GQ4.out; omega))
  clear hczb1_0 hfzb1_0; clear hczb1_1 hfzb1_1; clear hczb1_2 hfzb1_2
  clear BK3
  have BK3 := hn_
  clear hn_
  have hn_ := Aside0.mk (blk_kept BK60.out hk2_ (fun h_ => by skip; have := HZ66.out; have := GQ61.out; omega))
  clear hczb58_0 hfzb58_0; clear hczb58_1 hfzb58_1; clear hczb58_2 hfzb58_2
  clear BK60
  have BK60 := hn_
  clear hn_
  clear hk2_ hk_ hb0_ f0_
  obtain ⟨hczb1_0, hfzb1_0, hczb1_1, hfzb1_1, hczb1_2, hfzb1_2⟩ := bk3 BK3.out
  obtain ⟨hczb58_0, hfzb58_0, hczb58_1, hfzb58_1, hczb58_2, hfzb58_2⟩ := bk3 BK60.out
  have hl126 := (Kd.R_reads' F76.out).1
  have HL126 := Aside0.mk hl126
  clear hl126
  have hn1_ : decide (t121 < 0) = false := decide_eq_false (by have := H124.out; omega)
  have hd127 := hn1_
  clear hn1_
  go_wp2_with fail
  have hc_ := laws_heldIntS.calls k _ _ t122 1 t121 _ (Lk.Rr F76.out).2 (Lk.Rr F76.out).1 H129.out
  simp only [← HL126.out] at hc_
  refine hc_.mono ?_
  clear hc_
  rintro e_ w130 ⟨rfl, ⟨nd_, hd_⟩⟩
  have hb : Below w120.heap.size w120 w130 := by rw [hd_]; exact pw_below_drewN (Below.refl _ _) nd_
  clear hd_
  have hq_ : Below w120.heap.size w120 w130 := ⟨hb.os, hb.tape, hb.output, hb.size, hb.block⟩
  have HZ131 := Aside0.mk (show w120.heap.size ≤ w130.heap.size from hq_.size)
  replace HB := Aside0.mk (below_then HB.out HB.out.size hq_)
  have HA132 := Aside0.mk (show w.heap.size ≤ w130.heap.size from HB.out.size)
  replace F24 := Aside0.mk (Kd.S_below F24.out hq_)
  replace F27 := Aside0.mk (Kd.R_below F27.out hq_)
  replace F38 := Aside0.mk (Kd.R_below F38.out hq_)
  replace F52 := Aside0.mk (Kd.S_below F52.out hq_)
  replace F55 := Aside0.mk (Kd.R_below F55.out hq_)
  replace F76 := Aside0.mk (Kd.R_below F76.out hq_)
  replace F98 := Aside0.mk (Kd.S_below F98.out hq_)
  replace F101 := Aside0.mk (Kd.R_below F101.out hq_)
  have hn_ := Aside0.mk (blk_below BK3.out hq_)
  clear hczb1_0 hfzb1_0; clear hczb1_1 hfzb1_1; clear hczb1_2 hfzb1_2
  clear BK3
  have BK3 := hn_
  clear hn_
  have hn_ := Aside0.mk (blk_below BK60.out hq_)
  clear hczb58_0 hfzb58_0; clear hczb58_1 hfzb58_1; clear hczb58_2 hfzb58_2
  clear BK60
  have BK60 := hn_
  clear hn_
  clear hq_
  obtain ⟨hczb1_0, hfzb1_0, hczb1_1, hfzb1_1, hczb1_2, hfzb1_2⟩ := bk3 BK3.out
  obtain ⟨hczb58_0, hfzb58_0, hczb58_1, hfzb58_1, hczb58_2, hfzb58_2⟩ := bk3 BK60.out
  clear hb
  go_wp2_with fail
  refine (laws_toMarker.calls k _ _ l0_0 _ _ l0_1 a0_2 t133 t134 t135 _ (Kd.C_below HR0_0.out HB.out) HC0_0.out (Kd.C_below HR0_1.out HB.out) HC0_1.out H136.out).mono ?_
  rintro e_ w137 ⟨v138, v139, rfl, f140, f141, hb⟩
  have hq_ : Below w130.heap.size w130 w137 := ⟨hb.os, hb.tape, hb.output, hb.size, hb.block⟩
  have HZ142 := Aside0.mk (show w130.heap.size ≤ w137.heap.size from hq_.size)
  replace HB := Aside0.mk (below_then HB.out HB.out.size hq_)
  have HA143 := Aside0.mk (show w.heap.size ≤ w137.heap.size from HB.out.size)
  replace F24 := Aside0.mk (Kd.S_below F24.out hq_)
  replace F27 := Aside0.mk (Kd.R_below F27.out hq_)
  replace F38 := Aside0.mk (Kd.R_below F38.out hq_)
  replace F52 := Aside0.mk (Kd.S_below F52.out hq_)
  replace F55 := Aside0.mk (Kd.R_below F55.out hq_)
  replace F76 := Aside0.mk (Kd.R_below F76.out hq_)
  replace F98 := Aside0.mk (Kd.S_below F98.out hq_)
  replace F101 := Aside0.mk (Kd.R_below F101.out hq_)
  have hn_ := Aside0.mk (blk_below BK3.out hq_)
  clear hczb1_0 hfzb1_0; clear hczb1_1 hfzb1_1; clear hczb1_2 hfzb1_2
  clear BK3
  have BK3 := hn_
  clear hn_
  have hn_ := Aside0.mk (blk_below BK60.out hq_)
  clear hczb58_0 hfzb58_0; clear hczb58_1 hfzb58_1; clear hczb58_2 hfzb58_2
  clear BK60
  have BK60 := hn_
  clear hn_
  clear hq_
  obtain ⟨hczb1_0, hfzb1_0, hczb1_1, hfzb1_1, hczb1_2, hfzb1_2⟩ := bk3 BK3.out
  obtain ⟨hczb58_0, hfzb58_0, hczb58_1, hfzb58_1, hczb58_2, hfzb58_2⟩ := bk3 BK60.out
  clear hb
  have F144 := Aside0.mk (Lk.newS (b := w130.heap.size) (base := w.heap.size) (Sep := fun k_ => some k_ ≠ (v139 : Value).ownBlock) f140 (HA132.out) (fun k_ hk_ => hk_))
  clear f140
  have F147 := Aside0.mk (Lk.newR (b := w130.heap.size) (base := w.heap.size) (Sep := fun k_ => True) rfl f141 (HA132.out) (fun k_ hk_ => hk_))
  clear f141
  obtain ⟨A145, c146, e_⟩ := Kd.S_slice F144.out
  subst e_
  obtain ⟨A148, c149, e_⟩ := Kd.R_slice F147.out
  subst e_
  go_wp2_with fail
  refine (impl_LiveIn.calls k _ _ t133 _ _ t134 t135 t150 t31 _ (Lk.Sr F144.out).2 (Lk.Sr F144.out).1 (Lk.Rr F147.out).2 (Lk.Rr F147.out).1 H152.out).mono ?_
  rintro e_ w153 ⟨v154, rfl, f155, hb⟩
  have hq_ : Below w137.heap.size w137 w153 := ⟨hb.os, hb.tape, hb.output, hb.size, hb.block⟩
  have HZ156 := Aside0.mk (show w137.heap.size ≤ w153.heap.size from hq_.size)
  replace HB := Aside0.mk (below_then HB.out HB.out.size hq_)
  have HA157 := Aside0.mk (show w.heap.size ≤ w153.heap.size from HB.out.size)
  replace F24 := Aside0.mk (Kd.S_below F24.out hq_)
  replace F27 := Aside0.mk (Kd.R_below F27.out hq_)
  replace F38 := Aside0.mk (Kd.R_below F38.out hq_)
  replace F52 := Aside0.mk (Kd.S_below F52.out hq_)
  replace F55 := Aside0.mk (Kd.R_below F55.out hq_)
  replace F76 := Aside0.mk (Kd.R_below F76.out hq_)
  replace F98 := Aside0.mk (Kd.S_below F98.out hq_)
  replace F101 := Aside0.mk (Kd.R_below F101.out hq_)
  replace F144 := Aside0.mk (Kd.S_below F144.out hq_)
  replace F147 := Aside0.mk (Kd.R_below F147.out hq_)
  have hn_ := Aside0.mk (blk_below BK3.out hq_)
  clear hczb1_0 hfzb1_0; clear hczb1_1 hfzb1_1; clear hczb1_2 hfzb1_2
  clear BK3
  have BK3 := hn_
  clear hn_
  have hn_ := Aside0.mk (blk_below BK60.out hq_)
  clear hczb58_0 hfzb58_0; clear hczb58_1 hfzb58_1; clear hczb58_2 hfzb58_2
  clear BK60
  have BK60 := hn_
  clear hn_
  clear hq_
  obtain ⟨hczb1_0, hfzb1_0, hczb1_1, hfzb1_1, hczb1_2, hfzb1_2⟩ := bk3 BK3.out
  obtain ⟨hczb58_0, hfzb58_0, hczb58_1, hfzb58_1, hczb58_2, hfzb58_2⟩ := bk3 BK60.out
  clear hb
  have F158 := Aside0.mk (Lk.newR (b := w137.heap.size) (base := w.heap.size) (Sep := fun k_ => True) rfl f155 (HA143.out) (fun k_ hk_ => hk_))
  clear f155
  obtain ⟨A159, c160, e_⟩ := Kd.R_slice F158.out
  subst e_
  go_wp2_with fail
  refine (laws_eqIntS.calls k _ _ t150 _ _ t30 true _ (Lk.Rr F158.out).2 (Lk.Rr F158.out).1 (Lk.Rr F38.out).2 (Lk.Rr F38.out).1 H162.out).mono ?_
  rintro e_ w163 ⟨rfl, ⟨nd_, hd_⟩⟩
  have hb : Below w153.heap.size w153 w163 := by rw [hd_]; exact pw_below_drewN (Below.refl _ _) nd_
  clear hd_
  have hq_ : Below w153.heap.size w153 w163 := ⟨hb.os, hb.tape, hb.output, hb.size, hb.block⟩
  have HZ164 := Aside0.mk (show w153.heap.size ≤ w163.heap.size from hq_.size)
  replace HB := Aside0.mk (below_then HB.out HB.out.size hq_)
  have HA165 := Aside0.mk (show w.heap.size ≤ w163.heap.size from HB.out.size)
  replace F24 := Aside0.mk (Kd.S_below F24.out hq_)
  replace F27 := Aside0.mk (Kd.R_below F27.out hq_)
  replace F38 := Aside0.mk (Kd.R_below F38.out hq_)
  replace F52 := Aside0.mk (Kd.S_below F52.out hq_)
  replace F55 := Aside0.mk (Kd.R_below F55.out hq_)
  replace F76 := Aside0.mk (Kd.R_below F76.out hq_)
  replace F98 := Aside0.mk (Kd.S_below F98.out hq_)
  replace F101 := Aside0.mk (Kd.R_below F101.out hq_)
  replace F144 := Aside0.mk (Kd.S_below F144.out hq_)
  replace F147 := Aside0.mk (Kd.R_below F147.out hq_)
  replace F158 := Aside0.mk (Kd.R_below F158.out hq_)
  have hn_ := Aside0.mk (blk_below BK3.out hq_)
  clear hczb1_0 hfzb1_0; clear hczb1_1 hfzb1_1; clear hczb1_2 hfzb1_2
  clear BK3
  have BK3 := hn_
  clear hn_
  have hn_ := Aside0.mk (blk_below BK60.out hq_)
  clear hczb58_0 hfzb58_0; clear hczb58_1 hfzb58_1; clear hczb58_2 hfzb58_2
  clear BK60
  have BK60 := hn_
  clear hn_
  clear hq_
  obtain ⟨hczb1_0, hfzb1_0, hczb1_1, hfzb1_1, hczb1_2, hfzb1_2⟩ := bk3 BK3.out
  obtain ⟨hczb58_0, hfzb58_0, hczb58_1, hfzb58_1, hczb58_2, hfzb58_2⟩ := bk3 BK60.out
  clear hb
  go_wp2_with fail
  have hc_ := laws_heldIntS.calls k _ _ t122 1 t121 _ (Lk.Rr F76.out).2 (Lk.Rr F76.out).1 H167.out
  simp only [← HL126.out] at hc_
  refine hc_.mono ?_
  clear hc_
  rintro e_ w168 ⟨rfl, ⟨nd_, hd_⟩⟩
  have hb : Below w163.heap.size w163 w168 := by rw [hd_]; exact pw_below_drewN (Below.refl _ _) nd_
  clear hd_
  have hq_ : Below w163.heap.size w163 w168 := ⟨hb.os, hb.tape, hb.output, hb.size, hb.block⟩
  have HZ169 := Aside0.mk (show w163.heap.size ≤ w168.heap.size from hq_.size)
  replace HB := Aside0.mk (below_then HB.out HB.out.size hq_)
  have HA170 := Aside0.mk (show w.heap.size ≤ w168.heap.size from HB.out.size)
  replace F24 := Aside0.mk (Kd.S_below F24.out hq_)
  replace F27 := Aside0.mk (Kd.R_below F27.out hq_)
  replace F38 := Aside0.mk (Kd.R_below F38.out hq_)
  replace F52 := Aside0.mk (Kd.S_below F52.out hq_)
  replace F55 := Aside0.mk (Kd.R_below F55.out hq_)
  replace F76 := Aside0.mk (Kd.R_below F76.out hq_)
  replace F98 := Aside0.mk (Kd.S_below F98.out hq_)
  replace F101 := Aside0.mk (Kd.R_below F101.out hq_)
  replace F144 := Aside0.mk (Kd.S_below F144.out hq_)
  replace F147 := Aside0.mk (Kd.R_below F147.out hq_)
  replace F158 := Aside0.mk (Kd.R_below F158.out hq_)
  have hn_ := Aside0.mk (blk_below BK3.out hq_)
  clear hczb1_0 hfzb1_0; clear hczb1_1 hfzb1_1; clear hczb1_2 hfzb1_2
  clear BK3
  have BK3 := hn_
  clear hn_
  have hn_ := Aside0.mk (blk_below BK60.out hq_)
  clear hczb58_0 hfzb58_0; clear hczb58_1 hfzb58_1; clear hczb58_2 hfzb58_2
  clear BK60
  have BK60 := hn_
  clear hn_
  clear hq_
  obtain ⟨hczb1_0, hfzb1_0, hczb1_1, hfzb1_1, hczb1_2, hfzb1_2⟩ := bk3 BK3.out
  obtain ⟨hczb58_0, hfzb58_0, hczb58_1, hfzb58_1, hczb58_2, hfzb58_2⟩ := bk3 BK60.out
  clear hb
  go_wp2_with fail
  go_ret
  exact ⟨rfl, HB.out⟩
end Go.Proofs.Ytmgnnegmohmbhaa.Q
