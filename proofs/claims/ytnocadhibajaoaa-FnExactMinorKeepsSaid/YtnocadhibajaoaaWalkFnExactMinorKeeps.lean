/- The law FnExactMinorKeeps of this seat: the walk along its one way. Conditions: none. -/
import Derived.Test.YtnocadhibajaoaaQx0
import Derived.Test.YtnocadhibajaoaaQx1
import Derived.Test.YtnocadhibajaoaaQx2
import Derived.Test.YtnocadhibajaoaaQx6
import Derived.Test.YtnocadhibajaoaaQx15
import Derived.Test.YtnocadhibajaoaaGoodFnExactMinorKeeps
import Derived.Test.YtnocadhibajaoaaLk
namespace Go.Proofs.Ytnocadhibajaoaa.Q
open Go.RowKit Go.Proofs.YtnocadhibajaoaaW.PrintWords Go.Proofs.YtnocadhibajaoaaW.PrintLast Go.Proofs.YtnocadhibajaoaaW.PrintMore
set_option linter.unusedVariables false
set_option linter.unusedSimpArgs false
open Lk in
set_option maxHeartbeats 8000000 in
set_option maxRecDepth 100000 in
theorem laws_FnExactMinorKeeps.calls (k : Nat) (A0_0 : Option Addr) (c0_0 : Nat) (l0_0 : List (S59)) (A0_1 : Option Addr) (c0_1 : Nat) (l0_1 : List Int) (A0_2 : Option Addr) (c0_2 : Nat) (l0_2 : List Int) (a0_3 : Int) (r : Bool) (w : World) (hr0_0 : Kd.C k59 w A0_0 l0_0.length l0_0) (hc0_0 : l0_0.length ≤ c0_0) (hr0_1 : Kd.C (Kd.int .i64) w A0_1 l0_1.length l0_1) (hc0_1 : l0_1.length ≤ c0_1) (hr0_2 : Kd.C (Kd.int .i64) w A0_2 l0_2.length l0_2) (hc0_2 : l0_2.length ≤ c0_2) (h : laws_FnExactMinorKeeps.f k l0_0 l0_1 l0_2 a0_3 = some r) :
    Calls Try.prog 8 #[.agg #[.slice A0_0 l0_0.length c0_0, .slice A0_1 l0_1.length c0_1, .slice A0_2 l0_2.length c0_2, .int .i64 a0_3]] w fun e w' => e = .returned (.bool r) ∧ Below w.heap.size w w' := by
  unfold laws_FnExactMinorKeeps.f at h
  split at h
  case isFalse => cases h
  rename_i hg
  obtain rfl := Option.some.inj h
  clear h
  have HR0_0 := Aside0.mk hr0_0
  have HC0_0 := Aside0.mk hc0_0
  clear hr0_0 hc0_0
  have HR0_1 := Aside0.mk hr0_1
  have HC0_1 := Aside0.mk hc0_1
  clear hr0_1 hc0_1
  have HR0_2 := Aside0.mk hr0_2
  have HC0_2 := Aside0.mk hc0_2
  clear hr0_2 hc0_2
  have HB := Aside0.mk (Below.refl w.heap.size w)
  unfold laws_FnExactMinorKeeps.good at hg
  obtain ⟨t8, H90, hg⟩ := hg
  have H9 := Aside0.mk H90
  clear H90
  rcases hg with hs | ⟨hs, hg⟩
  · have hs1_ : decide (t8 < 0) = true := decide_eq_true hs
    clear hs
    go_enter Try.func8, Try.ntmps8
    go_wp2_with (first | ((with_reducible refine gate_dst (N := 1) rfl ?_); refine bxe 1 #[.slice A0_0 l0_0.length c0_0, .slice A0_1 l0_1.length c0_1, .slice A0_2 l0_2.length c0_2, .int .i64 a0_3] 32 ?_; intro gb2 hg_ w5 hx_ hb; have hg2_ : gb2 = w.heap.size := hg_; have hq_ : Below w.heap.size w w5 := ⟨hb.os, hb.tape, hb.output, hb.size, hb.block⟩; have HZ6 := Aside0.mk (show w.heap.size ≤ w5.heap.size from hq_.size); replace HB := Aside0.mk (below_then HB.out HB.out.size hq_); have HA7 := Aside0.mk (show w.heap.size ≤ w5.heap.size from HB.out.size); clear hq_; have BK3 := Aside0.mk hx_; have GQ4 := Aside0.mk (show w.heap.size ≤ gb2 ∧ gb2 < w5.heap.size from ⟨Nat.le_of_eq hg2_.symm, blk_lt hx_⟩); clear hb hg_ hg2_ hx_; obtain ⟨hczb1_0, hfzb1_0, hczb1_1, hfzb1_1, hczb1_2, hfzb1_2, hczb1_3, hfzb1_3⟩ := bk4 BK3.out))
    refine (laws_szHeap.calls k _ _ l0_0 _ _ l0_1 _ _ l0_2 a0_3 1048576 t8 _ (Kd.C_below HR0_0.out HB.out) HC0_0.out (Kd.C_below HR0_1.out HB.out) HC0_1.out (Kd.C_below HR0_2.out HB.out) HC0_2.out H9.out).mono ?_
    rintro e_ w10 ⟨rfl, hb⟩
    have hq_ : Below w5.heap.size w5 w10 := ⟨hb.os, hb.tape, hb.output, hb.size, hb.block⟩
    have HZ11 := Aside0.mk (show w5.heap.size ≤ w10.heap.size from hq_.size)
    replace HB := Aside0.mk (below_then HB.out HB.out.size hq_)
    have HA12 := Aside0.mk (show w.heap.size ≤ w10.heap.size from HB.out.size)
    have hn_ := Aside0.mk (blk_below BK3.out hq_)
    clear hczb1_0 hfzb1_0; clear hczb1_1 hfzb1_1; clear hczb1_2 hfzb1_2; clear hczb1_3 hfzb1_3
    clear BK3
    have BK3 := hn_
    clear hn_
    clear hq_
    obtain ⟨hczb1_0, hfzb1_0, hczb1_1, hfzb1_1, hczb1_2, hfzb1_2, hczb1_3, hfzb1_3⟩ := bk4 BK3.out
    clear hb
    go_wp2_with fail
    go_ret
    exact ⟨rfl, by repeat first | exact HB.out | apply below_alloc⟩
  have hs2_ : decide (t8 < 0) = false := decide_eq_false hs
  clear hs
  obtain ⟨t13, t14, t15, t16, H170, t36, t37, H380, t47, t48, t49, t50, H510, t80, H820, H920, t99, t100, t101, t102, H1030, H1230, H1280, H1350, t140, t141, H1420, H1430, H1480, t152, t153, t154, t155, H1560, t175, H1770, H1870, H1920, hg⟩ := hg
  have H17 := Aside0.mk H170
  clear H170
  have H38 := Aside0.mk H380
  clear H380
  have H51 := Aside0.mk H510
  clear H510
  have H82 := Aside0.mk H820
  clear H820
  have H92 := Aside0.mk H920
  clear H920
  have H103 := Aside0.mk H1030
  clear H1030
  have H123 := Aside0.mk H1230
  clear H1230
  have H128 := Aside0.mk H1280
  clear H1280
  have H135 := Aside0.mk H1350
  clear H1350
  have H142 := Aside0.mk H1420
  clear H1420
  have H143 := Aside0.mk H1430
  clear H1430
  have H148 := Aside0.mk H1480
  clear H1480
  have H156 := Aside0.mk H1560
  clear H1560
  have H177 := Aside0.mk H1770
  clear H1770
  have H187 := Aside0.mk H1870
  clear H1870
  have H192 := Aside0.mk H1920
  clear H1920
  clear hg
  go_enter Try.func8, Try.ntmps8
  go_wp2_with (first | ((with_reducible refine gate_dst (N := 1) rfl ?_); refine bxe 1 #[.slice A0_0 l0_0.length c0_0, .slice A0_1 l0_1.length c0_1, .slice A0_2 l0_2.length c0_2, .int .i64 a0_3] 32 ?_; intro gb2 hg_ w5 hx_ hb; have hg2_ : gb2 = w.heap.size := hg_; have hq_ : Below w.heap.size w w5 := ⟨hb.os, hb.tape, hb.output, hb.size, hb.block⟩; have HZ6 := Aside0.mk (show w.heap.size ≤ w5.heap.size from hq_.size); replace HB := Aside0.mk (below_then HB.out HB.out.size hq_); have HA7 := Aside0.mk (show w.heap.size ≤ w5.heap.size from HB.out.size); clear hq_; have BK3 := Aside0.mk hx_; have GQ4 := Aside0.mk (show w.heap.size ≤ gb2 ∧ gb2 < w5.heap.size from ⟨Nat.le_of_eq hg2_.symm, blk_lt hx_⟩); clear hb hg_ hg2_ hx_; obtain ⟨hczb1_0, hfzb1_0, hczb1_1, hfzb1_1, hczb1_2, hfzb1_2, hczb1_3, hfzb1_3⟩ := bk4 BK3.out))
  refine (laws_szHeap.calls k _ _ l0_0 _ _ l0_1 _ _ l0_2 a0_3 1048576 t8 _ (Kd.C_below HR0_0.out HB.out) HC0_0.out (Kd.C_below HR0_1.out HB.out) HC0_1.out (Kd.C_below HR0_2.out HB.out) HC0_2.out H9.out).mono ?_
  rintro e_ w10 ⟨rfl, hb⟩
  have hq_ : Below w5.heap.size w5 w10 := ⟨hb.os, hb.tape, hb.output, hb.size, hb.block⟩
  have HZ11 := Aside0.mk (show w5.heap.size ≤ w10.heap.size from hq_.size)
  replace HB := Aside0.mk (below_then HB.out HB.out.size hq_)
  have HA12 := Aside0.mk (show w.heap.size ≤ w10.heap.size from HB.out.size)
  have hn_ := Aside0.mk (blk_below BK3.out hq_)
  clear hczb1_0 hfzb1_0; clear hczb1_1 hfzb1_1; clear hczb1_2 hfzb1_2; clear hczb1_3 hfzb1_3
  clear BK3
  have BK3 := hn_
  clear hn_
  clear hq_
  obtain ⟨hczb1_0, hfzb1_0, hczb1_1, hfzb1_1, hczb1_2, hfzb1_2, hczb1_3, hfzb1_3⟩ := bk4 BK3.out
  clear hb
  go_wp2_with fail
  refine (laws_toHeap.calls k _ _ l0_0 _ _ l0_1 _ _ l0_2 a0_3 t13 t14 t15 t16 _ (Kd.C_below HR0_0.out HB.out) HC0_0.out (Kd.C_below HR0_1.out HB.out) HC0_1.out (Kd.C_below HR0_2.out HB.out) HC0_2.out H17.out).mono ?_
  rintro e_ w18 ⟨v19, v20, v21, rfl, f22, f23, f24, hb⟩
  have hq_ : Below w10.heap.size w10 w18 := ⟨hb.os, hb.tape, hb.output, hb.size, hb.block⟩
  have HZ25 := Aside0.mk (show w10.heap.size ≤ w18.heap.size from hq_.size)
  replace HB := Aside0.mk (below_then HB.out HB.out.size hq_)
  have HA26 := Aside0.mk (show w.heap.size ≤ w18.heap.size from HB.out.size)
  have hn_ := Aside0.mk (blk_below BK3.out hq_)
  clear hczb1_0 hfzb1_0; clear hczb1_1 hfzb1_1; clear hczb1_2 hfzb1_2; clear hczb1_3 hfzb1_3
  clear BK3
  have BK3 := hn_
  clear hn_
  clear hq_
  obtain ⟨hczb1_0, hfzb1_0, hczb1_1, hfzb1_1, hczb1_2, hfzb1_2, hczb1_3, hfzb1_3⟩ := bk4 BK3.out
  clear hb
  have F27 := Aside0.mk (Lk.newS (b := w10.heap.size) (base := w.heap.size) (Sep := fun k_ => some k_ ≠ (v20 : Value).ownBlock ∧ some k_ ≠ (v21 : Value).ownBlock) f22 (HA12.out) (fun k_ hk_ => hk_))
  clear f22
  have F30 := Aside0.mk (Lk.newR (b := w10.heap.size) (base := w.heap.size) (Sep := fun k_ => some k_ ≠ (v21 : Value).ownBlock) rfl f23 (HA12.out) (fun k_ hk_ => hk_))
  clear f23
  have F33 := Aside0.mk (Lk.newR (b := w10.heap.size) (base := w.heap.size) (Sep := fun k_ => some k_ ≠ (v20 : Value).ownBlock) rfl f24 (HA12.out) (fun k_ hk_ => hk_))
  clear f24
  obtain ⟨A28, c29, e_⟩ := Kd.S_slice F27.out
  subst e_
  obtain ⟨A31, c32, e_⟩ := Kd.R_slice F30.out
  subst e_
  obtain ⟨A34, c35, e_⟩ := Kd.R_slice F33.out
  subst e_
  go_wp2_with fail
  refine (spec_MinorKeeps.calls k _ _ t13 _ _ t14 _ _ t15 t16 t36 t37 _ (Lk.Sr F27.out).2 (Lk.Sr F27.out).1 (Lk.Rr F30.out).2 (Lk.Rr F30.out).1 (Lk.Rr F33.out).2 (Lk.Rr F33.out).1 H38.out).mono ?_
  rintro e_ w39 ⟨v40, rfl, f41, hb⟩
  have hq_ : Below w18.heap.size w18 w39 := ⟨hb.os, hb.tape, hb.output, hb.size, hb.block⟩
  have HZ42 := Aside0.mk (show w18.heap.size ≤ w39.heap.size from hq_.size)
  replace HB := Aside0.mk (below_then HB.out HB.out.size hq_)
  have HA43 := Aside0.mk (show w.heap.size ≤ w39.heap.size from HB.out.size)
  replace F27 := Aside0.mk (Kd.S_below F27.out hq_)
  replace F30 := Aside0.mk (Kd.R_below F30.out hq_)
  replace F33 := Aside0.mk (Kd.R_below F33.out hq_)
  have hn_ := Aside0.mk (blk_below BK3.out hq_)
  clear hczb1_0 hfzb1_0; clear hczb1_1 hfzb1_1; clear hczb1_2 hfzb1_2; clear hczb1_3 hfzb1_3
  clear BK3
  have BK3 := hn_
  clear hn_
  clear hq_
  obtain ⟨hczb1_0, hfzb1_0, hczb1_1, hfzb1_1, hczb1_2, hfzb1_2, hczb1_3, hfzb1_3⟩ := bk4 BK3.out
  clear hb
  have F44 := Aside0.mk (Lk.newR (b := w18.heap.size) (base := w.heap.size) (Sep := fun k_ => True) rfl f41 (HA26.out) (fun k_ hk_ => hk_))
  clear f41
  obtain ⟨A45, c46, e_⟩ := Kd.R_slice F44.out
  subst e_
  go_wp2_with fail
  refine (laws_toHeap.calls k _ _ l0_0 _ _ l0_1 _ _ l0_2 a0_3 t47 t48 t49 t50 _ (Kd.C_below HR0_0.out HB.out) HC0_0.out (Kd.C_below HR0_1.out HB.out) HC0_1.out (Kd.C_below HR0_2.out HB.out) HC0_2.out H51.out).mono ?_
  rintro e_ w52 ⟨v53, v54, v55, rfl, f56, f57, f58, hb⟩
  have hq_ : Below w39.heap.size w39 w52 := ⟨hb.os, hb.tape, hb.output, hb.size, hb.block⟩
  have HZ59 := Aside0.mk (show w39.heap.size ≤ w52.heap.size from hq_.size)
  replace HB := Aside0.mk (below_then HB.out HB.out.size hq_)
  have HA60 := Aside0.mk (show w.heap.size ≤ w52.heap.size from HB.out.size)
  replace F27 := Aside0.mk (Kd.S_below F27.out hq_)
  replace F30 := Aside0.mk (Kd.R_below F30.out hq_)
  replace F33 := Aside0.mk (Kd.R_below F33.out hq_)
  replace F44 := Aside0.mk (Kd.R_below F44.out hq_)
  have hn_ := Aside0.mk (blk_below BK3.out hq_)
  clear hczb1_0 hfzb1_0; clear hczb1_1 hfzb1_1; clear hczb1_2 hfzb1_2; clear hczb1_3 hfzb1_3
  clear BK3
  have BK3 := hn_
  clear hn_
  clear hq_
  obtain ⟨hczb1_0, hfzb1_0, hczb1_1, hfzb1_1, hczb1_2, hfzb1_2, hczb1_3, hfzb1_3⟩ := bk4 BK3.out
  clear hb
  have F61 := Aside0.mk (Lk.newS (b := w39.heap.size) (base := w.heap.size) (Sep := fun k_ => some k_ ≠ (v54 : Value).ownBlock ∧ some k_ ≠ (v55 : Value).ownBlock) f56 (HA43.out) (fun k_ hk_ => hk_))
  clear f56
  have F64 := Aside0.mk (Lk.newR (b := w39.heap.size) (base := w.heap.size) (Sep := fun k_ => some k_ ≠ (v55 : Value).ownBlock) rfl f57 (HA43.out) (fun k_ hk_ => hk_))
  clear f57
  have F67 := Aside0.mk (Lk.newR (b := w39.heap.size) (base := w.heap.size) (Sep := fun k_ => some k_ ≠ (v54 : Value).ownBlock) rfl f58 (HA43.out) (fun k_ hk_ => hk_))
  clear f58
  obtain ⟨A62, c63, e_⟩ := Kd.S_slice F61.out
  subst e_
  obtain ⟨A65, c66, e_⟩ := Kd.R_slice F64.out
  subst e_
  obtain ⟨A68, c69, e_⟩ := Kd.R_slice F67.out
  subst e_
  go_wp2_with (first | ((with_reducible refine gate_dst (N := 6) rfl ?_); refine bxe 6 #[.slice none 0 0, .slice none 0 0, .slice none 0 0, .int .i64 0] 25 ?_; intro gb71 hg_ w74 hx_ hb; have hg2_ : gb71 = w52.heap.size := hg_; have hq_ : Below w52.heap.size w52 w74 := ⟨hb.os, hb.tape, hb.output, hb.size, hb.block⟩; have HZ75 := Aside0.mk (show w52.heap.size ≤ w74.heap.size from hq_.size); replace HB := Aside0.mk (below_then HB.out HB.out.size hq_); have HA76 := Aside0.mk (show w.heap.size ≤ w74.heap.size from HB.out.size); replace F27 := Aside0.mk (Kd.S_below F27.out hq_); replace F30 := Aside0.mk (Kd.R_below F30.out hq_); replace F33 := Aside0.mk (Kd.R_below F33.out hq_); replace F44 := Aside0.mk (Kd.R_below F44.out hq_); replace F61 := Aside0.mk (Kd.S_below F61.out hq_); replace F64 := Aside0.mk (Kd.R_below F64.out hq_); replace F67 := Aside0.mk (Kd.R_below F67.out hq_); have hn_ := Aside0.mk (blk_below BK3.out hq_); clear hczb1_0 hfzb1_0; clear hczb1_1 hfzb1_1; clear hczb1_2 hfzb1_2; clear hczb1_3 hfzb1_3; clear BK3; have BK3 := hn_; clear hn_; clear hq_; obtain ⟨hczb1_0, hfzb1_0, hczb1_1, hfzb1_1, hczb1_2, hfzb1_2, hczb1_3, hfzb1_3⟩ := bk4 BK3.out; have BK72 := Aside0.mk hx_; have GQ73 := Aside0.mk (show w52.heap.size ≤ gb71 ∧ gb71 < w74.heap.size from ⟨Nat.le_of_eq hg2_.symm, blk_lt hx_⟩); clear hb hg_ hg2_ hx_; obtain ⟨hczb70_0, hfzb70_0, hczb70_1, hfzb70_1, hczb70_2, hfzb70_2, hczb70_3, hfzb70_3⟩ := bk4 BK72.out) | ((with_reducible refine gate_store (t := 25) (p := 6) rfl ?_); refine store_event (t := 25) (p := 6) (v := ?vo_w77) (w1 := ((((w74.setCell ⟨gb71, 0, none⟩ (.slice A62 t47.length c63)).setCell ⟨gb71, 1, none⟩ (.slice A65 t48.length c66)).setCell ⟨gb71, 2, none⟩ (.slice A68 t49.length c69)).setCell ⟨gb71, 3, none⟩ (.int .i64 t50))) ?hg ?ho ?hn ?hr ?_; (case ho => rfl); (case hg => rfl); (case hn => rfl); (case hr => first | (go_simp; done) | (go_simp; rfl)); intro w77 hw_; have hx_ : w77.heap[gb71]? = some (.cells #[(.slice A62 t47.length c63), (.slice A65 t48.length c66), (.slice A68 t49.length c69), (.int .i64 t50)] 25 (0, 0)) := (by rw [hw_]; exact Lk.filled (us := [(.slice A62 t47.length c63), (.slice A65 t48.length c66), (.slice A68 t49.length c69), (.int .i64 t50)]) BK72.out rfl); have hk2_ : Kept w74 w77 (fun k_ => k_ = gb71) := (by rw [hw_]; exact Lk.fill_kept [(.slice A62 t47.length c63), (.slice A65 t48.length c66), (.slice A68 t49.length c69), (.int .i64 t50)] 0 w74); replace HB := Aside0.mk (show Below w.heap.size w w77 by rw [hw_]; exact Lk.fill_below [(.slice A62 t47.length c63), (.slice A65 t48.length c66), (.slice A68 t49.length c69), (.int .i64 t50)] 0 w w74 HB.out (by skip; have := HA60.out; have := GQ73.out; omega)); have HZ78 := Aside0.mk (show w74.heap.size ≤ w77.heap.size from hk2_.1); have HA79 := Aside0.mk (show w.heap.size ≤ w77.heap.size from HB.out.size); have hn_ := Aside0.mk (Kd.S_kept F27.out hk2_ (fun k_ h1_ h2_ => by skip; have := HZ42.out; have := HZ59.out; have := GQ73.out; have h3_ := h1_.1; omega)); clear F27; have F27 := hn_; clear hn_; have hn_ := Aside0.mk (Kd.R_kept F30.out hk2_ (fun k_ h1_ h2_ => by skip; have := HZ42.out; have := HZ59.out; have := GQ73.out; have h3_ := h1_.1; omega)); clear F30; have F30 := hn_; clear hn_; have hn_ := Aside0.mk (Kd.R_kept F33.out hk2_ (fun k_ h1_ h2_ => by skip; have := HZ42.out; have := HZ59.out; have := GQ73.out; have h3_ := h1_.1; omega)); clear F33; have F33 := hn_; clear hn_; have hn_ := Aside0.mk (Kd.R_kept F44.out hk2_ (fun k_ h1_ h2_ => by skip; have := HZ59.out; have := GQ73.out; have h3_ := h1_.1; omega)); clear F44; have F44 := hn_; clear hn_; have hn_ := Aside0.mk (Kd.S_kept F61.out hk2_ (fun k_ h1_ h2_ => by skip; have := GQ73.out; have h3_ := h1_.1; omega)); clear F61; have F61 := hn_; clear hn_; have hn_ := Aside0.mk (Kd.R_kept F64.out hk2_ (fun k_ h1_ h2_ => by skip; have := GQ73.out; have h3_ := h1_.1; omega)); clear F64; have F64 := hn_; clear hn_; have hn_ := Aside0.mk (Kd.R_kept F67.out hk2_ (fun k_ h1_ h2_ => by skip; have := GQ73.out; have h3_ := h1_.1; omega)); clear F67; have F67 := hn_; clear hn_; clear hczb1_0 hfzb1_0; clear hczb1_1 hfzb1_1; clear hczb1_2 hfzb1_2; clear hczb1_3 hfzb1_3; have hn_ := Aside0.mk (blk_kept BK3.out hk2_ (fun h_ => by skip; have := HZ11.out; have := HZ25.out; have := HZ42.out; have := HZ59.out; have := GQ73.out; have := GQ4.out; omega)); clear BK3; have BK3 := hn_; clear hn_; clear hczb70_0 hfzb70_0; clear hczb70_1 hfzb70_1; clear hczb70_2 hfzb70_2; clear hczb70_3 hfzb70_3; clear BK72; have BK72 := Aside0.mk hx_; clear hk2_ hx_ hw_; obtain ⟨hczb1_0, hfzb1_0, hczb1_1, hfzb1_1, hczb1_2, hfzb1_2, hczb1_3, hfzb1_3⟩ := bk4 BK3.out; obtain ⟨hczb70_0, hfzb70_0, hczb70_1, hfzb70_1, hczb70_2, hfzb70_2, hczb70_3, hfzb70_3⟩ := bk4 BK72.out))
  refine (impl_MinorKeeps.calls k _ _ t47 _ _ t48 _ _ t49 t50 t80 t37 _ (Lk.Sr F61.out).2 (Lk.Sr F61.out).1 (Lk.Rr F64.out).2 (Lk.Rr F64.out).1 (Lk.Rr F67.out).2 (Lk.Rr F67.out).1 H82.out).mono ?_
  rintro e_ w83 ⟨v84, rfl, f85, hb⟩
  have hq_ : Below w77.heap.size w77 w83 := ⟨hb.os, hb.tape, hb.output, hb.size, hb.block⟩
  have HZ86 := Aside0.mk (show w77.heap.size ≤ w83.heap.size from hq_.size)
  replace HB := Aside0.mk (below_then HB.out HB.out.size hq_)
  have HA87 := Aside0.mk (show w.heap.size ≤ w83.heap.size from HB.out.size)
  replace F27 := Aside0.mk (Kd.S_below F27.out hq_)
  replace F30 := Aside0.mk (Kd.R_below F30.out hq_)
  replace F33 := Aside0.mk (Kd.R_below F33.out hq_)
  replace F44 := Aside0.mk (Kd.R_below F44.out hq_)
  replace F61 := Aside0.mk (Kd.S_below F61.out hq_)
  replace F64 := Aside0.mk (Kd.R_below F64.out hq_)
  replace F67 := Aside0.mk (Kd.R_below F67.out hq_)
  have hn_ := Aside0.mk (blk_below BK3.out hq_)
  clear hczb1_0 hfzb1_0; clear hczb1_1 hfzb1_1; clear hczb1_2 hfzb1_2; clear hczb1_3 hfzb1_3
  clear BK3
  have BK3 := hn_
  clear hn_
  have hn_ := Aside0.mk (blk_below BK72.out hq_)
  clear hczb70_0 hfzb70_0; clear hczb70_1 hfzb70_1; clear hczb70_2 hfzb70_2; clear hczb70_3 hfzb70_3
  clear BK72
  have BK72 := hn_
  clear hn_
  clear hq_
  obtain ⟨hczb1_0, hfzb1_0, hczb1_1, hfzb1_1, hczb1_2, hfzb1_2, hczb1_3, hfzb1_3⟩ := bk4 BK3.out
  obtain ⟨hczb70_0, hfzb70_0, hczb70_1, hfzb70_1, hczb70_2, hfzb70_2, hczb70_3, hfzb70_3⟩ := bk4 BK72.out
  clear hb
  have F88 := Aside0.mk (Lk.newR (b := w77.heap.size) (base := w.heap.size) (Sep := fun k_ => True) rfl f85 (HA79.out) (fun k_ hk_ => hk_))
  clear f85
  obtain ⟨A89, c90, e_⟩ := Kd.R_slice F88.out
  subst e_
  go_wp2_with fail
  refine (laws_eqIntS.calls k _ _ t80 _ _ t36 true _ (Lk.Rr F88.out).2 (Lk.Rr F88.out).1 (Lk.Rr F44.out).2 (Lk.Rr F44.out).1 H92.out).mono ?_
  rintro e_ w93 ⟨rfl, ⟨nd_, hd_⟩⟩
  have hb : Below w83.heap.size w83 w93 := by rw [hd_]; exact pw_below_drewN (Below.refl _ _) nd_
  clear hd_
  have hq_ : Below w83.heap.size w83 w93 := ⟨hb.os, hb.tape, hb.output, hb.size, hb.block⟩
  have HZ94 := Aside0.mk (show w83.heap.size ≤ w93.heap.size from hq_.size)
  replace HB := Aside0.mk (below_then HB.out HB.out.size hq_)
  have HA95 := Aside0.mk (show w.heap.size ≤ w93.heap.size from HB.out.size)
  replace F27 := Aside0.mk (Kd.S_below F27.out hq_)
  replace F30 := Aside0.mk (Kd.R_below F30.out hq_)
  replace F33 := Aside0.mk (Kd.R_below F33.out hq_)
  replace F44 := Aside0.mk (Kd.R_below F44.out hq_)
  replace F61 := Aside0.mk (Kd.S_below F61.out hq_)
  replace F64 := Aside0.mk (Kd.R_below F64.out hq_)
  replace F67 := Aside0.mk (Kd.R_below F67.out hq_)
  replace F88 := Aside0.mk (Kd.R_below F88.out hq_)
  have hn_ := Aside0.mk (blk_below BK3.out hq_)
  clear hczb1_0 hfzb1_0; clear hczb1_1 hfzb1_1; clear hczb1_2 hfzb1_2; clear hczb1_3 hfzb1_3
  clear BK3
  have BK3 := hn_
  clear hn_
  have hn_ := Aside0.mk (blk_below BK72.out hq_)
  clear hczb70_0 hfzb70_0; clear hczb70_1 hfzb70_1; clear hczb70_2 hfzb70_2; clear hczb70_3 hfzb70_3
  clear BK72
  have BK72 := hn_
  clear hn_
  clear hq_
  obtain ⟨hczb1_0, hfzb1_0, hczb1_1, hfzb1_1, hczb1_2, hfzb1_2, hczb1_3, hfzb1_3⟩ := bk4 BK3.out
  obtain ⟨hczb70_0, hfzb70_0, hczb70_1, hfzb70_1, hczb70_2, hfzb70_2, hczb70_3, hfzb70_3⟩ := bk4 BK72.out
  clear hb
  go_wp2_with fail
  have hb : Below w93.heap.size w93 w93.drew := below_drew (Below.refl _ _)
  obtain ⟨w96, hw_⟩ : ∃ w96, w93.drew = w96 := ⟨_, rfl⟩
  rw [hw_] at hb
  have hq_ : Below w93.heap.size w93 w96 := ⟨hb.os, hb.tape, hb.output, hb.size, hb.block⟩
  have HZ97 := Aside0.mk (show w93.heap.size ≤ w96.heap.size from hq_.size)
  replace HB := Aside0.mk (below_then HB.out HB.out.size hq_)
  have HA98 := Aside0.mk (show w.heap.size ≤ w96.heap.size from HB.out.size)
  replace F27 := Aside0.mk (Kd.S_below F27.out hq_)
  replace F30 := Aside0.mk (Kd.R_below F30.out hq_)
  replace F33 := Aside0.mk (Kd.R_below F33.out hq_)
  replace F44 := Aside0.mk (Kd.R_below F44.out hq_)
  replace F61 := Aside0.mk (Kd.S_below F61.out hq_)
  replace F64 := Aside0.mk (Kd.R_below F64.out hq_)
  replace F67 := Aside0.mk (Kd.R_below F67.out hq_)
  replace F88 := Aside0.mk (Kd.R_below F88.out hq_)
  have hn_ := Aside0.mk (blk_below BK3.out hq_)
  clear hczb1_0 hfzb1_0; clear hczb1_1 hfzb1_1; clear hczb1_2 hfzb1_2; clear hczb1_3 hfzb1_3
  clear BK3
  have BK3 := hn_
  clear hn_
  have hn_ := Aside0.mk (blk_below BK72.out hq_)
  clear hczb70_0 hfzb70_0; clear hczb70_1 hfzb70_1; clear hczb70_2 hfzb70_2; clear hczb70_3 hfzb70_3
  clear BK72
  have BK72 := hn_
  clear hn_
  clear hq_
  obtain ⟨hczb1_0, hfzb1_0, hczb1_1, hfzb1_1, hczb1_2, hfzb1_2, hczb1_3, hfzb1_3⟩ := bk4 BK3.out
  obtain ⟨hczb70_0, hfzb70_0, hczb70_1, hfzb70_1, hczb70_2, hfzb70_2, hczb70_3, hfzb70_3⟩ := bk4 BK72.out
  refine start_ (n := 5) (S := fun w' => w'.cell? ⟨gb71, 0, none⟩ = some (.slice A62 t47.length c63) ∧ w'.cell? ⟨gb71, 1, none⟩ = some (.slice A65 t48.length c66) ∧ w'.cell? ⟨gb71, 2, none⟩ = some (.slice A68 t49.length c69) ∧ w'.cell? ⟨gb71, 3, none⟩ = some (.int .i64 t50) ∧ w'.cell? ⟨gb2, 0, none⟩ = some (.slice A0_0 l0_0.length c0_0) ∧ w'.cell? ⟨gb2, 1, none⟩ = some (.slice A0_1 l0_1.length c0_1) ∧ w'.cell? ⟨gb2, 2, none⟩ = some (.slice A0_2 l0_2.length c0_2) ∧ w'.cell? ⟨gb2, 3, none⟩ = some (.int .i64 a0_3)) (ds := []) (bs 5 0) kR rfl kR (by rw [hw_]; exact ⟨bZ BK72.out 0, bZ BK72.out 1, bZ BK72.out 2, bZ BK72.out 3, bZ BK3.out 0, bZ BK3.out 1, bZ BK3.out 2, bZ BK3.out 3⟩) (fun hHeld => ?_)
  rw [hw_] at hHeld ⊢
  clear hw_ hb
  refine take_ (i := 0) (N := some 41) (v := ?_) (a' := ?_) (bs 5 1) rfl rfl (by kernel_rfl) (fun _ _ _ h => h) (Or.inl ⟨by rfl, ?_⟩) hHeld ?_ ?_
  rotate_left
  · rintro w' ⟨s0, s1, s2, s3, s4, s5, s6, s7⟩
    go_simp
    with_reducible rfl
  rotate_left
  · simp only [Act.put, List.setIfInBounds_toArray, List.set_cons_zero, List.set_cons_succ, i64_w, i32_w]
    rfl
  refine take_ (i := 1) (N := some 42) (v := ?_) (a' := ?_) (bs 5 3) rfl rfl (by kernel_rfl) (fun _ _ _ h => h) (Or.inl ⟨by rfl, ?_⟩) hHeld ?_ ?_
  rotate_left
  · rintro w' ⟨s0, s1, s2, s3, s4, s5, s6, s7⟩
    go_simp
    with_reducible rfl
  rotate_left
  · simp only [Act.put, List.setIfInBounds_toArray, List.set_cons_zero, List.set_cons_succ, i64_w, i32_w]
    rfl
  refine one_ (i := 2) (N := some 43) (bs 5 7) rfl rfl (by kernel_rfl) (by decide) (fun K hK => ?_)
  refine goes_ Try.func16 (by kernel_rfl) rfl #[.agg #[.slice A0_0 l0_0.length c0_0, .slice A0_1 l0_1.length c0_1, .slice A0_2 l0_2.length c0_2, .int .i64 a0_3]] (by rfl) rfl rfl (by (try simp only [List.map_toArray, List.map_cons, List.map_nil]); first | done | rfl | (simp only [List.length_drop, List.length_take]; rfl)) ?_
  refine (laws_toHeap.calls k _ _ l0_0 _ _ l0_1 _ _ l0_2 a0_3 t99 t100 t101 t102 _ (Kd.C_below HR0_0.out HB.out) HC0_0.out (Kd.C_below HR0_1.out HB.out) HC0_1.out (Kd.C_below HR0_2.out HB.out) HC0_2.out H103.out).mono ?_
  rintro e_ w104 ⟨v105, v106, v107, rfl, f108, f109, f110, hb⟩
  have hq_ : Below w96.heap.size w96 w104 := ⟨hb.os, hb.tape, hb.output, hb.size, hb.block⟩
  have HZ111 := Aside0.mk (show w96.heap.size ≤ w104.heap.size from hq_.size)
  replace HB := Aside0.mk (below_then HB.out HB.out.size hq_)
  have HA112 := Aside0.mk (show w.heap.size ≤ w104.heap.size from HB.out.size)
  replace F27 := Aside0.mk (Kd.S_below F27.out hq_)
  replace F30 := Aside0.mk (Kd.R_below F30.out hq_)
  replace F33 := Aside0.mk (Kd.R_below F33.out hq_)
  replace F44 := Aside0.mk (Kd.R_below F44.out hq_)
  replace F61 := Aside0.mk (Kd.S_below F61.out hq_)
  replace F64 := Aside0.mk (Kd.R_below F64.out hq_)
  replace F67 := Aside0.mk (Kd.R_below F67.out hq_)
  replace F88 := Aside0.mk (Kd.R_below F88.out hq_)
  have hn_ := Aside0.mk (blk_below BK3.out hq_)
  clear hczb1_0 hfzb1_0; clear hczb1_1 hfzb1_1; clear hczb1_2 hfzb1_2; clear hczb1_3 hfzb1_3
  clear BK3
  have BK3 := hn_
  clear hn_
  have hn_ := Aside0.mk (blk_below BK72.out hq_)
  clear hczb70_0 hfzb70_0; clear hczb70_1 hfzb70_1; clear hczb70_2 hfzb70_2; clear hczb70_3 hfzb70_3
  clear BK72
  have BK72 := hn_
  clear hn_
  clear hq_
  obtain ⟨hczb1_0, hfzb1_0, hczb1_1, hfzb1_1, hczb1_2, hfzb1_2, hczb1_3, hfzb1_3⟩ := bk4 BK3.out
  obtain ⟨hczb70_0, hfzb70_0, hczb70_1, hfzb70_1, hczb70_2, hfzb70_2, hczb70_3, hfzb70_3⟩ := bk4 BK72.out
  clear hb
  refine ⟨_, rfl, ?_⟩
  have F113 := Aside0.mk (Lk.newS (b := w96.heap.size) (base := w.heap.size) (Sep := fun k_ => some k_ ≠ (v106 : Value).ownBlock ∧ some k_ ≠ (v107 : Value).ownBlock) f108 (HA98.out) (fun k_ hk_ => hk_))
  clear f108
  have F116 := Aside0.mk (Lk.newR (b := w96.heap.size) (base := w.heap.size) (Sep := fun k_ => some k_ ≠ (v107 : Value).ownBlock) rfl f109 (HA98.out) (fun k_ hk_ => hk_))
  clear f109
  have F119 := Aside0.mk (Lk.newR (b := w96.heap.size) (base := w.heap.size) (Sep := fun k_ => some k_ ≠ (v106 : Value).ownBlock) rfl f110 (HA98.out) (fun k_ hk_ => hk_))
  clear f110
  obtain ⟨A114, c115, e_⟩ := Kd.S_slice F113.out
  subst e_
  obtain ⟨A117, c118, e_⟩ := Kd.R_slice F116.out
  subst e_
  obtain ⟨A120, c121, e_⟩ := Kd.R_slice F119.out
  subst e_
  refine hK.out _ _ ⟨bZ BK72.out 0, bZ BK72.out 1, bZ BK72.out 2, bZ BK72.out 3, bZ BK3.out 0, bZ BK3.out 1, bZ BK3.out 2, bZ BK3.out 3⟩ (fun hHeld => ?_)
  clear hK K
  refine norm_ (a' := ?_) ?_ ?_
  rotate_left
  · show Act.put _ (some 43) _ = _
    simp only [Act.put, List.setIfInBounds_toArray, List.set_cons_zero, List.set_cons_succ, i64_w, i32_w]
    rfl
  refine one_ (i := 3) (N := some 44) (bs 5 15) rfl rfl (by kernel_rfl) (by decide) (fun K hK => ?_)
  refine goes_ Try.func11 (by kernel_rfl) rfl #[.agg #[.slice A62 t47.length c63, .slice A65 t48.length c66, .slice A68 t49.length c69, .int .i64 t50], .agg #[.slice A114 t99.length c115, .slice A117 t100.length c118, .slice A120 t101.length c121, .int .i64 t102]] (by rfl) rfl rfl (by (try simp only [List.map_toArray, List.map_cons, List.map_nil]); first | done | rfl | (simp only [List.length_drop, List.length_take]; rfl)) ?_
  refine (laws_eqHeap.calls k _ _ t47 _ _ t48 _ _ t49 t50 _ _ t99 _ _ t100 _ _ t101 t102 true _ (Lk.Sr F61.out).2 (Lk.Sr F61.out).1 (Lk.Rr F64.out).2 (Lk.Rr F64.out).1 (Lk.Rr F67.out).2 (Lk.Rr F67.out).1 (Lk.Sr F113.out).2 (Lk.Sr F113.out).1 (Lk.Rr F116.out).2 (Lk.Rr F116.out).1 (Lk.Rr F119.out).2 (Lk.Rr F119.out).1 H123.out).mono ?_
  rintro e_ w124 ⟨rfl, hb⟩
  have hq_ : Below w104.heap.size w104 w124 := ⟨hb.os, hb.tape, hb.output, hb.size, hb.block⟩
  have HZ125 := Aside0.mk (show w104.heap.size ≤ w124.heap.size from hq_.size)
  replace HB := Aside0.mk (below_then HB.out HB.out.size hq_)
  have HA126 := Aside0.mk (show w.heap.size ≤ w124.heap.size from HB.out.size)
  replace F27 := Aside0.mk (Kd.S_below F27.out hq_)
  replace F30 := Aside0.mk (Kd.R_below F30.out hq_)
  replace F33 := Aside0.mk (Kd.R_below F33.out hq_)
  replace F44 := Aside0.mk (Kd.R_below F44.out hq_)
  replace F61 := Aside0.mk (Kd.S_below F61.out hq_)
  replace F64 := Aside0.mk (Kd.R_below F64.out hq_)
  replace F67 := Aside0.mk (Kd.R_below F67.out hq_)
  replace F88 := Aside0.mk (Kd.R_below F88.out hq_)
  replace F113 := Aside0.mk (Kd.S_below F113.out hq_)
  replace F116 := Aside0.mk (Kd.R_below F116.out hq_)
  replace F119 := Aside0.mk (Kd.R_below F119.out hq_)
  have hn_ := Aside0.mk (blk_below BK3.out hq_)
  clear hczb1_0 hfzb1_0; clear hczb1_1 hfzb1_1; clear hczb1_2 hfzb1_2; clear hczb1_3 hfzb1_3
  clear BK3
  have BK3 := hn_
  clear hn_
  have hn_ := Aside0.mk (blk_below BK72.out hq_)
  clear hczb70_0 hfzb70_0; clear hczb70_1 hfzb70_1; clear hczb70_2 hfzb70_2; clear hczb70_3 hfzb70_3
  clear BK72
  have BK72 := hn_
  clear hn_
  clear hq_
  obtain ⟨hczb1_0, hfzb1_0, hczb1_1, hfzb1_1, hczb1_2, hfzb1_2, hczb1_3, hfzb1_3⟩ := bk4 BK3.out
  obtain ⟨hczb70_0, hfzb70_0, hczb70_1, hfzb70_1, hczb70_2, hfzb70_2, hczb70_3, hfzb70_3⟩ := bk4 BK72.out
  clear hb
  refine ⟨_, rfl, ?_⟩
  refine hK.out _ _ ⟨bZ BK72.out 0, bZ BK72.out 1, bZ BK72.out 2, bZ BK72.out 3, bZ BK3.out 0, bZ BK3.out 1, bZ BK3.out 2, bZ BK3.out 3⟩ (fun hHeld => ?_)
  clear hK K
  refine norm_ (a' := ?_) ?_ ?_
  rotate_left
  · show Act.put _ (some 44) _ = _
    simp only [Act.put, List.setIfInBounds_toArray, List.set_cons_zero, List.set_cons_succ, i64_w, i32_w]
    rfl
  refine pure_ (i := 4) (N := some 45) (v := ?_) (a' := ?_) (bs 5 31) rfl rfl (by kernel_rfl) (fun _ _ _ h => h) (Or.inl ⟨by rfl, ?_⟩) ?_ ?_
  rotate_left
  · intro w'
    go_simp
    with_reducible rfl
  rotate_left
  · simp only [Act.put, List.setIfInBounds_toArray, List.set_cons_zero, List.set_cons_succ, i64_w, i32_w]
    rfl
  refine done_ (by kernel_rfl) ?_
  go_wp2_with fail
  have hn_ := H128.out
  refine (laws_markHeap.calls (fun k_ => w39.heap.size ≤ k_ ∧ k_ < w52.heap.size) _ t47 _ t48 _ t49 t50 1 w _ HB.out F61.out F64.out F67.out (by omega) hn_).mono ?_
  rintro e_ w127 ⟨rfl, f0_, f1_, f2_, hb0_, hk_⟩
  have hk2_ : Kept w124 w127 (fun k_ => w39.heap.size ≤ k_ ∧ k_ < w52.heap.size) := Kept.mono hk_ (fun k_ h_ => by first | exact h_ | exact h_.1)
  have HZ129 := Aside0.mk (show w124.heap.size ≤ w127.heap.size from hk2_.1)
  clear HB
  have HB := Aside0.mk hb0_
  have hn_ := Aside0.mk (Kd.S_kept F27.out hk2_ (fun k_ h1_ h2_ => by skip; have := HZ42.out; have h3_ := h1_.1; omega))
  clear F27
  have F27 := hn_
  clear hn_
  have hn_ := Aside0.mk (Kd.R_kept F30.out hk2_ (fun k_ h1_ h2_ => by skip; have := HZ42.out; have h3_ := h1_.1; omega))
  clear F30
  have F30 := hn_
  clear hn_
  have hn_ := Aside0.mk (Kd.R_kept F33.out hk2_ (fun k_ h1_ h2_ => by skip; have := HZ42.out; have h3_ := h1_.1; omega))
  clear F33
  have F33 := hn_
  clear hn_
  have hn_ := Aside0.mk (Kd.R_kept F44.out hk2_ (fun k_ h1_ h2_ => by skip; have h3_ := h1_.1; omega))
  clear F44
  have F44 := hn_
  clear hn_
  have hn_ := Aside0.mk (Kd.R_kept F88.out hk2_ (fun k_ h1_ h2_ => by skip; have := HZ75.out; have := HZ78.out; have h3_ := h1_.1; omega))
  clear F88
  have F88 := hn_
  clear hn_
  have hn_ := Aside0.mk (Kd.S_kept F113.out hk2_ (fun k_ h1_ h2_ => by skip; have := HZ75.out; have := HZ78.out; have := HZ86.out; have := HZ94.out; have := HZ97.out; have h3_ := h1_.1; omega))
  clear F113
  have F113 := hn_
  clear hn_
  have hn_ := Aside0.mk (Kd.R_kept F116.out hk2_ (fun k_ h1_ h2_ => by skip; have := HZ75.out; have := HZ78.out; have := HZ86.out; have := HZ94.out; have := HZ97.out; have h3_ := h1_.1; omega))
  clear F116
  have F116 := hn_
  clear hn_
  have hn_ := Aside0.mk (Kd.R_kept F119.out hk2_ (fun k_ h1_ h2_ => by skip; have := HZ75.out; have := HZ78.out; have := HZ86.out; have := HZ94.out; have := HZ97.out; have h3_ := h1_.1; omega))
  clear F119
  have F119 := hn_
  clear hn_
  have hn_ := Aside0.mk (f0_)
  have F61n := hn_
  clear hn_
  have hn_ := Aside0.mk (f1_)
  have F64n := hn_
  clear hn_
  have hn_ := Aside0.mk (f2_)
  have F67n := hn_
  clear hn_
  clear F61
  have F61 := F61n
  clear F61n
  clear F64
  have F64 := F64n
  clear F64n
  clear F67
  have F67 := F67n
  clear F67n
  have hn_ := Aside0.mk (blk_kept BK3.out hk2_ (fun h_ => by skip; have := HZ11.out; have := HZ25.out; have := HZ42.out; have := GQ4.out; omega))
  clear hczb1_0 hfzb1_0; clear hczb1_1 hfzb1_1; clear hczb1_2 hfzb1_2; clear hczb1_3 hfzb1_3
  clear BK3
  have BK3 := hn_
  clear hn_
  have hn_ := Aside0.mk (blk_kept BK72.out hk2_ (fun h_ => by skip; have := GQ73.out; omega))
  clear hczb70_0 hfzb70_0; clear hczb70_1 hfzb70_1; clear hczb70_2 hfzb70_2; clear hczb70_3 hfzb70_3
  clear BK72
  have BK72 := hn_
  clear hn_
  clear hk2_ hk_ hb0_ f0_ f1_ f2_
  obtain ⟨hczb1_0, hfzb1_0, hczb1_1, hfzb1_1, hczb1_2, hfzb1_2, hczb1_3, hfzb1_3⟩ := bk4 BK3.out
  obtain ⟨hczb70_0, hfzb70_0, hczb70_1, hfzb70_1, hczb70_2, hfzb70_2, hczb70_3, hfzb70_3⟩ := bk4 BK72.out
  have hl130 := (Kd.S_reads' F61.out).1
  have HL130 := Aside0.mk hl130
  clear hl130
  have hl131 := (Kd.R_reads' F64.out).1
  have HL131 := Aside0.mk hl131
  clear hl131
  have hl132 := (Kd.R_reads' F67.out).1
  have HL132 := Aside0.mk hl132
  clear hl132
  have hn1_ : decide ((1 + (markObjectS_cnt t47 : Nat) + (t48.length : Nat) + (t49.length : Nat) : Int) < 0) = false := decide_eq_false (by omega)
  have hd133 := hn1_
  clear hn1_
  go_wp2_with fail
  refine (laws_eqIntS.calls k _ _ t80 _ _ t36 true _ (Lk.Rr F88.out).2 (Lk.Rr F88.out).1 (Lk.Rr F44.out).2 (Lk.Rr F44.out).1 H135.out).mono ?_
  rintro e_ w136 ⟨rfl, ⟨nd_, hd_⟩⟩
  have hb : Below w127.heap.size w127 w136 := by rw [hd_]; exact pw_below_drewN (Below.refl _ _) nd_
  clear hd_
  have hq_ : Below w127.heap.size w127 w136 := ⟨hb.os, hb.tape, hb.output, hb.size, hb.block⟩
  have HZ137 := Aside0.mk (show w127.heap.size ≤ w136.heap.size from hq_.size)
  replace HB := Aside0.mk (below_then HB.out HB.out.size hq_)
  have HA138 := Aside0.mk (show w.heap.size ≤ w136.heap.size from HB.out.size)
  replace F27 := Aside0.mk (Kd.S_below F27.out hq_)
  replace F30 := Aside0.mk (Kd.R_below F30.out hq_)
  replace F33 := Aside0.mk (Kd.R_below F33.out hq_)
  replace F44 := Aside0.mk (Kd.R_below F44.out hq_)
  replace F61 := Aside0.mk (Kd.S_below F61.out hq_)
  replace F64 := Aside0.mk (Kd.R_below F64.out hq_)
  replace F67 := Aside0.mk (Kd.R_below F67.out hq_)
  replace F88 := Aside0.mk (Kd.R_below F88.out hq_)
  replace F113 := Aside0.mk (Kd.S_below F113.out hq_)
  replace F116 := Aside0.mk (Kd.R_below F116.out hq_)
  replace F119 := Aside0.mk (Kd.R_below F119.out hq_)
  have hn_ := Aside0.mk (blk_below BK3.out hq_)
  clear hczb1_0 hfzb1_0; clear hczb1_1 hfzb1_1; clear hczb1_2 hfzb1_2; clear hczb1_3 hfzb1_3
  clear BK3
  have BK3 := hn_
  clear hn_
  have hn_ := Aside0.mk (blk_below BK72.out hq_)
  clear hczb70_0 hfzb70_0; clear hczb70_1 hfzb70_1; clear hczb70_2 hfzb70_2; clear hczb70_3 hfzb70_3
  clear BK72
  have BK72 := hn_
  clear hn_
  clear hq_
  obtain ⟨hczb1_0, hfzb1_0, hczb1_1, hfzb1_1, hczb1_2, hfzb1_2, hczb1_3, hfzb1_3⟩ := bk4 BK3.out
  obtain ⟨hczb70_0, hfzb70_0, hczb70_1, hfzb70_1, hczb70_2, hfzb70_2, hczb70_3, hfzb70_3⟩ := bk4 BK72.out
  clear hb
  go_wp2_with fail
  refine (laws_markIntS.calls k (fun k_ => (w77.heap.size ≤ k_ ∧ k_ < w83.heap.size) ∧ some k_ = (.slice A89 t80.length c90 : Value).ownBlock ∧ (True)) _ t80 1 t140 t141 w _ HB.out F88.out H142.out).mono ?_
  rintro e_ w139 ⟨rfl, f0_, hb0_, hk_⟩
  have hk2_ : Kept w136 w139 (fun k_ => w77.heap.size ≤ k_ ∧ k_ < w83.heap.size) := Kept.mono hk_ (fun k_ h_ => by first | exact h_ | exact h_.1)
  have HZ144 := Aside0.mk (show w136.heap.size ≤ w139.heap.size from hk2_.1)
  clear HB
  have HB := Aside0.mk hb0_
  have hn_ := Aside0.mk (Kd.S_kept F27.out hk2_ (fun k_ h1_ h2_ => by skip; have := HZ42.out; have := HZ59.out; have := HZ75.out; have := HZ78.out; have h3_ := h1_.1; omega))
  clear F27
  have F27 := hn_
  clear hn_
  have hn_ := Aside0.mk (Kd.R_kept F30.out hk2_ (fun k_ h1_ h2_ => by skip; have := HZ42.out; have := HZ59.out; have := HZ75.out; have := HZ78.out; have h3_ := h1_.1; omega))
  clear F30
  have F30 := hn_
  clear hn_
  have hn_ := Aside0.mk (Kd.R_kept F33.out hk2_ (fun k_ h1_ h2_ => by skip; have := HZ42.out; have := HZ59.out; have := HZ75.out; have := HZ78.out; have h3_ := h1_.1; omega))
  clear F33
  have F33 := hn_
  clear hn_
  have hn_ := Aside0.mk (Kd.R_kept F44.out hk2_ (fun k_ h1_ h2_ => by skip; have := HZ59.out; have := HZ75.out; have := HZ78.out; have h3_ := h1_.1; omega))
  clear F44
  have F44 := hn_
  clear hn_
  have hn_ := Aside0.mk (Kd.S_kept F61.out hk2_ (fun k_ h1_ h2_ => by skip; have := HZ75.out; have := HZ78.out; have h3_ := h1_.1; omega))
  clear F61
  have F61 := hn_
  clear hn_
  have hn_ := Aside0.mk (Kd.R_kept F64.out hk2_ (fun k_ h1_ h2_ => by skip; have := HZ75.out; have := HZ78.out; have h3_ := h1_.1; omega))
  clear F64
  have F64 := hn_
  clear hn_
  have hn_ := Aside0.mk (Kd.R_kept F67.out hk2_ (fun k_ h1_ h2_ => by skip; have := HZ75.out; have := HZ78.out; have h3_ := h1_.1; omega))
  clear F67
  have F67 := hn_
  clear hn_
  have hn_ := Aside0.mk (Kd.S_kept F113.out hk2_ (fun k_ h1_ h2_ => by skip; have := HZ94.out; have := HZ97.out; have h3_ := h1_.1; omega))
  clear F113
  have F113 := hn_
  clear hn_
  have hn_ := Aside0.mk (Kd.R_kept F116.out hk2_ (fun k_ h1_ h2_ => by skip; have := HZ94.out; have := HZ97.out; have h3_ := h1_.1; omega))
  clear F116
  have F116 := hn_
  clear hn_
  have hn_ := Aside0.mk (Kd.R_kept F119.out hk2_ (fun k_ h1_ h2_ => by skip; have := HZ94.out; have := HZ97.out; have h3_ := h1_.1; omega))
  clear F119
  have F119 := hn_
  clear hn_
  have hn_ := Aside0.mk (Lk.markedR rfl f0_ (fun k_ e_ => (show (w77.heap.size ≤ k_ ∧ k_ < w83.heap.size) ∧ some k_ = (.slice A89 t80.length c90 : Value).ownBlock ∧ (True) from (F88.out.1 k_ e_.symm))))
  have F88n := hn_
  clear hn_
  clear F88
  have F88 := F88n
  clear F88n
  have hn_ := Aside0.mk (blk_kept BK3.out hk2_ (fun h_ => by skip; have := HZ11.out; have := HZ25.out; have := HZ42.out; have := HZ59.out; have := HZ75.out; have := HZ78.out; have := GQ4.out; omega))
  clear hczb1_0 hfzb1_0; clear hczb1_1 hfzb1_1; clear hczb1_2 hfzb1_2; clear hczb1_3 hfzb1_3
  clear BK3
  have BK3 := hn_
  clear hn_
  have hn_ := Aside0.mk (blk_kept BK72.out hk2_ (fun h_ => by skip; have := HZ78.out; have := GQ73.out; omega))
  clear hczb70_0 hfzb70_0; clear hczb70_1 hfzb70_1; clear hczb70_2 hfzb70_2; clear hczb70_3 hfzb70_3
  clear BK72
  have BK72 := hn_
  clear hn_
  clear hk2_ hk_ hb0_ f0_
  obtain ⟨hczb1_0, hfzb1_0, hczb1_1, hfzb1_1, hczb1_2, hfzb1_2, hczb1_3, hfzb1_3⟩ := bk4 BK3.out
  obtain ⟨hczb70_0, hfzb70_0, hczb70_1, hfzb70_1, hczb70_2, hfzb70_2, hczb70_3, hfzb70_3⟩ := bk4 BK72.out
  have hl145 := (Kd.R_reads' F88.out).1
  have HL145 := Aside0.mk hl145
  clear hl145
  have hn1_ : decide (t140 < 0) = false := decide_eq_false (by have := H143.out; omega)
  have hd146 := hn1_
  clear hn1_
  go_wp2_with fail
  have hc_ := laws_heldIntS.calls k _ _ t141 1 t140 _ (Lk.Rr F88.out).2 (Lk.Rr F88.out).1 H148.out
  simp only [← HL145.out] at hc_
  refine hc_.mono ?_
  clear hc_
  rintro e_ w149 ⟨rfl, ⟨nd_, hd_⟩⟩
  have hb : Below w139.heap.size w139 w149 := by rw [hd_]; exact pw_below_drewN (Below.refl _ _) nd_
  clear hd_
  have hq_ : Below w139.heap.size w139 w149 := ⟨hb.os, hb.tape, hb.output, hb.size, hb.block⟩
  have HZ150 := Aside0.mk (show w139.heap.size ≤ w149.heap.size from hq_.size)
  replace HB := Aside0.mk (below_then HB.out HB.out.size hq_)
  have HA151 := Aside0.mk (show w.heap.size ≤ w149.heap.size from HB.out.size)
  replace F27 := Aside0.mk (Kd.S_below F27.out hq_)
  replace F30 := Aside0.mk (Kd.R_below F30.out hq_)
  replace F33 := Aside0.mk (Kd.R_below F33.out hq_)
  replace F44 := Aside0.mk (Kd.R_below F44.out hq_)
  replace F61 := Aside0.mk (Kd.S_below F61.out hq_)
  replace F64 := Aside0.mk (Kd.R_below F64.out hq_)
  replace F67 := Aside0.mk (Kd.R_below F67.out hq_)
  replace F88 := Aside0.mk (Kd.R_below F88.out hq_)
  replace F113 := Aside0.mk (Kd.S_below F113.out hq_)
  replace F116 := Aside0.mk (Kd.R_below F116.out hq_)
  replace F119 := Aside0.mk (Kd.R_below F119.out hq_)
  have hn_ := Aside0.mk (blk_below BK3.out hq_)
  clear hczb1_0 hfzb1_0; clear hczb1_1 hfzb1_1; clear hczb1_2 hfzb1_2; clear hczb1_3 hfzb1_3
  clear BK3
  have BK3 := hn_
  clear hn_
  have hn_ := Aside0.mk (blk_below BK72.out hq_)
  clear hczb70_0 hfzb70_0; clear hczb70_1 hfzb70_1; clear hczb70_2 hfzb70_2; clear hczb70_3 hfzb70_3
  clear BK72
  have BK72 := hn_
  clear hn_
  clear hq_
  obtain ⟨hczb1_0, hfzb1_0, hczb1_1, hfzb1_1, hczb1_2, hfzb1_2, hczb1_3, hfzb1_3⟩ := bk4 BK3.out
  obtain ⟨hczb70_0, hfzb70_0, hczb70_1, hfzb70_1, hczb70_2, hfzb70_2, hczb70_3, hfzb70_3⟩ := bk4 BK72.out
  clear hb
  go_wp2_with fail
  refine (laws_toHeap.calls k _ _ l0_0 _ _ l0_1 _ _ l0_2 a0_3 t152 t153 t154 t155 _ (Kd.C_below HR0_0.out HB.out) HC0_0.out (Kd.C_below HR0_1.out HB.out) HC0_1.out (Kd.C_below HR0_2.out HB.out) HC0_2.out H156.out).mono ?_
  rintro e_ w157 ⟨v158, v159, v160, rfl, f161, f162, f163, hb⟩
  have hq_ : Below w149.heap.size w149 w157 := ⟨hb.os, hb.tape, hb.output, hb.size, hb.block⟩
  have HZ164 := Aside0.mk (show w149.heap.size ≤ w157.heap.size from hq_.size)
  replace HB := Aside0.mk (below_then HB.out HB.out.size hq_)
  have HA165 := Aside0.mk (show w.heap.size ≤ w157.heap.size from HB.out.size)
  replace F27 := Aside0.mk (Kd.S_below F27.out hq_)
  replace F30 := Aside0.mk (Kd.R_below F30.out hq_)
  replace F33 := Aside0.mk (Kd.R_below F33.out hq_)
  replace F44 := Aside0.mk (Kd.R_below F44.out hq_)
  replace F61 := Aside0.mk (Kd.S_below F61.out hq_)
  replace F64 := Aside0.mk (Kd.R_below F64.out hq_)
  replace F67 := Aside0.mk (Kd.R_below F67.out hq_)
  replace F88 := Aside0.mk (Kd.R_below F88.out hq_)
  replace F113 := Aside0.mk (Kd.S_below F113.out hq_)
  replace F116 := Aside0.mk (Kd.R_below F116.out hq_)
  replace F119 := Aside0.mk (Kd.R_below F119.out hq_)
  have hn_ := Aside0.mk (blk_below BK3.out hq_)
  clear hczb1_0 hfzb1_0; clear hczb1_1 hfzb1_1; clear hczb1_2 hfzb1_2; clear hczb1_3 hfzb1_3
  clear BK3
  have BK3 := hn_
  clear hn_
  have hn_ := Aside0.mk (blk_below BK72.out hq_)
  clear hczb70_0 hfzb70_0; clear hczb70_1 hfzb70_1; clear hczb70_2 hfzb70_2; clear hczb70_3 hfzb70_3
  clear BK72
  have BK72 := hn_
  clear hn_
  clear hq_
  obtain ⟨hczb1_0, hfzb1_0, hczb1_1, hfzb1_1, hczb1_2, hfzb1_2, hczb1_3, hfzb1_3⟩ := bk4 BK3.out
  obtain ⟨hczb70_0, hfzb70_0, hczb70_1, hfzb70_1, hczb70_2, hfzb70_2, hczb70_3, hfzb70_3⟩ := bk4 BK72.out
  clear hb
  have F166 := Aside0.mk (Lk.newS (b := w149.heap.size) (base := w.heap.size) (Sep := fun k_ => some k_ ≠ (v159 : Value).ownBlock ∧ some k_ ≠ (v160 : Value).ownBlock) f161 (HA151.out) (fun k_ hk_ => hk_))
  clear f161
  have F169 := Aside0.mk (Lk.newR (b := w149.heap.size) (base := w.heap.size) (Sep := fun k_ => some k_ ≠ (v160 : Value).ownBlock) rfl f162 (HA151.out) (fun k_ hk_ => hk_))
  clear f162
  have F172 := Aside0.mk (Lk.newR (b := w149.heap.size) (base := w.heap.size) (Sep := fun k_ => some k_ ≠ (v159 : Value).ownBlock) rfl f163 (HA151.out) (fun k_ hk_ => hk_))
  clear f163
  obtain ⟨A167, c168, e_⟩ := Kd.S_slice F166.out
  subst e_
  obtain ⟨A170, c171, e_⟩ := Kd.R_slice F169.out
  subst e_
  obtain ⟨A173, c174, e_⟩ := Kd.R_slice F172.out
  subst e_
  go_wp2_with fail
  refine (impl_MinorKeeps.calls k _ _ t152 _ _ t153 _ _ t154 t155 t175 t37 _ (Lk.Sr F166.out).2 (Lk.Sr F166.out).1 (Lk.Rr F169.out).2 (Lk.Rr F169.out).1 (Lk.Rr F172.out).2 (Lk.Rr F172.out).1 H177.out).mono ?_
  rintro e_ w178 ⟨v179, rfl, f180, hb⟩
  have hq_ : Below w157.heap.size w157 w178 := ⟨hb.os, hb.tape, hb.output, hb.size, hb.block⟩
  have HZ181 := Aside0.mk (show w157.heap.size ≤ w178.heap.size from hq_.size)
  replace HB := Aside0.mk (below_then HB.out HB.out.size hq_)
  have HA182 := Aside0.mk (show w.heap.size ≤ w178.heap.size from HB.out.size)
  replace F27 := Aside0.mk (Kd.S_below F27.out hq_)
  replace F30 := Aside0.mk (Kd.R_below F30.out hq_)
  replace F33 := Aside0.mk (Kd.R_below F33.out hq_)
  replace F44 := Aside0.mk (Kd.R_below F44.out hq_)
  replace F61 := Aside0.mk (Kd.S_below F61.out hq_)
  replace F64 := Aside0.mk (Kd.R_below F64.out hq_)
  replace F67 := Aside0.mk (Kd.R_below F67.out hq_)
  replace F88 := Aside0.mk (Kd.R_below F88.out hq_)
  replace F113 := Aside0.mk (Kd.S_below F113.out hq_)
  replace F116 := Aside0.mk (Kd.R_below F116.out hq_)
  replace F119 := Aside0.mk (Kd.R_below F119.out hq_)
  replace F166 := Aside0.mk (Kd.S_below F166.out hq_)
  replace F169 := Aside0.mk (Kd.R_below F169.out hq_)
  replace F172 := Aside0.mk (Kd.R_below F172.out hq_)
  have hn_ := Aside0.mk (blk_below BK3.out hq_)
  clear hczb1_0 hfzb1_0; clear hczb1_1 hfzb1_1; clear hczb1_2 hfzb1_2; clear hczb1_3 hfzb1_3
  clear BK3
  have BK3 := hn_
  clear hn_
  have hn_ := Aside0.mk (blk_below BK72.out hq_)
  clear hczb70_0 hfzb70_0; clear hczb70_1 hfzb70_1; clear hczb70_2 hfzb70_2; clear hczb70_3 hfzb70_3
  clear BK72
  have BK72 := hn_
  clear hn_
  clear hq_
  obtain ⟨hczb1_0, hfzb1_0, hczb1_1, hfzb1_1, hczb1_2, hfzb1_2, hczb1_3, hfzb1_3⟩ := bk4 BK3.out
  obtain ⟨hczb70_0, hfzb70_0, hczb70_1, hfzb70_1, hczb70_2, hfzb70_2, hczb70_3, hfzb70_3⟩ := bk4 BK72.out
  clear hb
  have F183 := Aside0.mk (Lk.newR (b := w157.heap.size) (base := w.heap.size) (Sep := fun k_ => True) rfl f180 (HA165.out) (fun k_ hk_ => hk_))
  clear f180
  obtain ⟨A184, c185, e_⟩ := Kd.R_slice F183.out
  subst e_
  go_wp2_with fail
  refine (laws_eqIntS.calls k _ _ t175 _ _ t36 true _ (Lk.Rr F183.out).2 (Lk.Rr F183.out).1 (Lk.Rr F44.out).2 (Lk.Rr F44.out).1 H187.out).mono ?_
  rintro e_ w188 ⟨rfl, ⟨nd_, hd_⟩⟩
  have hb : Below w178.heap.size w178 w188 := by rw [hd_]; exact pw_below_drewN (Below.refl _ _) nd_
  clear hd_
  have hq_ : Below w178.heap.size w178 w188 := ⟨hb.os, hb.tape, hb.output, hb.size, hb.block⟩
  have HZ189 := Aside0.mk (show w178.heap.size ≤ w188.heap.size from hq_.size)
  replace HB := Aside0.mk (below_then HB.out HB.out.size hq_)
  have HA190 := Aside0.mk (show w.heap.size ≤ w188.heap.size from HB.out.size)
  replace F27 := Aside0.mk (Kd.S_below F27.out hq_)
  replace F30 := Aside0.mk (Kd.R_below F30.out hq_)
  replace F33 := Aside0.mk (Kd.R_below F33.out hq_)
  replace F44 := Aside0.mk (Kd.R_below F44.out hq_)
  replace F61 := Aside0.mk (Kd.S_below F61.out hq_)
  replace F64 := Aside0.mk (Kd.R_below F64.out hq_)
  replace F67 := Aside0.mk (Kd.R_below F67.out hq_)
  replace F88 := Aside0.mk (Kd.R_below F88.out hq_)
  replace F113 := Aside0.mk (Kd.S_below F113.out hq_)
  replace F116 := Aside0.mk (Kd.R_below F116.out hq_)
  replace F119 := Aside0.mk (Kd.R_below F119.out hq_)
  replace F166 := Aside0.mk (Kd.S_below F166.out hq_)
  replace F169 := Aside0.mk (Kd.R_below F169.out hq_)
  replace F172 := Aside0.mk (Kd.R_below F172.out hq_)
  replace F183 := Aside0.mk (Kd.R_below F183.out hq_)
  have hn_ := Aside0.mk (blk_below BK3.out hq_)
  clear hczb1_0 hfzb1_0; clear hczb1_1 hfzb1_1; clear hczb1_2 hfzb1_2; clear hczb1_3 hfzb1_3
  clear BK3
  have BK3 := hn_
  clear hn_
  have hn_ := Aside0.mk (blk_below BK72.out hq_)
  clear hczb70_0 hfzb70_0; clear hczb70_1 hfzb70_1; clear hczb70_2 hfzb70_2; clear hczb70_3 hfzb70_3
  clear BK72
  have BK72 := hn_
  clear hn_
  clear hq_
  obtain ⟨hczb1_0, hfzb1_0, hczb1_1, hfzb1_1, hczb1_2, hfzb1_2, hczb1_3, hfzb1_3⟩ := bk4 BK3.out
  obtain ⟨hczb70_0, hfzb70_0, hczb70_1, hfzb70_1, hczb70_2, hfzb70_2, hczb70_3, hfzb70_3⟩ := bk4 BK72.out
  clear hb
  go_wp2_with fail
  have hc_ := laws_heldIntS.calls k _ _ t141 1 t140 _ (Lk.Rr F88.out).2 (Lk.Rr F88.out).1 H192.out
  simp only [← HL145.out] at hc_
  refine hc_.mono ?_
  clear hc_
  rintro e_ w193 ⟨rfl, ⟨nd_, hd_⟩⟩
  have hb : Below w188.heap.size w188 w193 := by rw [hd_]; exact pw_below_drewN (Below.refl _ _) nd_
  clear hd_
  have hq_ : Below w188.heap.size w188 w193 := ⟨hb.os, hb.tape, hb.output, hb.size, hb.block⟩
  have HZ194 := Aside0.mk (show w188.heap.size ≤ w193.heap.size from hq_.size)
  replace HB := Aside0.mk (below_then HB.out HB.out.size hq_)
  have HA195 := Aside0.mk (show w.heap.size ≤ w193.heap.size from HB.out.size)
  replace F27 := Aside0.mk (Kd.S_below F27.out hq_)
  replace F30 := Aside0.mk (Kd.R_below F30.out hq_)
  replace F33 := Aside0.mk (Kd.R_below F33.out hq_)
  replace F44 := Aside0.mk (Kd.R_below F44.out hq_)
  replace F61 := Aside0.mk (Kd.S_below F61.out hq_)
  replace F64 := Aside0.mk (Kd.R_below F64.out hq_)
  replace F67 := Aside0.mk (Kd.R_below F67.out hq_)
  replace F88 := Aside0.mk (Kd.R_below F88.out hq_)
  replace F113 := Aside0.mk (Kd.S_below F113.out hq_)
  replace F116 := Aside0.mk (Kd.R_below F116.out hq_)
  replace F119 := Aside0.mk (Kd.R_below F119.out hq_)
  replace F166 := Aside0.mk (Kd.S_below F166.out hq_)
  replace F169 := Aside0.mk (Kd.R_below F169.out hq_)
  replace F172 := Aside0.mk (Kd.R_below F172.out hq_)
  replace F183 := Aside0.mk (Kd.R_below F183.out hq_)
  have hn_ := Aside0.mk (blk_below BK3.out hq_)
  clear hczb1_0 hfzb1_0; clear hczb1_1 hfzb1_1; clear hczb1_2 hfzb1_2; clear hczb1_3 hfzb1_3
  clear BK3
  have BK3 := hn_
  clear hn_
  have hn_ := Aside0.mk (blk_below BK72.out hq_)
  clear hczb70_0 hfzb70_0; clear hczb70_1 hfzb70_1; clear hczb70_2 hfzb70_2; clear hczb70_3 hfzb70_3
  clear BK72
  have BK72 := hn_
  clear hn_
  clear hq_
  obtain ⟨hczb1_0, hfzb1_0, hczb1_1, hfzb1_1, hczb1_2, hfzb1_2, hczb1_3, hfzb1_3⟩ := bk4 BK3.out
  obtain ⟨hczb70_0, hfzb70_0, hczb70_1, hfzb70_1, hczb70_2, hfzb70_2, hczb70_3, hfzb70_3⟩ := bk4 BK72.out
  clear hb
  go_wp2_with fail
  go_ret
  exact ⟨rfl, HB.out⟩
end Go.Proofs.Ytnocadhibajaoaa.Q
