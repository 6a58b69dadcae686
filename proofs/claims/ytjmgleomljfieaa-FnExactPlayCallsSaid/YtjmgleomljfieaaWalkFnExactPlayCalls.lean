/- The law FnExactPlayCalls of this seat: the walk along its one way. Conditions: none. -/
import Derived.Test.YtjmgleomljfieaaQx0
import Derived.Test.YtjmgleomljfieaaQx1
import Derived.Test.YtjmgleomljfieaaQx2
import Derived.Test.YtjmgleomljfieaaQx3
import Derived.Test.YtjmgleomljfieaaQx6
import Derived.Test.YtjmgleomljfieaaQx10
import Derived.Test.YtjmgleomljfieaaGoodFnExactPlayCalls
import Derived.Test.YtjmgleomljfieaaLk
namespace Go.Proofs.Ytjmgleomljfieaa.Q
open Go.RowKit Go.Proofs.YtjmgleomljfieaaW.PrintWords Go.Proofs.YtjmgleomljfieaaW.PrintLast Go.Proofs.YtjmgleomljfieaaW.PrintMore
set_option linter.unusedVariables false
set_option linter.unusedSimpArgs false
open Lk in
set_option maxHeartbeats 8000000 in
set_option maxRecDepth 100000 in
theorem laws_FnExactPlayCalls.calls (k : Nat) (A0_0 : Option Addr) (c0_0 : Nat) (l0_0 : List (S111)) (a0_1 : Int) (a1 : Int) (A2 : Option Addr) (c2 : Nat) (l2 : List Int) (r : Bool) (w : World) (hr0_0 : Kd.C k111 w A0_0 l0_0.length l0_0) (hc0_0 : l0_0.length ≤ c0_0) (hr2 : Kd.C (Kd.int .i64) w A2 l2.length l2) (hc2 : l2.length ≤ c2) (h : laws_FnExactPlayCalls.f k l0_0 a0_1 a1 l2 = some r) :
    Calls Try.prog 11 #[.agg #[.slice A0_0 l0_0.length c0_0, .int .i64 a0_1], .int .i64 a1, .slice A2 l2.length c2] w fun e w' => e = .returned (.bool r) ∧ Below w.heap.size w w' := by
  unfold laws_FnExactPlayCalls.f at h
  split at h
  case isFalse => cases h
  rename_i hg
  obtain rfl := Option.some.inj h
  clear h
  have HR0_0 := Aside0.mk hr0_0
  have HC0_0 := Aside0.mk hc0_0
  clear hr0_0 hc0_0
  have HR2 := Aside0.mk hr2
  have HC2 := Aside0.mk hc2
  clear hr2 hc2
  have HB := Aside0.mk (Below.refl w.heap.size w)
  unfold laws_FnExactPlayCalls.good at hg
  skip
  rcases hg with hs | ⟨hs, hg⟩
  · have hs1_ : decide (1048576 < (l2.length : Int)) = true := decide_eq_true hs
    have hs1n_ : decide (1048576 < l2.length) = true := decide_eq_true (by omega)
    clear hs
    go_enter Try.func11, Try.ntmps11
    go_wp2_with fail
    go_ret
    exact ⟨rfl, by repeat first | exact HB.out | apply below_alloc⟩
  have hs2_ : decide (1048576 < (l2.length : Int)) = false := decide_eq_false hs
  have hs2n_ : decide (1048576 < l2.length) = false := decide_eq_false (by omega)
  clear hs
  obtain ⟨t8, H90, hg⟩ := hg
  have H9 := Aside0.mk H90
  clear H90
  rcases hg with hs | ⟨hs, hg⟩
  · have hs1_ : decide (t8 < 0) = true := decide_eq_true hs
    clear hs
    go_enter Try.func11, Try.ntmps11
    go_wp2_with (first | ((with_reducible refine gate_dst (N := 3) rfl ?_); refine bxe 3 #[.slice A0_0 l0_0.length c0_0, .int .i64 a0_1] 24 ?_; intro gb2 hg_ w5 hx_ hb; have hg2_ : gb2 = w.heap.size := hg_; have hq_ : Below w.heap.size w w5 := ⟨hb.os, hb.tape, hb.output, hb.size, hb.block⟩; have HZ6 := Aside0.mk (show w.heap.size ≤ w5.heap.size from hq_.size); replace HB := Aside0.mk (below_then HB.out HB.out.size hq_); have HA7 := Aside0.mk (show w.heap.size ≤ w5.heap.size from HB.out.size); clear hq_; have BK3 := Aside0.mk hx_; have GQ4 := Aside0.mk (show w.heap.size ≤ gb2 ∧ gb2 < w5.heap.size from ⟨Nat.le_of_eq hg2_.symm, blk_lt hx_⟩); clear hb hg_ hg2_ hx_; obtain ⟨hczb1_0, hfzb1_0, hczb1_1, hfzb1_1⟩ := bk2 BK3.out))
    refine (laws_szWorld.calls k _ _ l0_0 a0_1 1048576 t8 _ (Kd.C_below HR0_0.out HB.out) HC0_0.out H9.out).mono ?_
    rintro e_ w10 ⟨rfl, hb⟩
    have hq_ : Below w5.heap.size w5 w10 := ⟨hb.os, hb.tape, hb.output, hb.size, hb.block⟩
    have HZ11 := Aside0.mk (show w5.heap.size ≤ w10.heap.size from hq_.size)
    replace HB := Aside0.mk (below_then HB.out HB.out.size hq_)
    have HA12 := Aside0.mk (show w.heap.size ≤ w10.heap.size from HB.out.size)
    have hn_ := Aside0.mk (blk_below BK3.out hq_)
    clear hczb1_0 hfzb1_0; clear hczb1_1 hfzb1_1
    clear BK3
    have BK3 := hn_
    clear hn_
    clear hq_
    obtain ⟨hczb1_0, hfzb1_0, hczb1_1, hfzb1_1⟩ := bk2 BK3.out
    clear hb
    go_wp2_with fail
    go_ret
    exact ⟨rfl, by repeat first | exact HB.out | apply below_alloc⟩
  have hs3_ : decide (t8 < 0) = false := decide_eq_false hs
  clear hs
  obtain ⟨t13, t14, H150, t24, H250, t34, t35, t36, t37, t38, t39, t40, t41, H420, t66, t67, H680, t87, H880, t97, t98, t99, t100, t101, t102, t103, H1050, H1300, H1350, t142, t143, H1440, H1540, t158, H1590, H1690, H1740, t179, t180, H1810, H1820, H1870, H1920, t197, t198, H1990, H2000, t205, t206, H2070, H2080, H2130, H2180, t222, t223, H2240, t233, H2340, t243, t244, t245, t246, t247, t248, t249, H2510, H2760, H2810, H2860, H2910, hg⟩ := hg
  have H15 := Aside0.mk H150
  clear H150
  have H25 := Aside0.mk H250
  clear H250
  have H42 := Aside0.mk H420
  clear H420
  have H68 := Aside0.mk H680
  clear H680
  have H88 := Aside0.mk H880
  clear H880
  have H105 := Aside0.mk H1050
  clear H1050
  have H130 := Aside0.mk H1300
  clear H1300
  have H135 := Aside0.mk H1350
  clear H1350
  have H144 := Aside0.mk H1440
  clear H1440
  have H154 := Aside0.mk H1540
  clear H1540
  have H159 := Aside0.mk H1590
  clear H1590
  have H169 := Aside0.mk H1690
  clear H1690
  have H174 := Aside0.mk H1740
  clear H1740
  have H181 := Aside0.mk H1810
  clear H1810
  have H182 := Aside0.mk H1820
  clear H1820
  have H187 := Aside0.mk H1870
  clear H1870
  have H192 := Aside0.mk H1920
  clear H1920
  have H199 := Aside0.mk H1990
  clear H1990
  have H200 := Aside0.mk H2000
  clear H2000
  have H207 := Aside0.mk H2070
  clear H2070
  have H208 := Aside0.mk H2080
  clear H2080
  have H213 := Aside0.mk H2130
  clear H2130
  have H218 := Aside0.mk H2180
  clear H2180
  have H224 := Aside0.mk H2240
  clear H2240
  have H234 := Aside0.mk H2340
  clear H2340
  have H251 := Aside0.mk H2510
  clear H2510
  have H276 := Aside0.mk H2760
  clear H2760
  have H281 := Aside0.mk H2810
  clear H2810
  have H286 := Aside0.mk H2860
  clear H2860
  have H291 := Aside0.mk H2910
  clear H2910
  clear hg
  go_enter Try.func11, Try.ntmps11
  go_wp2_with (first | ((with_reducible refine gate_dst (N := 3) rfl ?_); refine bxe 3 #[.slice A0_0 l0_0.length c0_0, .int .i64 a0_1] 24 ?_; intro gb2 hg_ w5 hx_ hb; have hg2_ : gb2 = w.heap.size := hg_; have hq_ : Below w.heap.size w w5 := ⟨hb.os, hb.tape, hb.output, hb.size, hb.block⟩; have HZ6 := Aside0.mk (show w.heap.size ≤ w5.heap.size from hq_.size); replace HB := Aside0.mk (below_then HB.out HB.out.size hq_); have HA7 := Aside0.mk (show w.heap.size ≤ w5.heap.size from HB.out.size); clear hq_; have BK3 := Aside0.mk hx_; have GQ4 := Aside0.mk (show w.heap.size ≤ gb2 ∧ gb2 < w5.heap.size from ⟨Nat.le_of_eq hg2_.symm, blk_lt hx_⟩); clear hb hg_ hg2_ hx_; obtain ⟨hczb1_0, hfzb1_0, hczb1_1, hfzb1_1⟩ := bk2 BK3.out))
  refine (laws_szWorld.calls k _ _ l0_0 a0_1 1048576 t8 _ (Kd.C_below HR0_0.out HB.out) HC0_0.out H9.out).mono ?_
  rintro e_ w10 ⟨rfl, hb⟩
  have hq_ : Below w5.heap.size w5 w10 := ⟨hb.os, hb.tape, hb.output, hb.size, hb.block⟩
  have HZ11 := Aside0.mk (show w5.heap.size ≤ w10.heap.size from hq_.size)
  replace HB := Aside0.mk (below_then HB.out HB.out.size hq_)
  have HA12 := Aside0.mk (show w.heap.size ≤ w10.heap.size from HB.out.size)
  have hn_ := Aside0.mk (blk_below BK3.out hq_)
  clear hczb1_0 hfzb1_0; clear hczb1_1 hfzb1_1
  clear BK3
  have BK3 := hn_
  clear hn_
  clear hq_
  obtain ⟨hczb1_0, hfzb1_0, hczb1_1, hfzb1_1⟩ := bk2 BK3.out
  clear hb
  go_wp2_with fail
  refine (laws_toWorld.calls k _ _ l0_0 a0_1 t13 t14 _ (Kd.C_below HR0_0.out HB.out) HC0_0.out H15.out).mono ?_
  rintro e_ w16 ⟨v17, rfl, f18, hb⟩
  have hq_ : Below w10.heap.size w10 w16 := ⟨hb.os, hb.tape, hb.output, hb.size, hb.block⟩
  have HZ19 := Aside0.mk (show w10.heap.size ≤ w16.heap.size from hq_.size)
  replace HB := Aside0.mk (below_then HB.out HB.out.size hq_)
  have HA20 := Aside0.mk (show w.heap.size ≤ w16.heap.size from HB.out.size)
  have hn_ := Aside0.mk (blk_below BK3.out hq_)
  clear hczb1_0 hfzb1_0; clear hczb1_1 hfzb1_1
  clear BK3
  have BK3 := hn_
  clear hn_
  clear hq_
  obtain ⟨hczb1_0, hfzb1_0, hczb1_1, hfzb1_1⟩ := bk2 BK3.out
  clear hb
  have F21 := Aside0.mk (Lk.newS (b := w10.heap.size) (base := w.heap.size) (Sep := fun k_ => True) f18 (HA12.out) (fun k_ hk_ => hk_))
  clear f18
  obtain ⟨A22, c23, e_⟩ := Kd.S_slice F21.out
  subst e_
  go_wp2_with fail
  refine (laws_toIntS.calls k _ _ l2 t24 _ (Kd.C_below HR2.out HB.out) HC2.out H25.out).mono ?_
  rintro e_ w26 ⟨v27, rfl, f28, hb⟩
  have hq_ : Below w16.heap.size w16 w26 := ⟨hb.os, hb.tape, hb.output, hb.size, hb.block⟩
  have HZ29 := Aside0.mk (show w16.heap.size ≤ w26.heap.size from hq_.size)
  replace HB := Aside0.mk (below_then HB.out HB.out.size hq_)
  have HA30 := Aside0.mk (show w.heap.size ≤ w26.heap.size from HB.out.size)
  replace F21 := Aside0.mk (Kd.S_below F21.out hq_)
  have hn_ := Aside0.mk (blk_below BK3.out hq_)
  clear hczb1_0 hfzb1_0; clear hczb1_1 hfzb1_1
  clear BK3
  have BK3 := hn_
  clear hn_
  clear hq_
  obtain ⟨hczb1_0, hfzb1_0, hczb1_1, hfzb1_1⟩ := bk2 BK3.out
  clear hb
  have F31 := Aside0.mk (Lk.newR (b := w16.heap.size) (base := w.heap.size) (Sep := fun k_ => True) rfl f28 (HA20.out) (fun k_ hk_ => hk_))
  clear f28
  obtain ⟨A32, c33, e_⟩ := Kd.R_slice F31.out
  subst e_
  go_wp2_with fail
  refine (spec_PlayCalls.calls k _ _ t13 t14 a1 _ _ t24 t34 t35 t36 t37 t38 t39 t40 t41 _ (Lk.Sr F21.out).2 (Lk.Sr F21.out).1 (Lk.Rr F31.out).2 (Lk.Rr F31.out).1 H42.out).mono ?_
  rintro e_ w43 ⟨v44, v45, rfl, f46, f47, hb⟩
  have hq_ : Below w26.heap.size w26 w43 := ⟨hb.os, hb.tape, hb.output, hb.size, hb.block⟩
  have HZ48 := Aside0.mk (show w26.heap.size ≤ w43.heap.size from hq_.size)
  replace HB := Aside0.mk (below_then HB.out HB.out.size hq_)
  have HA49 := Aside0.mk (show w.heap.size ≤ w43.heap.size from HB.out.size)
  replace F21 := Aside0.mk (Kd.S_below F21.out hq_)
  replace F31 := Aside0.mk (Kd.R_below F31.out hq_)
  have hn_ := Aside0.mk (blk_below BK3.out hq_)
  clear hczb1_0 hfzb1_0; clear hczb1_1 hfzb1_1
  clear BK3
  have BK3 := hn_
  clear hn_
  clear hq_
  obtain ⟨hczb1_0, hfzb1_0, hczb1_1, hfzb1_1⟩ := bk2 BK3.out
  clear hb
  have F50 := Aside0.mk (Lk.newR (b := w26.heap.size) (base := w.heap.size) (Sep := fun k_ => True) rfl f46 (HA30.out) (fun k_ hk_ => hk_))
  clear f46
  have F53 := Aside0.mk (Lk.newR (b := w26.heap.size) (base := w.heap.size) (Sep := fun k_ => True) rfl f47 (HA30.out) (fun k_ hk_ => hk_))
  clear f47
  obtain ⟨A51, c52, e_⟩ := Kd.R_slice F50.out
  subst e_
  obtain ⟨A54, c55, e_⟩ := Kd.R_slice F53.out
  subst e_
  go_wp2_with (first | ((with_reducible refine gate_dst (N := 8) rfl ?_); refine bxe 8 #[.int .i64 0, .int .i64 0, .slice none 0 0, .int .i64 0, .int .i64 0, .int .i64 0] 44 ?_; intro gb57 hg_ w60 hx_ hb; have hg2_ : gb57 = w43.heap.size := hg_; have hq_ : Below w43.heap.size w43 w60 := ⟨hb.os, hb.tape, hb.output, hb.size, hb.block⟩; have HZ61 := Aside0.mk (show w43.heap.size ≤ w60.heap.size from hq_.size); replace HB := Aside0.mk (below_then HB.out HB.out.size hq_); have HA62 := Aside0.mk (show w.heap.size ≤ w60.heap.size from HB.out.size); replace F21 := Aside0.mk (Kd.S_below F21.out hq_); replace F31 := Aside0.mk (Kd.R_below F31.out hq_); replace F50 := Aside0.mk (Kd.R_below F50.out hq_); replace F53 := Aside0.mk (Kd.R_below F53.out hq_); have hn_ := Aside0.mk (blk_below BK3.out hq_); clear hczb1_0 hfzb1_0; clear hczb1_1 hfzb1_1; clear BK3; have BK3 := hn_; clear hn_; clear hq_; obtain ⟨hczb1_0, hfzb1_0, hczb1_1, hfzb1_1⟩ := bk2 BK3.out; have BK58 := Aside0.mk hx_; have GQ59 := Aside0.mk (show w43.heap.size ≤ gb57 ∧ gb57 < w60.heap.size from ⟨Nat.le_of_eq hg2_.symm, blk_lt hx_⟩); clear hb hg_ hg2_ hx_; obtain ⟨hczb56_0, hfzb56_0, hczb56_1, hfzb56_1, hczb56_2, hfzb56_2, hczb56_3, hfzb56_3, hczb56_4, hfzb56_4, hczb56_5, hfzb56_5⟩ := bk6 BK58.out) | ((with_reducible refine gate_store (t := 44) (p := 8) rfl ?_); refine store_event (t := 44) (p := 8) (v := ?vo_w63) (w1 := ((((((w60.setCell ⟨gb57, 0, none⟩ (.int .i64 t34)).setCell ⟨gb57, 1, none⟩ (.int .i64 t35)).setCell ⟨gb57, 2, none⟩ (.slice A51 t36.length c52)).setCell ⟨gb57, 3, none⟩ (.int .i64 t37)).setCell ⟨gb57, 4, none⟩ (.int .i64 t38)).setCell ⟨gb57, 5, none⟩ (.int .i64 t39))) ?hg ?ho ?hn ?hr ?_; (case ho => rfl); (case hg => rfl); (case hn => rfl); (case hr => first | (go_simp; done) | (go_simp; rfl)); intro w63 hw_; have hx_ : w63.heap[gb57]? = some (.cells #[(.int .i64 t34), (.int .i64 t35), (.slice A51 t36.length c52), (.int .i64 t37), (.int .i64 t38), (.int .i64 t39)] 44 (0, 0)) := (by rw [hw_]; exact Lk.filled (us := [(.int .i64 t34), (.int .i64 t35), (.slice A51 t36.length c52), (.int .i64 t37), (.int .i64 t38), (.int .i64 t39)]) BK58.out rfl); have hk2_ : Kept w60 w63 (fun k_ => k_ = gb57) := (by rw [hw_]; exact Lk.fill_kept [(.int .i64 t34), (.int .i64 t35), (.slice A51 t36.length c52), (.int .i64 t37), (.int .i64 t38), (.int .i64 t39)] 0 w60); replace HB := Aside0.mk (show Below w.heap.size w w63 by rw [hw_]; exact Lk.fill_below [(.int .i64 t34), (.int .i64 t35), (.slice A51 t36.length c52), (.int .i64 t37), (.int .i64 t38), (.int .i64 t39)] 0 w w60 HB.out (by skip; have := HA49.out; have := GQ59.out; omega)); have HZ64 := Aside0.mk (show w60.heap.size ≤ w63.heap.size from hk2_.1); have HA65 := Aside0.mk (show w.heap.size ≤ w63.heap.size from HB.out.size); have hn_ := Aside0.mk (Kd.S_kept F21.out hk2_ (fun k_ h1_ h2_ => by skip; have := HZ29.out; have := HZ48.out; have := GQ59.out; have h3_ := h1_.1; omega)); clear F21; have F21 := hn_; clear hn_; have hn_ := Aside0.mk (Kd.R_kept F31.out hk2_ (fun k_ h1_ h2_ => by skip; have := HZ48.out; have := GQ59.out; have h3_ := h1_.1; omega)); clear F31; have F31 := hn_; clear hn_; have hn_ := Aside0.mk (Kd.R_kept F50.out hk2_ (fun k_ h1_ h2_ => by skip; have := GQ59.out; have h3_ := h1_.1; omega)); clear F50; have F50 := hn_; clear hn_; have hn_ := Aside0.mk (Kd.R_kept F53.out hk2_ (fun k_ h1_ h2_ => by skip; have := GQ59.out; have h3_ := h1_.1; omega)); clear F53; have F53 := hn_; clear hn_; clear hczb1_0 hfzb1_0; clear hczb1_1 hfzb1_1; have hn_ := Aside0.mk (blk_kept BK3.out hk2_ (fun h_ => by skip; have := HZ11.out; have := HZ19.out; have := HZ29.out; have := HZ48.out; have := GQ59.out; have := GQ4.out; omega)); clear BK3; have BK3 := hn_; clear hn_; clear hczb56_0 hfzb56_0; clear hczb56_1 hfzb56_1; clear hczb56_2 hfzb56_2; clear hczb56_3 hfzb56_3; clear hczb56_4 hfzb56_4; clear hczb56_5 hfzb56_5; clear BK58; have BK58 := Aside0.mk hx_; clear hk2_ hx_ hw_; obtain ⟨hczb1_0, hfzb1_0, hczb1_1, hfzb1_1⟩ := bk2 BK3.out; obtain ⟨hczb56_0, hfzb56_0, hczb56_1, hfzb56_1, hczb56_2, hfzb56_2, hczb56_3, hfzb56_3, hczb56_4, hfzb56_4, hczb56_5, hfzb56_5⟩ := bk6 BK58.out))
  refine (laws_toWorld.calls k _ _ l0_0 a0_1 t66 t67 _ (Kd.C_below HR0_0.out HB.out) HC0_0.out H68.out).mono ?_
  rintro e_ w69 ⟨v70, rfl, f71, hb⟩
  have hq_ : Below w63.heap.size w63 w69 := ⟨hb.os, hb.tape, hb.output, hb.size, hb.block⟩
  have HZ72 := Aside0.mk (show w63.heap.size ≤ w69.heap.size from hq_.size)
  replace HB := Aside0.mk (below_then HB.out HB.out.size hq_)
  have HA73 := Aside0.mk (show w.heap.size ≤ w69.heap.size from HB.out.size)
  replace F21 := Aside0.mk (Kd.S_below F21.out hq_)
  replace F31 := Aside0.mk (Kd.R_below F31.out hq_)
  replace F50 := Aside0.mk (Kd.R_below F50.out hq_)
  replace F53 := Aside0.mk (Kd.R_below F53.out hq_)
  have hn_ := Aside0.mk (blk_below BK3.out hq_)
  clear hczb1_0 hfzb1_0; clear hczb1_1 hfzb1_1
  clear BK3
  have BK3 := hn_
  clear hn_
  have hn_ := Aside0.mk (blk_below BK58.out hq_)
  clear hczb56_0 hfzb56_0; clear hczb56_1 hfzb56_1; clear hczb56_2 hfzb56_2; clear hczb56_3 hfzb56_3; clear hczb56_4 hfzb56_4; clear hczb56_5 hfzb56_5
  clear BK58
  have BK58 := hn_
  clear hn_
  clear hq_
  obtain ⟨hczb1_0, hfzb1_0, hczb1_1, hfzb1_1⟩ := bk2 BK3.out
  obtain ⟨hczb56_0, hfzb56_0, hczb56_1, hfzb56_1, hczb56_2, hfzb56_2, hczb56_3, hfzb56_3, hczb56_4, hfzb56_4, hczb56_5, hfzb56_5⟩ := bk6 BK58.out
  clear hb
  have F74 := Aside0.mk (Lk.newS (b := w63.heap.size) (base := w.heap.size) (Sep := fun k_ => True) f71 (HA65.out) (fun k_ hk_ => hk_))
  clear f71
  obtain ⟨A75, c76, e_⟩ := Kd.S_slice F74.out
  subst e_
  go_wp2_with (first | ((with_reducible refine gate_dst (N := 11) rfl ?_); refine bxe 11 #[.slice none 0 0, .int .i64 0] 29 ?_; intro gb78 hg_ w81 hx_ hb; have hg2_ : gb78 = w69.heap.size := hg_; have hq_ : Below w69.heap.size w69 w81 := ⟨hb.os, hb.tape, hb.output, hb.size, hb.block⟩; have HZ82 := Aside0.mk (show w69.heap.size ≤ w81.heap.size from hq_.size); replace HB := Aside0.mk (below_then HB.out HB.out.size hq_); have HA83 := Aside0.mk (show w.heap.size ≤ w81.heap.size from HB.out.size); replace F21 := Aside0.mk (Kd.S_below F21.out hq_); replace F31 := Aside0.mk (Kd.R_below F31.out hq_); replace F50 := Aside0.mk (Kd.R_below F50.out hq_); replace F53 := Aside0.mk (Kd.R_below F53.out hq_); replace F74 := Aside0.mk (Kd.S_below F74.out hq_); have hn_ := Aside0.mk (blk_below BK3.out hq_); clear hczb1_0 hfzb1_0; clear hczb1_1 hfzb1_1; clear BK3; have BK3 := hn_; clear hn_; have hn_ := Aside0.mk (blk_below BK58.out hq_); clear hczb56_0 hfzb56_0; clear hczb56_1 hfzb56_1; clear hczb56_2 hfzb56_2; clear hczb56_3 hfzb56_3; clear hczb56_4 hfzb56_4; clear hczb56_5 hfzb56_5; clear BK58; have BK58 := hn_; clear hn_; clear hq_; obtain ⟨hczb1_0, hfzb1_0, hczb1_1, hfzb1_1⟩ := bk2 BK3.out; obtain ⟨hczb56_0, hfzb56_0, hczb56_1, hfzb56_1, hczb56_2, hfzb56_2, hczb56_3, hfzb56_3, hczb56_4, hfzb56_4, hczb56_5, hfzb56_5⟩ := bk6 BK58.out; have BK79 := Aside0.mk hx_; have GQ80 := Aside0.mk (show w69.heap.size ≤ gb78 ∧ gb78 < w81.heap.size from ⟨Nat.le_of_eq hg2_.symm, blk_lt hx_⟩); clear hb hg_ hg2_ hx_; obtain ⟨hczb77_0, hfzb77_0, hczb77_1, hfzb77_1⟩ := bk2 BK79.out) | ((with_reducible refine gate_store (t := 29) (p := 11) rfl ?_); refine store_event (t := 29) (p := 11) (v := ?vo_w84) (w1 := ((w81.setCell ⟨gb78, 0, none⟩ (.slice A75 t66.length c76)).setCell ⟨gb78, 1, none⟩ (.int .i64 t67))) ?hg ?ho ?hn ?hr ?_; (case ho => rfl); (case hg => rfl); (case hn => rfl); (case hr => first | (go_simp; done) | (go_simp; rfl)); intro w84 hw_; have hx_ : w84.heap[gb78]? = some (.cells #[(.slice A75 t66.length c76), (.int .i64 t67)] 29 (0, 0)) := (by rw [hw_]; exact Lk.filled (us := [(.slice A75 t66.length c76), (.int .i64 t67)]) BK79.out rfl); have hk2_ : Kept w81 w84 (fun k_ => k_ = gb78) := (by rw [hw_]; exact Lk.fill_kept [(.slice A75 t66.length c76), (.int .i64 t67)] 0 w81); replace HB := Aside0.mk (show Below w.heap.size w w84 by rw [hw_]; exact Lk.fill_below [(.slice A75 t66.length c76), (.int .i64 t67)] 0 w w81 HB.out (by skip; have := HA73.out; have := GQ80.out; omega)); have HZ85 := Aside0.mk (show w81.heap.size ≤ w84.heap.size from hk2_.1); have HA86 := Aside0.mk (show w.heap.size ≤ w84.heap.size from HB.out.size); have hn_ := Aside0.mk (Kd.S_kept F21.out hk2_ (fun k_ h1_ h2_ => by skip; have := HZ29.out; have := HZ48.out; have := HZ61.out; have := HZ64.out; have := HZ72.out; have := GQ80.out; have h3_ := h1_.1; omega)); clear F21; have F21 := hn_; clear hn_; have hn_ := Aside0.mk (Kd.R_kept F31.out hk2_ (fun k_ h1_ h2_ => by skip; have := HZ48.out; have := HZ61.out; have := HZ64.out; have := HZ72.out; have := GQ80.out; have h3_ := h1_.1; omega)); clear F31; have F31 := hn_; clear hn_; have hn_ := Aside0.mk (Kd.R_kept F50.out hk2_ (fun k_ h1_ h2_ => by skip; have := HZ61.out; have := HZ64.out; have := HZ72.out; have := GQ80.out; have h3_ := h1_.1; omega)); clear F50; have F50 := hn_; clear hn_; have hn_ := Aside0.mk (Kd.R_kept F53.out hk2_ (fun k_ h1_ h2_ => by skip; have := HZ61.out; have := HZ64.out; have := HZ72.out; have := GQ80.out; have h3_ := h1_.1; omega)); clear F53; have F53 := hn_; clear hn_; have hn_ := Aside0.mk (Kd.S_kept F74.out hk2_ (fun k_ h1_ h2_ => by skip; have := GQ80.out; have h3_ := h1_.1; omega)); clear F74; have F74 := hn_; clear hn_; clear hczb1_0 hfzb1_0; clear hczb1_1 hfzb1_1; have hn_ := Aside0.mk (blk_kept BK3.out hk2_ (fun h_ => by skip; have := HZ11.out; have := HZ19.out; have := HZ29.out; have := HZ48.out; have := HZ61.out; have := HZ64.out; have := HZ72.out; have := GQ80.out; have := GQ4.out; omega)); clear BK3; have BK3 := hn_; clear hn_; clear hczb56_0 hfzb56_0; clear hczb56_1 hfzb56_1; clear hczb56_2 hfzb56_2; clear hczb56_3 hfzb56_3; clear hczb56_4 hfzb56_4; clear hczb56_5 hfzb56_5; have hn_ := Aside0.mk (blk_kept BK58.out hk2_ (fun h_ => by skip; have := HZ64.out; have := HZ72.out; have := GQ80.out; have := GQ59.out; omega)); clear BK58; have BK58 := hn_; clear hn_; clear hczb77_0 hfzb77_0; clear hczb77_1 hfzb77_1; clear BK79; have BK79 := Aside0.mk hx_; clear hk2_ hx_ hw_; obtain ⟨hczb1_0, hfzb1_0, hczb1_1, hfzb1_1⟩ := bk2 BK3.out; obtain ⟨hczb56_0, hfzb56_0, hczb56_1, hfzb56_1, hczb56_2, hfzb56_2, hczb56_3, hfzb56_3, hczb56_4, hfzb56_4, hczb56_5, hfzb56_5⟩ := bk6 BK58.out; obtain ⟨hczb77_0, hfzb77_0, hczb77_1, hfzb77_1⟩ := bk2 BK79.out))
  refine (laws_toIntS.calls k _ _ l2 t87 _ (Kd.C_below HR2.out HB.out) HC2.out H88.out).mono ?_
  rintro e_ w89 ⟨v90, rfl, f91, hb⟩
  have hq_ : Below w84.heap.size w84 w89 := ⟨hb.os, hb.tape, hb.output, hb.size, hb.block⟩
  have HZ92 := Aside0.mk (show w84.heap.size ≤ w89.heap.size from hq_.size)
  replace HB := Aside0.mk (below_then HB.out HB.out.size hq_)
  have HA93 := Aside0.mk (show w.heap.size ≤ w89.heap.size from HB.out.size)
  replace F21 := Aside0.mk (Kd.S_below F21.out hq_)
  replace F31 := Aside0.mk (Kd.R_below F31.out hq_)
  replace F50 := Aside0.mk (Kd.R_below F50.out hq_)
  replace F53 := Aside0.mk (Kd.R_below F53.out hq_)
  replace F74 := Aside0.mk (Kd.S_below F74.out hq_)
  have hn_ := Aside0.mk (blk_below BK3.out hq_)
  clear hczb1_0 hfzb1_0; clear hczb1_1 hfzb1_1
  clear BK3
  have BK3 := hn_
  clear hn_
  have hn_ := Aside0.mk (blk_below BK58.out hq_)
  clear hczb56_0 hfzb56_0; clear hczb56_1 hfzb56_1; clear hczb56_2 hfzb56_2; clear hczb56_3 hfzb56_3; clear hczb56_4 hfzb56_4; clear hczb56_5 hfzb56_5
  clear BK58
  have BK58 := hn_
  clear hn_
  have hn_ := Aside0.mk (blk_below BK79.out hq_)
  clear hczb77_0 hfzb77_0; clear hczb77_1 hfzb77_1
  clear BK79
  have BK79 := hn_
  clear hn_
  clear hq_
  obtain ⟨hczb1_0, hfzb1_0, hczb1_1, hfzb1_1⟩ := bk2 BK3.out
  obtain ⟨hczb56_0, hfzb56_0, hczb56_1, hfzb56_1, hczb56_2, hfzb56_2, hczb56_3, hfzb56_3, hczb56_4, hfzb56_4, hczb56_5, hfzb56_5⟩ := bk6 BK58.out
  obtain ⟨hczb77_0, hfzb77_0, hczb77_1, hfzb77_1⟩ := bk2 BK79.out
  clear hb
  have F94 := Aside0.mk (Lk.newR (b := w84.heap.size) (base := w.heap.size) (Sep := fun k_ => True) rfl f91 (HA86.out) (fun k_ hk_ => hk_))
  clear f91
  obtain ⟨A95, c96, e_⟩ := Kd.R_slice F94.out
  subst e_
  go_wp2_with fail
  refine (impl_PlayCalls.calls k _ _ t66 t67 a1 _ _ t87 t97 t98 t99 t100 t101 t102 t103 t41 _ (Lk.Sr F74.out).2 (Lk.Sr F74.out).1 (Lk.Rr F94.out).2 (Lk.Rr F94.out).1 H105.out).mono ?_
  rintro e_ w106 ⟨v107, v108, rfl, f109, f110, hb⟩
  have hq_ : Below w89.heap.size w89 w106 := ⟨hb.os, hb.tape, hb.output, hb.size, hb.block⟩
  have HZ111 := Aside0.mk (show w89.heap.size ≤ w106.heap.size from hq_.size)
  replace HB := Aside0.mk (below_then HB.out HB.out.size hq_)
  have HA112 := Aside0.mk (show w.heap.size ≤ w106.heap.size from HB.out.size)
  replace F21 := Aside0.mk (Kd.S_below F21.out hq_)
  replace F31 := Aside0.mk (Kd.R_below F31.out hq_)
  replace F50 := Aside0.mk (Kd.R_below F50.out hq_)
  replace F53 := Aside0.mk (Kd.R_below F53.out hq_)
  replace F74 := Aside0.mk (Kd.S_below F74.out hq_)
  replace F94 := Aside0.mk (Kd.R_below F94.out hq_)
  have hn_ := Aside0.mk (blk_below BK3.out hq_)
  clear hczb1_0 hfzb1_0; clear hczb1_1 hfzb1_1
  clear BK3
  have BK3 := hn_
  clear hn_
  have hn_ := Aside0.mk (blk_below BK58.out hq_)
  clear hczb56_0 hfzb56_0; clear hczb56_1 hfzb56_1; clear hczb56_2 hfzb56_2; clear hczb56_3 hfzb56_3; clear hczb56_4 hfzb56_4; clear hczb56_5 hfzb56_5
  clear BK58
  have BK58 := hn_
  clear hn_
  have hn_ := Aside0.mk (blk_below BK79.out hq_)
  clear hczb77_0 hfzb77_0; clear hczb77_1 hfzb77_1
  clear BK79
  have BK79 := hn_
  clear hn_
  clear hq_
  obtain ⟨hczb1_0, hfzb1_0, hczb1_1, hfzb1_1⟩ := bk2 BK3.out
  obtain ⟨hczb56_0, hfzb56_0, hczb56_1, hfzb56_1, hczb56_2, hfzb56_2, hczb56_3, hfzb56_3, hczb56_4, hfzb56_4, hczb56_5, hfzb56_5⟩ := bk6 BK58.out
  obtain ⟨hczb77_0, hfzb77_0, hczb77_1, hfzb77_1⟩ := bk2 BK79.out
  clear hb
  have F113 := Aside0.mk (Lk.newR (b := w89.heap.size) (base := w.heap.size) (Sep := fun k_ => True) rfl f109 (HA93.out) (fun k_ hk_ => hk_))
  clear f109
  have F116 := Aside0.mk (Lk.newR (b := w89.heap.size) (base := w.heap.size) (Sep := fun k_ => True) rfl f110 (HA93.out) (fun k_ hk_ => hk_))
  clear f110
  obtain ⟨A114, c115, e_⟩ := Kd.R_slice F113.out
  subst e_
  obtain ⟨A117, c118, e_⟩ := Kd.R_slice F116.out
  subst e_
  go_wp2_with (first | ((with_reducible refine gate_dst (N := 13) rfl ?_); refine bxe 13 #[.int .i64 0, .int .i64 0, .slice none 0 0, .int .i64 0, .int .i64 0, .int .i64 0] 44 ?_; intro gb120 hg_ w123 hx_ hb; have hg2_ : gb120 = w106.heap.size := hg_; have hq_ : Below w106.heap.size w106 w123 := ⟨hb.os, hb.tape, hb.output, hb.size, hb.block⟩; have HZ124 := Aside0.mk (show w106.heap.size ≤ w123.heap.size from hq_.size); replace HB := Aside0.mk (below_then HB.out HB.out.size hq_); have HA125 := Aside0.mk (show w.heap.size ≤ w123.heap.size from HB.out.size); replace F21 := Aside0.mk (Kd.S_below F21.out hq_); replace F31 := Aside0.mk (Kd.R_below F31.out hq_); replace F50 := Aside0.mk (Kd.R_below F50.out hq_); replace F53 := Aside0.mk (Kd.R_below F53.out hq_); replace F74 := Aside0.mk (Kd.S_below F74.out hq_); replace F94 := Aside0.mk (Kd.R_below F94.out hq_); replace F113 := Aside0.mk (Kd.R_below F113.out hq_); replace F116 := Aside0.mk (Kd.R_below F116.out hq_); have hn_ := Aside0.mk (blk_below BK3.out hq_); clear hczb1_0 hfzb1_0; clear hczb1_1 hfzb1_1; clear BK3; have BK3 := hn_; clear hn_; have hn_ := Aside0.mk (blk_below BK58.out hq_); clear hczb56_0 hfzb56_0; clear hczb56_1 hfzb56_1; clear hczb56_2 hfzb56_2; clear hczb56_3 hfzb56_3; clear hczb56_4 hfzb56_4; clear hczb56_5 hfzb56_5; clear BK58; have BK58 := hn_; clear hn_; have hn_ := Aside0.mk (blk_below BK79.out hq_); clear hczb77_0 hfzb77_0; clear hczb77_1 hfzb77_1; clear BK79; have BK79 := hn_; clear hn_; clear hq_; obtain ⟨hczb1_0, hfzb1_0, hczb1_1, hfzb1_1⟩ := bk2 BK3.out; obtain ⟨hczb56_0, hfzb56_0, hczb56_1, hfzb56_1, hczb56_2, hfzb56_2, hczb56_3, hfzb56_3, hczb56_4, hfzb56_4, hczb56_5, hfzb56_5⟩ := bk6 BK58.out; obtain ⟨hczb77_0, hfzb77_0, hczb77_1, hfzb77_1⟩ := bk2 BK79.out; have BK121 := Aside0.mk hx_; have GQ122 := Aside0.mk (show w106.heap.size ≤ gb120 ∧ gb120 < w123.heap.size from ⟨Nat.le_of_eq hg2_.symm, blk_lt hx_⟩); clear hb hg_ hg2_ hx_; obtain ⟨hczb119_0, hfzb119_0, hczb119_1, hfzb119_1, hczb119_2, hfzb119_2, hczb119_3, hfzb119_3, hczb119_4, hfzb119_4, hczb119_5, hfzb119_5⟩ := bk6 BK121.out) | ((with_reducible refine gate_store (t := 44) (p := 13) rfl ?_); refine store_event (t := 44) (p := 13) (v := ?vo_w126) (w1 := ((((((w123.setCell ⟨gb120, 0, none⟩ (.int .i64 t97)).setCell ⟨gb120, 1, none⟩ (.int .i64 t98)).setCell ⟨gb120, 2, none⟩ (.slice A114 t99.length c115)).setCell ⟨gb120, 3, none⟩ (.int .i64 t100)).setCell ⟨gb120, 4, none⟩ (.int .i64 t101)).setCell ⟨gb120, 5, none⟩ (.int .i64 t102))) ?hg ?ho ?hn ?hr ?_; (case ho => rfl); (case hg => rfl); (case hn => rfl); (case hr => first | (go_simp; done) | (go_simp; rfl)); intro w126 hw_; have hx_ : w126.heap[gb120]? = some (.cells #[(.int .i64 t97), (.int .i64 t98), (.slice A114 t99.length c115), (.int .i64 t100), (.int .i64 t101), (.int .i64 t102)] 44 (0, 0)) := (by rw [hw_]; exact Lk.filled (us := [(.int .i64 t97), (.int .i64 t98), (.slice A114 t99.length c115), (.int .i64 t100), (.int .i64 t101), (.int .i64 t102)]) BK121.out rfl); have hk2_ : Kept w123 w126 (fun k_ => k_ = gb120) := (by rw [hw_]; exact Lk.fill_kept [(.int .i64 t97), (.int .i64 t98), (.slice A114 t99.length c115), (.int .i64 t100), (.int .i64 t101), (.int .i64 t102)] 0 w123); replace HB := Aside0.mk (show Below w.heap.size w w126 by rw [hw_]; exact Lk.fill_below [(.int .i64 t97), (.int .i64 t98), (.slice A114 t99.length c115), (.int .i64 t100), (.int .i64 t101), (.int .i64 t102)] 0 w w123 HB.out (by skip; have := HA112.out; have := GQ122.out; omega)); have HZ127 := Aside0.mk (show w123.heap.size ≤ w126.heap.size from hk2_.1); have HA128 := Aside0.mk (show w.heap.size ≤ w126.heap.size from HB.out.size); have hn_ := Aside0.mk (Kd.S_kept F21.out hk2_ (fun k_ h1_ h2_ => by skip; have := HZ29.out; have := HZ48.out; have := HZ61.out; have := HZ64.out; have := HZ72.out; have := HZ82.out; have := HZ85.out; have := HZ92.out; have := HZ111.out; have := GQ122.out; have h3_ := h1_.1; omega)); clear F21; have F21 := hn_; clear hn_; have hn_ := Aside0.mk (Kd.R_kept F31.out hk2_ (fun k_ h1_ h2_ => by skip; have := HZ48.out; have := HZ61.out; have := HZ64.out; have := HZ72.out; have := HZ82.out; have := HZ85.out; have := HZ92.out; have := HZ111.out; have := GQ122.out; have h3_ := h1_.1; omega)); clear F31; have F31 := hn_; clear hn_; have hn_ := Aside0.mk (Kd.R_kept F50.out hk2_ (fun k_ h1_ h2_ => by skip; have := HZ61.out; have := HZ64.out; have := HZ72.out; have := HZ82.out; have := HZ85.out; have := HZ92.out; have := HZ111.out; have := GQ122.out; have h3_ := h1_.1; omega)); clear F50; have F50 := hn_; clear hn_; have hn_ := Aside0.mk (Kd.R_kept F53.out hk2_ (fun k_ h1_ h2_ => by skip; have := HZ61.out; have := HZ64.out; have := HZ72.out; have := HZ82.out; have := HZ85.out; have := HZ92.out; have := HZ111.out; have := GQ122.out; have h3_ := h1_.1; omega)); clear F53; have F53 := hn_; clear hn_; have hn_ := Aside0.mk (Kd.S_kept F74.out hk2_ (fun k_ h1_ h2_ => by skip; have := HZ82.out; have := HZ85.out; have := HZ92.out; have := HZ111.out; have := GQ122.out; have h3_ := h1_.1; omega)); clear F74; have F74 := hn_; clear hn_; have hn_ := Aside0.mk (Kd.R_kept F94.out hk2_ (fun k_ h1_ h2_ => by skip; have := HZ111.out; have := GQ122.out; have h3_ := h1_.1; omega)); clear F94; have F94 := hn_; clear hn_; have hn_ := Aside0.mk (Kd.R_kept F113.out hk2_ (fun k_ h1_ h2_ => by skip; have := GQ122.out; have h3_ := h1_.1; omega)); clear F113; have F113 := hn_; clear hn_; have hn_ := Aside0.mk (Kd.R_kept F116.out hk2_ (fun k_ h1_ h2_ => by skip; have := GQ122.out; have h3_ := h1_.1; omega)); clear F116; have F116 := hn_; clear hn_; clear hczb1_0 hfzb1_0; clear hczb1_1 hfzb1_1; have hn_ := Aside0.mk (blk_kept BK3.out hk2_ (fun h_ => by skip; have := HZ11.out; have := HZ19.out; have := HZ29.out; have := HZ48.out; have := HZ61.out; have := HZ64.out; have := HZ72.out; have := HZ82.out; have := HZ85.out; have := HZ92.out; have := HZ111.out; have := GQ122.out; have := GQ4.out; omega)); clear BK3; have BK3 := hn_; clear hn_; clear hczb56_0 hfzb56_0; clear hczb56_1 hfzb56_1; clear hczb56_2 hfzb56_2; clear hczb56_3 hfzb56_3; clear hczb56_4 hfzb56_4; clear hczb56_5 hfzb56_5; have hn_ := Aside0.mk (blk_kept BK58.out hk2_ (fun h_ => by skip; have := HZ64.out; have := HZ72.out; have := HZ82.out; have := HZ85.out; have := HZ92.out; have := HZ111.out; have := GQ122.out; have := GQ59.out; omega)); clear BK58; have BK58 := hn_; clear hn_; clear hczb77_0 hfzb77_0; clear hczb77_1 hfzb77_1; have hn_ := Aside0.mk (blk_kept BK79.out hk2_ (fun h_ => by skip; have := HZ85.out; have := HZ92.out; have := HZ111.out; have := GQ122.out; have := GQ80.out; omega)); clear BK79; have BK79 := hn_; clear hn_; clear hczb119_0 hfzb119_0; clear hczb119_1 hfzb119_1; clear hczb119_2 hfzb119_2; clear hczb119_3 hfzb119_3; clear hczb119_4 hfzb119_4; clear hczb119_5 hfzb119_5; clear BK121; have BK121 := Aside0.mk hx_; clear hk2_ hx_ hw_; obtain ⟨hczb1_0, hfzb1_0, hczb1_1, hfzb1_1⟩ := bk2 BK3.out; obtain ⟨hczb56_0, hfzb56_0, hczb56_1, hfzb56_1, hczb56_2, hfzb56_2, hczb56_3, hfzb56_3, hczb56_4, hfzb56_4, hczb56_5, hfzb56_5⟩ := bk6 BK58.out; obtain ⟨hczb77_0, hfzb77_0, hczb77_1, hfzb77_1⟩ := bk2 BK79.out; obtain ⟨hczb119_0, hfzb119_0, hczb119_1, hfzb119_1, hczb119_2, hfzb119_2, hczb119_3, hfzb119_3, hczb119_4, hfzb119_4, hczb119_5, hfzb119_5⟩ := bk6 BK121.out))
  refine (laws_eqCache.calls k t97 t98 _ _ t99 t100 t101 t102 t34 t35 _ _ t36 t37 t38 t39 true _ (Lk.Rr F113.out).2 (Lk.Rr F113.out).1 (Lk.Rr F50.out).2 (Lk.Rr F50.out).1 H130.out).mono ?_
  rintro e_ w131 ⟨rfl, hb⟩
  have hq_ : Below w126.heap.size w126 w131 := ⟨hb.os, hb.tape, hb.output, hb.size, hb.block⟩
  have HZ132 := Aside0.mk (show w126.heap.size ≤ w131.heap.size from hq_.size)
  replace HB := Aside0.mk (below_then HB.out HB.out.size hq_)
  have HA133 := Aside0.mk (show w.heap.size ≤ w131.heap.size from HB.out.size)
  replace F21 := Aside0.mk (Kd.S_below F21.out hq_)
  replace F31 := Aside0.mk (Kd.R_below F31.out hq_)
  replace F50 := Aside0.mk (Kd.R_below F50.out hq_)
  replace F53 := Aside0.mk (Kd.R_below F53.out hq_)
  replace F74 := Aside0.mk (Kd.S_below F74.out hq_)
  replace F94 := Aside0.mk (Kd.R_below F94.out hq_)
  replace F113 := Aside0.mk (Kd.R_below F113.out hq_)
  replace F116 := Aside0.mk (Kd.R_below F116.out hq_)
  have hn_ := Aside0.mk (blk_below BK3.out hq_)
  clear hczb1_0 hfzb1_0; clear hczb1_1 hfzb1_1
  clear BK3
  have BK3 := hn_
  clear hn_
  have hn_ := Aside0.mk (blk_below BK58.out hq_)
  clear hczb56_0 hfzb56_0; clear hczb56_1 hfzb56_1; clear hczb56_2 hfzb56_2; clear hczb56_3 hfzb56_3; clear hczb56_4 hfzb56_4; clear hczb56_5 hfzb56_5
  clear BK58
  have BK58 := hn_
  clear hn_
  have hn_ := Aside0.mk (blk_below BK79.out hq_)
  clear hczb77_0 hfzb77_0; clear hczb77_1 hfzb77_1
  clear BK79
  have BK79 := hn_
  clear hn_
  have hn_ := Aside0.mk (blk_below BK121.out hq_)
  clear hczb119_0 hfzb119_0; clear hczb119_1 hfzb119_1; clear hczb119_2 hfzb119_2; clear hczb119_3 hfzb119_3; clear hczb119_4 hfzb119_4; clear hczb119_5 hfzb119_5
  clear BK121
  have BK121 := hn_
  clear hn_
  clear hq_
  obtain ⟨hczb1_0, hfzb1_0, hczb1_1, hfzb1_1⟩ := bk2 BK3.out
  obtain ⟨hczb56_0, hfzb56_0, hczb56_1, hfzb56_1, hczb56_2, hfzb56_2, hczb56_3, hfzb56_3, hczb56_4, hfzb56_4, hczb56_5, hfzb56_5⟩ := bk6 BK58.out
  obtain ⟨hczb77_0, hfzb77_0, hczb77_1, hfzb77_1⟩ := bk2 BK79.out
  obtain ⟨hczb119_0, hfzb119_0, hczb119_1, hfzb119_1, hczb119_2, hfzb119_2, hczb119_3, hfzb119_3, hczb119_4, hfzb119_4, hczb119_5, hfzb119_5⟩ := bk6 BK121.out
  clear hb
  go_wp2_with fail
  refine (laws_eqIntS.calls k _ _ t103 _ _ t40 true _ (Lk.Rr F116.out).2 (Lk.Rr F116.out).1 (Lk.Rr F53.out).2 (Lk.Rr F53.out).1 H135.out).mono ?_
  rintro e_ w136 ⟨rfl, ⟨nd_, hd_⟩⟩
  have hb : Below w131.heap.size w131 w136 := by rw [hd_]; exact pw_below_drewN (Below.refl _ _) nd_
  clear hd_
  have hq_ : Below w131.heap.size w131 w136 := ⟨hb.os, hb.tape, hb.output, hb.size, hb.block⟩
  have HZ137 := Aside0.mk (show w131.heap.size ≤ w136.heap.size from hq_.size)
  replace HB := Aside0.mk (below_then HB.out HB.out.size hq_)
  have HA138 := Aside0.mk (show w.heap.size ≤ w136.heap.size from HB.out.size)
  replace F21 := Aside0.mk (Kd.S_below F21.out hq_)
  replace F31 := Aside0.mk (Kd.R_below F31.out hq_)
  replace F50 := Aside0.mk (Kd.R_below F50.out hq_)
  replace F53 := Aside0.mk (Kd.R_below F53.out hq_)
  replace F74 := Aside0.mk (Kd.S_below F74.out hq_)
  replace F94 := Aside0.mk (Kd.R_below F94.out hq_)
  replace F113 := Aside0.mk (Kd.R_below F113.out hq_)
  replace F116 := Aside0.mk (Kd.R_below F116.out hq_)
  have hn_ := Aside0.mk (blk_below BK3.out hq_)
  clear hczb1_0 hfzb1_0; clear hczb1_1 hfzb1_1
  clear BK3
  have BK3 := hn_
  clear hn_
  have hn_ := Aside0.mk (blk_below BK58.out hq_)
  clear hczb56_0 hfzb56_0; clear hczb56_1 hfzb56_1; clear hczb56_2 hfzb56_2; clear hczb56_3 hfzb56_3; clear hczb56_4 hfzb56_4; clear hczb56_5 hfzb56_5
  clear BK58
  have BK58 := hn_
  clear hn_
  have hn_ := Aside0.mk (blk_below BK79.out hq_)
  clear hczb77_0 hfzb77_0; clear hczb77_1 hfzb77_1
  clear BK79
  have BK79 := hn_
  clear hn_
  have hn_ := Aside0.mk (blk_below BK121.out hq_)
  clear hczb119_0 hfzb119_0; clear hczb119_1 hfzb119_1; clear hczb119_2 hfzb119_2; clear hczb119_3 hfzb119_3; clear hczb119_4 hfzb119_4; clear hczb119_5 hfzb119_5
  clear BK121
  have BK121 := hn_
  clear hn_
  clear hq_
  obtain ⟨hczb1_0, hfzb1_0, hczb1_1, hfzb1_1⟩ := bk2 BK3.out
  obtain ⟨hczb56_0, hfzb56_0, hczb56_1, hfzb56_1, hczb56_2, hfzb56_2, hczb56_3, hfzb56_3, hczb56_4, hfzb56_4, hczb56_5, hfzb56_5⟩ := bk6 BK58.out
  obtain ⟨hczb77_0, hfzb77_0, hczb77_1, hfzb77_1⟩ := bk2 BK79.out
  obtain ⟨hczb119_0, hfzb119_0, hczb119_1, hfzb119_1, hczb119_2, hfzb119_2, hczb119_3, hfzb119_3, hczb119_4, hfzb119_4, hczb119_5, hfzb119_5⟩ := bk6 BK121.out
  clear hb
  go_wp2_with fail
  have hb : Below w136.heap.size w136 w136.drew := below_drew (Below.refl _ _)
  obtain ⟨w139, hw_⟩ : ∃ w139, w136.drew = w139 := ⟨_, rfl⟩
  rw [hw_] at hb
  have hq_ : Below w136.heap.size w136 w139 := ⟨hb.os, hb.tape, hb.output, hb.size, hb.block⟩
  have HZ140 := Aside0.mk (show w136.heap.size ≤ w139.heap.size from hq_.size)
  replace HB := Aside0.mk (below_then HB.out HB.out.size hq_)
  have HA141 := Aside0.mk (show w.heap.size ≤ w139.heap.size from HB.out.size)
  replace F21 := Aside0.mk (Kd.S_below F21.out hq_)
  replace F31 := Aside0.mk (Kd.R_below F31.out hq_)
  replace F50 := Aside0.mk (Kd.R_below F50.out hq_)
  replace F53 := Aside0.mk (Kd.R_below F53.out hq_)
  replace F74 := Aside0.mk (Kd.S_below F74.out hq_)
  replace F94 := Aside0.mk (Kd.R_below F94.out hq_)
  replace F113 := Aside0.mk (Kd.R_below F113.out hq_)
  replace F116 := Aside0.mk (Kd.R_below F116.out hq_)
  have hn_ := Aside0.mk (blk_below BK3.out hq_)
  clear hczb1_0 hfzb1_0; clear hczb1_1 hfzb1_1
  clear BK3
  have BK3 := hn_
  clear hn_
  have hn_ := Aside0.mk (blk_below BK58.out hq_)
  clear hczb56_0 hfzb56_0; clear hczb56_1 hfzb56_1; clear hczb56_2 hfzb56_2; clear hczb56_3 hfzb56_3; clear hczb56_4 hfzb56_4; clear hczb56_5 hfzb56_5
  clear BK58
  have BK58 := hn_
  clear hn_
  have hn_ := Aside0.mk (blk_below BK79.out hq_)
  clear hczb77_0 hfzb77_0; clear hczb77_1 hfzb77_1
  clear BK79
  have BK79 := hn_
  clear hn_
  have hn_ := Aside0.mk (blk_below BK121.out hq_)
  clear hczb119_0 hfzb119_0; clear hczb119_1 hfzb119_1; clear hczb119_2 hfzb119_2; clear hczb119_3 hfzb119_3; clear hczb119_4 hfzb119_4; clear hczb119_5 hfzb119_5
  clear BK121
  have BK121 := hn_
  clear hn_
  clear hq_
  obtain ⟨hczb1_0, hfzb1_0, hczb1_1, hfzb1_1⟩ := bk2 BK3.out
  obtain ⟨hczb56_0, hfzb56_0, hczb56_1, hfzb56_1, hczb56_2, hfzb56_2, hczb56_3, hfzb56_3, hczb56_4, hfzb56_4, hczb56_5, hfzb56_5⟩ := bk6 BK58.out
  obtain ⟨hczb77_0, hfzb77_0, hczb77_1, hfzb77_1⟩ := bk2 BK79.out
  obtain ⟨hczb119_0, hfzb119_0, hczb119_1, hfzb119_1, hczb119_2, hfzb119_2, hczb119_3, hfzb119_3, hczb119_4, hfzb119_4, hczb119_5, hfzb119_5⟩ := bk6 BK121.out
  refine start_ (n := 5) (S := fun w' => w'.cell? ⟨gb78, 0, none⟩ = some (.slice A75 t66.length c76) ∧ w'.cell? ⟨gb78, 1, none⟩ = some (.int .i64 t67) ∧ w'.cell? ⟨gb2, 0, none⟩ = some (.slice A0_0 l0_0.length c0_0) ∧ w'.cell? ⟨gb2, 1, none⟩ = some (.int .i64 a0_1)) (ds := []) (bs 5 0) kR rfl kR (by rw [hw_]; exact ⟨bZ BK79.out 0, bZ BK79.out 1, bZ BK3.out 0, bZ BK3.out 1⟩) (fun hHeld => ?_)
  rw [hw_] at hHeld ⊢
  clear hw_ hb
  refine take_ (i := 0) (N := some 67) (v := ?_) (a' := ?_) (bs 5 1) rfl rfl (by kernel_rfl) (fun _ _ _ h => h) (Or.inl ⟨by rfl, ?_⟩) hHeld ?_ ?_
  rotate_left
  · rintro w' ⟨s0, s1, s2, s3⟩
    go_simp
    with_reducible rfl
  rotate_left
  · simp only [Act.put, List.setIfInBounds_toArray, List.set_cons_zero, List.set_cons_succ, i64_w, i32_w]
    rfl
  refine take_ (i := 1) (N := some 68) (v := ?_) (a' := ?_) (bs 5 3) rfl rfl (by kernel_rfl) (fun _ _ _ h => h) (Or.inl ⟨by rfl, ?_⟩) hHeld ?_ ?_
  rotate_left
  · rintro w' ⟨s0, s1, s2, s3⟩
    go_simp
    with_reducible rfl
  rotate_left
  · simp only [Act.put, List.setIfInBounds_toArray, List.set_cons_zero, List.set_cons_succ, i64_w, i32_w]
    rfl
  refine one_ (i := 2) (N := some 69) (bs 5 7) rfl rfl (by kernel_rfl) (by decide) (fun K hK => ?_)
  refine goes_ Try.func15 (by kernel_rfl) rfl #[.agg #[.slice A0_0 l0_0.length c0_0, .int .i64 a0_1]] (by rfl) rfl rfl (by (try simp only [List.map_toArray, List.map_cons, List.map_nil]); first | done | rfl | (simp only [List.length_drop, List.length_take]; rfl)) ?_
  refine (laws_toWorld.calls k _ _ l0_0 a0_1 t142 t143 _ (Kd.C_below HR0_0.out HB.out) HC0_0.out H144.out).mono ?_
  rintro e_ w145 ⟨v146, rfl, f147, hb⟩
  have hq_ : Below w139.heap.size w139 w145 := ⟨hb.os, hb.tape, hb.output, hb.size, hb.block⟩
  have HZ148 := Aside0.mk (show w139.heap.size ≤ w145.heap.size from hq_.size)
  replace HB := Aside0.mk (below_then HB.out HB.out.size hq_)
  have HA149 := Aside0.mk (show w.heap.size ≤ w145.heap.size from HB.out.size)
  replace F21 := Aside0.mk (Kd.S_below F21.out hq_)
  replace F31 := Aside0.mk (Kd.R_below F31.out hq_)
  replace F50 := Aside0.mk (Kd.R_below F50.out hq_)
  replace F53 := Aside0.mk (Kd.R_below F53.out hq_)
  replace F74 := Aside0.mk (Kd.S_below F74.out hq_)
  replace F94 := Aside0.mk (Kd.R_below F94.out hq_)
  replace F113 := Aside0.mk (Kd.R_below F113.out hq_)
  replace F116 := Aside0.mk (Kd.R_below F116.out hq_)
  have hn_ := Aside0.mk (blk_below BK3.out hq_)
  clear hczb1_0 hfzb1_0; clear hczb1_1 hfzb1_1
  clear BK3
  have BK3 := hn_
  clear hn_
  have hn_ := Aside0.mk (blk_below BK58.out hq_)
  clear hczb56_0 hfzb56_0; clear hczb56_1 hfzb56_1; clear hczb56_2 hfzb56_2; clear hczb56_3 hfzb56_3; clear hczb56_4 hfzb56_4; clear hczb56_5 hfzb56_5
  clear BK58
  have BK58 := hn_
  clear hn_
  have hn_ := Aside0.mk (blk_below BK79.out hq_)
  clear hczb77_0 hfzb77_0; clear hczb77_1 hfzb77_1
  clear BK79
  have BK79 := hn_
  clear hn_
  have hn_ := Aside0.mk (blk_below BK121.out hq_)
  clear hczb119_0 hfzb119_0; clear hczb119_1 hfzb119_1; clear hczb119_2 hfzb119_2; clear hczb119_3 hfzb119_3; clear hczb119_4 hfzb119_4; clear hczb119_5 hfzb119_5
  clear BK121
  have BK121 := hn_
  clear hn_
  clear hq_
  obtain ⟨hczb1_0, hfzb1_0, hczb1_1, hfzb1_1⟩ := bk2 BK3.out
  obtain ⟨hczb56_0, hfzb56_0, hczb56_1, hfzb56_1, hczb56_2, hfzb56_2, hczb56_3, hfzb56_3, hczb56_4, hfzb56_4, hczb56_5, hfzb56_5⟩ := bk6 BK58.out
  obtain ⟨hczb77_0, hfzb77_0, hczb77_1, hfzb77_1⟩ := bk2 BK79.out
  obtain ⟨hczb119_0, hfzb119_0, hczb119_1, hfzb119_1, hczb119_2, hfzb119_2, hczb119_3, hfzb119_3, hczb119_4, hfzb119_4, hczb119_5, hfzb119_5⟩ := bk6 BK121.out
  clear hb
  refine ⟨_, rfl, ?_⟩
  have F150 := Aside0.mk (Lk.newS (b := w139.heap.size) (base := w.heap.size) (Sep := fun k_ => True) f147 (HA141.out) (fun k_ hk_ => hk_))
  clear f147
  obtain ⟨A151, c152, e_⟩ := Kd.S_slice F150.out
  subst e_
  refine hK.out _ _ ⟨bZ BK79.out 0, bZ BK79.out 1, bZ BK3.out 0, bZ BK3.out 1⟩ (fun hHeld => ?_)
  clear hK K
  refine norm_ (a' := ?_) ?_ ?_
  rotate_left
  · show Act.put _ (some 69) _ = _
    simp only [Act.put, List.setIfInBounds_toArray, List.set_cons_zero, List.set_cons_succ, i64_w, i32_w]
    rfl
  refine one_ (i := 3) (N := some 70) (bs 5 15) rfl rfl (by kernel_rfl) (by decide) (fun K hK => ?_)
  refine goes_ Try.func17 (by kernel_rfl) rfl #[.agg #[.slice A75 t66.length c76, .int .i64 t67], .agg #[.slice A151 t142.length c152, .int .i64 t143]] (by rfl) rfl rfl (by (try simp only [List.map_toArray, List.map_cons, List.map_nil]); first | done | rfl | (simp only [List.length_drop, List.length_take]; rfl)) ?_
  refine (laws_eqWorld.calls k _ _ t66 t67 _ _ t142 t143 true _ (Lk.Sr F74.out).2 (Lk.Sr F74.out).1 (Lk.Sr F150.out).2 (Lk.Sr F150.out).1 H154.out).mono ?_
  rintro e_ w155 ⟨rfl, hb⟩
  have hq_ : Below w145.heap.size w145 w155 := ⟨hb.os, hb.tape, hb.output, hb.size, hb.block⟩
  have HZ156 := Aside0.mk (show w145.heap.size ≤ w155.heap.size from hq_.size)
  replace HB := Aside0.mk (below_then HB.out HB.out.size hq_)
  have HA157 := Aside0.mk (show w.heap.size ≤ w155.heap.size from HB.out.size)
  replace F21 := Aside0.mk (Kd.S_below F21.out hq_)
  replace F31 := Aside0.mk (Kd.R_below F31.out hq_)
  replace F50 := Aside0.mk (Kd.R_below F50.out hq_)
  replace F53 := Aside0.mk (Kd.R_below F53.out hq_)
  replace F74 := Aside0.mk (Kd.S_below F74.out hq_)
  replace F94 := Aside0.mk (Kd.R_below F94.out hq_)
  replace F113 := Aside0.mk (Kd.R_below F113.out hq_)
  replace F116 := Aside0.mk (Kd.R_below F116.out hq_)
  replace F150 := Aside0.mk (Kd.S_below F150.out hq_)
  have hn_ := Aside0.mk (blk_below BK3.out hq_)
  clear hczb1_0 hfzb1_0; clear hczb1_1 hfzb1_1
  clear BK3
  have BK3 := hn_
  clear hn_
  have hn_ := Aside0.mk (blk_below BK58.out hq_)
  clear hczb56_0 hfzb56_0; clear hczb56_1 hfzb56_1; clear hczb56_2 hfzb56_2; clear hczb56_3 hfzb56_3; clear hczb56_4 hfzb56_4; clear hczb56_5 hfzb56_5
  clear BK58
  have BK58 := hn_
  clear hn_
  have hn_ := Aside0.mk (blk_below BK79.out hq_)
  clear hczb77_0 hfzb77_0; clear hczb77_1 hfzb77_1
  clear BK79
  have BK79 := hn_
  clear hn_
  have hn_ := Aside0.mk (blk_below BK121.out hq_)
  clear hczb119_0 hfzb119_0; clear hczb119_1 hfzb119_1; clear hczb119_2 hfzb119_2; clear hczb119_3 hfzb119_3; clear hczb119_4 hfzb119_4; clear hczb119_5 hfzb119_5
  clear BK121
  have BK121 := hn_
  clear hn_
  clear hq_
  obtain ⟨hczb1_0, hfzb1_0, hczb1_1, hfzb1_1⟩ := bk2 BK3.out
  obtain ⟨hczb56_0, hfzb56_0, hczb56_1, hfzb56_1, hczb56_2, hfzb56_2, hczb56_3, hfzb56_3, hczb56_4, hfzb56_4, hczb56_5, hfzb56_5⟩ := bk6 BK58.out
  obtain ⟨hczb77_0, hfzb77_0, hczb77_1, hfzb77_1⟩ := bk2 BK79.out
  obtain ⟨hczb119_0, hfzb119_0, hczb119_1, hfzb119_1, hczb119_2, hfzb119_2, hczb119_3, hfzb119_3, hczb119_4, hfzb119_4, hczb119_5, hfzb119_5⟩ := bk6 BK121.out
  clear hb
  refine ⟨_, rfl, ?_⟩
  refine hK.out _ _ ⟨bZ BK79.out 0, bZ BK79.out 1, bZ BK3.out 0, bZ BK3.out 1⟩ (fun hHeld => ?_)
  clear hK K
  refine norm_ (a' := ?_) ?_ ?_
  rotate_left
  · show Act.put _ (some 70) _ = _
    simp only [Act.put, List.setIfInBounds_toArray, List.set_cons_zero, List.set_cons_succ, i64_w, i32_w]
    rfl
  refine pure_ (i := 4) (N := some 71) (v := ?_) (a' := ?_) (bs 5 31) rfl rfl (by kernel_rfl) (fun _ _ _ h => h) (Or.inl ⟨by rfl, ?_⟩) ?_ ?_
  rotate_left
  · intro w'
    go_simp
    with_reducible rfl
  rotate_left
  · simp only [Act.put, List.setIfInBounds_toArray, List.set_cons_zero, List.set_cons_succ, i64_w, i32_w]
    rfl
  refine done_ (by kernel_rfl) ?_
  go_wp2_with fail
  refine (laws_toIntS.calls k _ _ l2 t158 _ (Kd.C_below HR2.out HB.out) HC2.out H159.out).mono ?_
  rintro e_ w160 ⟨v161, rfl, f162, hb⟩
  have hq_ : Below w155.heap.size w155 w160 := ⟨hb.os, hb.tape, hb.output, hb.size, hb.block⟩
  have HZ163 := Aside0.mk (show w155.heap.size ≤ w160.heap.size from hq_.size)
  replace HB := Aside0.mk (below_then HB.out HB.out.size hq_)
  have HA164 := Aside0.mk (show w.heap.size ≤ w160.heap.size from HB.out.size)
  replace F21 := Aside0.mk (Kd.S_below F21.out hq_)
  replace F31 := Aside0.mk (Kd.R_below F31.out hq_)
  replace F50 := Aside0.mk (Kd.R_below F50.out hq_)
  replace F53 := Aside0.mk (Kd.R_below F53.out hq_)
  replace F74 := Aside0.mk (Kd.S_below F74.out hq_)
  replace F94 := Aside0.mk (Kd.R_below F94.out hq_)
  replace F113 := Aside0.mk (Kd.R_below F113.out hq_)
  replace F116 := Aside0.mk (Kd.R_below F116.out hq_)
  replace F150 := Aside0.mk (Kd.S_below F150.out hq_)
  have hn_ := Aside0.mk (blk_below BK3.out hq_)
  clear hczb1_0 hfzb1_0; clear hczb1_1 hfzb1_1
  clear BK3
  have BK3 := hn_
  clear hn_
  have hn_ := Aside0.mk (blk_below BK58.out hq_)
  clear hczb56_0 hfzb56_0; clear hczb56_1 hfzb56_1; clear hczb56_2 hfzb56_2; clear hczb56_3 hfzb56_3; clear hczb56_4 hfzb56_4; clear hczb56_5 hfzb56_5
  clear BK58
  have BK58 := hn_
  clear hn_
  have hn_ := Aside0.mk (blk_below BK79.out hq_)
  clear hczb77_0 hfzb77_0; clear hczb77_1 hfzb77_1
  clear BK79
  have BK79 := hn_
  clear hn_
  have hn_ := Aside0.mk (blk_below BK121.out hq_)
  clear hczb119_0 hfzb119_0; clear hczb119_1 hfzb119_1; clear hczb119_2 hfzb119_2; clear hczb119_3 hfzb119_3; clear hczb119_4 hfzb119_4; clear hczb119_5 hfzb119_5
  clear BK121
  have BK121 := hn_
  clear hn_
  clear hq_
  obtain ⟨hczb1_0, hfzb1_0, hczb1_1, hfzb1_1⟩ := bk2 BK3.out
  obtain ⟨hczb56_0, hfzb56_0, hczb56_1, hfzb56_1, hczb56_2, hfzb56_2, hczb56_3, hfzb56_3, hczb56_4, hfzb56_4, hczb56_5, hfzb56_5⟩ := bk6 BK58.out
  obtain ⟨hczb77_0, hfzb77_0, hczb77_1, hfzb77_1⟩ := bk2 BK79.out
  obtain ⟨hczb119_0, hfzb119_0, hczb119_1, hfzb119_1, hczb119_2, hfzb119_2, hczb119_3, hfzb119_3, hczb119_4, hfzb119_4, hczb119_5, hfzb119_5⟩ := bk6 BK121.out
  clear hb
  have F165 := Aside0.mk (Lk.newR (b := w155.heap.size) (base := w.heap.size) (Sep := fun k_ => True) rfl f162 (HA157.out) (fun k_ hk_ => hk_))
  clear f162
  obtain ⟨A166, c167, e_⟩ := Kd.R_slice F165.out
  subst e_
  go_wp2_with fail
  refine (laws_eqIntS.calls k _ _ t87 _ _ t158 true _ (Lk.Rr F94.out).2 (Lk.Rr F94.out).1 (Lk.Rr F165.out).2 (Lk.Rr F165.out).1 H169.out).mono ?_
  rintro e_ w170 ⟨rfl, ⟨nd_, hd_⟩⟩
  have hb : Below w160.heap.size w160 w170 := by rw [hd_]; exact pw_below_drewN (Below.refl _ _) nd_
  clear hd_
  have hq_ : Below w160.heap.size w160 w170 := ⟨hb.os, hb.tape, hb.output, hb.size, hb.block⟩
  have HZ171 := Aside0.mk (show w160.heap.size ≤ w170.heap.size from hq_.size)
  replace HB := Aside0.mk (below_then HB.out HB.out.size hq_)
  have HA172 := Aside0.mk (show w.heap.size ≤ w170.heap.size from HB.out.size)
  replace F21 := Aside0.mk (Kd.S_below F21.out hq_)
  replace F31 := Aside0.mk (Kd.R_below F31.out hq_)
  replace F50 := Aside0.mk (Kd.R_below F50.out hq_)
  replace F53 := Aside0.mk (Kd.R_below F53.out hq_)
  replace F74 := Aside0.mk (Kd.S_below F74.out hq_)
  replace F94 := Aside0.mk (Kd.R_below F94.out hq_)
  replace F113 := Aside0.mk (Kd.R_below F113.out hq_)
  replace F116 := Aside0.mk (Kd.R_below F116.out hq_)
  replace F150 := Aside0.mk (Kd.S_below F150.out hq_)
  replace F165 := Aside0.mk (Kd.R_below F165.out hq_)
  have hn_ := Aside0.mk (blk_below BK3.out hq_)
  clear hczb1_0 hfzb1_0; clear hczb1_1 hfzb1_1
  clear BK3
  have BK3 := hn_
  clear hn_
  have hn_ := Aside0.mk (blk_below BK58.out hq_)
  clear hczb56_0 hfzb56_0; clear hczb56_1 hfzb56_1; clear hczb56_2 hfzb56_2; clear hczb56_3 hfzb56_3; clear hczb56_4 hfzb56_4; clear hczb56_5 hfzb56_5
  clear BK58
  have BK58 := hn_
  clear hn_
  have hn_ := Aside0.mk (blk_below BK79.out hq_)
  clear hczb77_0 hfzb77_0; clear hczb77_1 hfzb77_1
  clear BK79
  have BK79 := hn_
  clear hn_
  have hn_ := Aside0.mk (blk_below BK121.out hq_)
  clear hczb119_0 hfzb119_0; clear hczb119_1 hfzb119_1; clear hczb119_2 hfzb119_2; clear hczb119_3 hfzb119_3; clear hczb119_4 hfzb119_4; clear hczb119_5 hfzb119_5
  clear BK121
  have BK121 := hn_
  clear hn_
  clear hq_
  obtain ⟨hczb1_0, hfzb1_0, hczb1_1, hfzb1_1⟩ := bk2 BK3.out
  obtain ⟨hczb56_0, hfzb56_0, hczb56_1, hfzb56_1, hczb56_2, hfzb56_2, hczb56_3, hfzb56_3, hczb56_4, hfzb56_4, hczb56_5, hfzb56_5⟩ := bk6 BK58.out
  obtain ⟨hczb77_0, hfzb77_0, hczb77_1, hfzb77_1⟩ := bk2 BK79.out
  obtain ⟨hczb119_0, hfzb119_0, hczb119_1, hfzb119_1, hczb119_2, hfzb119_2, hczb119_3, hfzb119_3, hczb119_4, hfzb119_4, hczb119_5, hfzb119_5⟩ := bk6 BK121.out
  clear hb
  go_wp2_with fail
  have hn_ := H174.out
  refine (laws_markWorld.calls (fun k_ => (w63.heap.size ≤ k_ ∧ k_ < w69.heap.size) ∧ (True)) _ t66 t67 1 w _ HB.out F74.out (by omega) hn_).mono ?_
  rintro e_ w173 ⟨rfl, f0_, hb0_, hk_⟩
  have hk2_ : Kept w170 w173 (fun k_ => w63.heap.size ≤ k_ ∧ k_ < w69.heap.size) := Kept.mono hk_ (fun k_ h_ => by first | exact h_ | exact h_.1)
  have HZ175 := Aside0.mk (show w170.heap.size ≤ w173.heap.size from hk2_.1)
  clear HB
  have HB := Aside0.mk hb0_
  have hn_ := Aside0.mk (Kd.S_kept F21.out hk2_ (fun k_ h1_ h2_ => by skip; have := HZ29.out; have := HZ48.out; have := HZ61.out; have := HZ64.out; have h3_ := h1_.1; omega))
  clear F21
  have F21 := hn_
  clear hn_
  have hn_ := Aside0.mk (Kd.R_kept F31.out hk2_ (fun k_ h1_ h2_ => by skip; have := HZ48.out; have := HZ61.out; have := HZ64.out; have h3_ := h1_.1; omega))
  clear F31
  have F31 := hn_
  clear hn_
  have hn_ := Aside0.mk (Kd.R_kept F50.out hk2_ (fun k_ h1_ h2_ => by skip; have := HZ61.out; have := HZ64.out; have h3_ := h1_.1; omega))
  clear F50
  have F50 := hn_
  clear hn_
  have hn_ := Aside0.mk (Kd.R_kept F53.out hk2_ (fun k_ h1_ h2_ => by skip; have := HZ61.out; have := HZ64.out; have h3_ := h1_.1; omega))
  clear F53
  have F53 := hn_
  clear hn_
  have hn_ := Aside0.mk (Kd.R_kept F94.out hk2_ (fun k_ h1_ h2_ => by skip; have := HZ82.out; have := HZ85.out; have h3_ := h1_.1; omega))
  clear F94
  have F94 := hn_
  clear hn_
  have hn_ := Aside0.mk (Kd.R_kept F113.out hk2_ (fun k_ h1_ h2_ => by skip; have := HZ82.out; have := HZ85.out; have := HZ92.out; have h3_ := h1_.1; omega))
  clear F113
  have F113 := hn_
  clear hn_
  have hn_ := Aside0.mk (Kd.R_kept F116.out hk2_ (fun k_ h1_ h2_ => by skip; have := HZ82.out; have := HZ85.out; have := HZ92.out; have h3_ := h1_.1; omega))
  clear F116
  have F116 := hn_
  clear hn_
  have hn_ := Aside0.mk (Kd.S_kept F150.out hk2_ (fun k_ h1_ h2_ => by skip; have := HZ82.out; have := HZ85.out; have := HZ92.out; have := HZ111.out; have := HZ124.out; have := HZ127.out; have := HZ132.out; have := HZ137.out; have := HZ140.out; have h3_ := h1_.1; omega))
  clear F150
  have F150 := hn_
  clear hn_
  have hn_ := Aside0.mk (Kd.R_kept F165.out hk2_ (fun k_ h1_ h2_ => by skip; have := HZ82.out; have := HZ85.out; have := HZ92.out; have := HZ111.out; have := HZ124.out; have := HZ127.out; have := HZ132.out; have := HZ137.out; have := HZ140.out; have := HZ148.out; have := HZ156.out; have h3_ := h1_.1; omega))
  clear F165
  have F165 := hn_
  clear hn_
  have hn_ := Aside0.mk (f0_)
  have F74n := hn_
  clear hn_
  clear F74
  have F74 := F74n
  clear F74n
  have hn_ := Aside0.mk (blk_kept BK3.out hk2_ (fun h_ => by skip; have := HZ11.out; have := HZ19.out; have := HZ29.out; have := HZ48.out; have := HZ61.out; have := HZ64.out; have := GQ4.out; omega))
  clear hczb1_0 hfzb1_0; clear hczb1_1 hfzb1_1
  clear BK3
  have BK3 := hn_
  clear hn_
  have hn_ := Aside0.mk (blk_kept BK58.out hk2_ (fun h_ => by skip; have := HZ64.out; have := GQ59.out; omega))
  clear hczb56_0 hfzb56_0; clear hczb56_1 hfzb56_1; clear hczb56_2 hfzb56_2; clear hczb56_3 hfzb56_3; clear hczb56_4 hfzb56_4; clear hczb56_5 hfzb56_5
  clear BK58
  have BK58 := hn_
  clear hn_
  have hn_ := Aside0.mk (blk_kept BK79.out hk2_ (fun h_ => by skip; have := GQ80.out; omega))
  clear hczb77_0 hfzb77_0; clear hczb77_1 hfzb77_1
  clear BK79
  have BK79 := hn_
  clear hn_
  have hn_ := Aside0.mk (blk_kept BK121.out hk2_ (fun h_ => by skip; have := HZ82.out; have := HZ85.out; have := HZ92.out; have := HZ111.out; have := GQ122.out; omega))
  clear hczb119_0 hfzb119_0; clear hczb119_1 hfzb119_1; clear hczb119_2 hfzb119_2; clear hczb119_3 hfzb119_3; clear hczb119_4 hfzb119_4; clear hczb119_5 hfzb119_5
  clear BK121
  have BK121 := hn_
  clear hn_
  clear hk2_ hk_ hb0_ f0_
  obtain ⟨hczb1_0, hfzb1_0, hczb1_1, hfzb1_1⟩ := bk2 BK3.out
  obtain ⟨hczb56_0, hfzb56_0, hczb56_1, hfzb56_1, hczb56_2, hfzb56_2, hczb56_3, hfzb56_3, hczb56_4, hfzb56_4, hczb56_5, hfzb56_5⟩ := bk6 BK58.out
  obtain ⟨hczb77_0, hfzb77_0, hczb77_1, hfzb77_1⟩ := bk2 BK79.out
  obtain ⟨hczb119_0, hfzb119_0, hczb119_1, hfzb119_1, hczb119_2, hfzb119_2, hczb119_3, hfzb119_3, hczb119_4, hfzb119_4, hczb119_5, hfzb119_5⟩ := bk6 BK121.out
  have hl176 := (Kd.S_reads' F74.out).1
  have HL176 := Aside0.mk hl176
  clear hl176
  have hn1_ : decide ((1 + (markClassS_cnt t66 : Nat) : Int) < 0) = false := decide_eq_false (by omega)
  have hd177 := hn1_
  clear hn1_
  go_wp2_with fail
  refine (laws_markIntS.calls k (fun k_ => (w84.heap.size ≤ k_ ∧ k_ < w89.heap.size) ∧ some k_ = (.slice A95 t87.length c96 : Value).ownBlock ∧ (True)) _ t87 (1 + (markClassS_cnt t66 : Nat) : Int) t179 t180 w _ HB.out F94.out H181.out).mono ?_
  rintro e_ w178 ⟨rfl, f0_, hb0_, hk_⟩
  have hk2_ : Kept w173 w178 (fun k_ => w84.heap.size ≤ k_ ∧ k_ < w89.heap.size) := Kept.mono hk_ (fun k_ h_ => by first | exact h_ | exact h_.1)
  have HZ183 := Aside0.mk (show w173.heap.size ≤ w178.heap.size from hk2_.1)
  clear HB
  have HB := Aside0.mk hb0_
  have hn_ := Aside0.mk (Kd.S_kept F21.out hk2_ (fun k_ h1_ h2_ => by skip; have := HZ29.out; have := HZ48.out; have := HZ61.out; have := HZ64.out; have := HZ72.out; have := HZ82.out; have := HZ85.out; have h3_ := h1_.1; omega))
  clear F21
  have F21 := hn_
  clear hn_
  have hn_ := Aside0.mk (Kd.R_kept F31.out hk2_ (fun k_ h1_ h2_ => by skip; have := HZ48.out; have := HZ61.out; have := HZ64.out; have := HZ72.out; have := HZ82.out; have := HZ85.out; have h3_ := h1_.1; omega))
  clear F31
  have F31 := hn_
  clear hn_
  have hn_ := Aside0.mk (Kd.R_kept F50.out hk2_ (fun k_ h1_ h2_ => by skip; have := HZ61.out; have := HZ64.out; have := HZ72.out; have := HZ82.out; have := HZ85.out; have h3_ := h1_.1; omega))
  clear F50
  have F50 := hn_
  clear hn_
  have hn_ := Aside0.mk (Kd.R_kept F53.out hk2_ (fun k_ h1_ h2_ => by skip; have := HZ61.out; have := HZ64.out; have := HZ72.out; have := HZ82.out; have := HZ85.out; have h3_ := h1_.1; omega))
  clear F53
  have F53 := hn_
  clear hn_
  have hn_ := Aside0.mk (Kd.S_kept F74.out hk2_ (fun k_ h1_ h2_ => by skip; have := HZ82.out; have := HZ85.out; have h3_ := h1_.1; omega))
  clear F74
  have F74 := hn_
  clear hn_
  have hn_ := Aside0.mk (Kd.R_kept F113.out hk2_ (fun k_ h1_ h2_ => by skip; have h3_ := h1_.1; omega))
  clear F113
  have F113 := hn_
  clear hn_
  have hn_ := Aside0.mk (Kd.R_kept F116.out hk2_ (fun k_ h1_ h2_ => by skip; have h3_ := h1_.1; omega))
  clear F116
  have F116 := hn_
  clear hn_
  have hn_ := Aside0.mk (Kd.S_kept F150.out hk2_ (fun k_ h1_ h2_ => by skip; have := HZ111.out; have := HZ124.out; have := HZ127.out; have := HZ132.out; have := HZ137.out; have := HZ140.out; have h3_ := h1_.1; omega))
  clear F150
  have F150 := hn_
  clear hn_
  have hn_ := Aside0.mk (Kd.R_kept F165.out hk2_ (fun k_ h1_ h2_ => by skip; have := HZ111.out; have := HZ124.out; have := HZ127.out; have := HZ132.out; have := HZ137.out; have := HZ140.out; have := HZ148.out; have := HZ156.out; have h3_ := h1_.1; omega))
  clear F165
  have F165 := hn_
  clear hn_
  have hn_ := Aside0.mk (Lk.markedR rfl f0_ (fun k_ e_ => (show (w84.heap.size ≤ k_ ∧ k_ < w89.heap.size) ∧ some k_ = (.slice A95 t87.length c96 : Value).ownBlock ∧ (True) from (F94.out.1 k_ e_.symm))))
  have F94n := hn_
  clear hn_
  clear F94
  have F94 := F94n
  clear F94n
  have hn_ := Aside0.mk (blk_kept BK3.out hk2_ (fun h_ => by skip; have := HZ11.out; have := HZ19.out; have := HZ29.out; have := HZ48.out; have := HZ61.out; have := HZ64.out; have := HZ72.out; have := HZ82.out; have := HZ85.out; have := GQ4.out; omega))
  clear hczb1_0 hfzb1_0; clear hczb1_1 hfzb1_1
  clear BK3
  have BK3 := hn_
  clear hn_
  have hn_ := Aside0.mk (blk_kept BK58.out hk2_ (fun h_ => by skip; have := HZ64.out; have := HZ72.out; have := HZ82.out; have := HZ85.out; have := GQ59.out; omega))
  clear hczb56_0 hfzb56_0; clear hczb56_1 hfzb56_1; clear hczb56_2 hfzb56_2; clear hczb56_3 hfzb56_3; clear hczb56_4 hfzb56_4; clear hczb56_5 hfzb56_5
  clear BK58
  have BK58 := hn_
  clear hn_
  have hn_ := Aside0.mk (blk_kept BK79.out hk2_ (fun h_ => by skip; have := HZ85.out; have := GQ80.out; omega))
  clear hczb77_0 hfzb77_0; clear hczb77_1 hfzb77_1
  clear BK79
  have BK79 := hn_
  clear hn_
  have hn_ := Aside0.mk (blk_kept BK121.out hk2_ (fun h_ => by skip; have := HZ111.out; have := GQ122.out; omega))
  clear hczb119_0 hfzb119_0; clear hczb119_1 hfzb119_1; clear hczb119_2 hfzb119_2; clear hczb119_3 hfzb119_3; clear hczb119_4 hfzb119_4; clear hczb119_5 hfzb119_5
  clear BK121
  have BK121 := hn_
  clear hn_
  clear hk2_ hk_ hb0_ f0_
  obtain ⟨hczb1_0, hfzb1_0, hczb1_1, hfzb1_1⟩ := bk2 BK3.out
  obtain ⟨hczb56_0, hfzb56_0, hczb56_1, hfzb56_1, hczb56_2, hfzb56_2, hczb56_3, hfzb56_3, hczb56_4, hfzb56_4, hczb56_5, hfzb56_5⟩ := bk6 BK58.out
  obtain ⟨hczb77_0, hfzb77_0, hczb77_1, hfzb77_1⟩ := bk2 BK79.out
  obtain ⟨hczb119_0, hfzb119_0, hczb119_1, hfzb119_1, hczb119_2, hfzb119_2, hczb119_3, hfzb119_3, hczb119_4, hfzb119_4, hczb119_5, hfzb119_5⟩ := bk6 BK121.out
  have hl184 := (Kd.R_reads' F94.out).1
  have HL184 := Aside0.mk hl184
  clear hl184
  have hn1_ : decide (t179 < 0) = false := decide_eq_false (by have := H182.out; omega)
  have hd185 := hn1_
  clear hn1_
  go_wp2_with fail
  refine (laws_eqCache.calls k t97 t98 _ _ t99 t100 t101 t102 t34 t35 _ _ t36 t37 t38 t39 true _ (Lk.Rr F113.out).2 (Lk.Rr F113.out).1 (Lk.Rr F50.out).2 (Lk.Rr F50.out).1 H187.out).mono ?_
  rintro e_ w188 ⟨rfl, hb⟩
  have hq_ : Below w178.heap.size w178 w188 := ⟨hb.os, hb.tape, hb.output, hb.size, hb.block⟩
  have HZ189 := Aside0.mk (show w178.heap.size ≤ w188.heap.size from hq_.size)
  replace HB := Aside0.mk (below_then HB.out HB.out.size hq_)
  have HA190 := Aside0.mk (show w.heap.size ≤ w188.heap.size from HB.out.size)
  replace F21 := Aside0.mk (Kd.S_below F21.out hq_)
  replace F31 := Aside0.mk (Kd.R_below F31.out hq_)
  replace F50 := Aside0.mk (Kd.R_below F50.out hq_)
  replace F53 := Aside0.mk (Kd.R_below F53.out hq_)
  replace F74 := Aside0.mk (Kd.S_below F74.out hq_)
  replace F94 := Aside0.mk (Kd.R_below F94.out hq_)
  replace F113 := Aside0.mk (Kd.R_below F113.out hq_)
  replace F116 := Aside0.mk (Kd.R_below F116.out hq_)
  replace F150 := Aside0.mk (Kd.S_below F150.out hq_)
  replace F165 := Aside0.mk (Kd.R_below F165.out hq_)
  have hn_ := Aside0.mk (blk_below BK3.out hq_)
  clear hczb1_0 hfzb1_0; clear hczb1_1 hfzb1_1
  clear BK3
  have BK3 := hn_
  clear hn_
  have hn_ := Aside0.mk (blk_below BK58.out hq_)
  clear hczb56_0 hfzb56_0; clear hczb56_1 hfzb56_1; clear hczb56_2 hfzb56_2; clear hczb56_3 hfzb56_3; clear hczb56_4 hfzb56_4; clear hczb56_5 hfzb56_5
  clear BK58
  have BK58 := hn_
  clear hn_
  have hn_ := Aside0.mk (blk_below BK79.out hq_)
  clear hczb77_0 hfzb77_0; clear hczb77_1 hfzb77_1
  clear BK79
  have BK79 := hn_
  clear hn_
  have hn_ := Aside0.mk (blk_below BK121.out hq_)
  clear hczb119_0 hfzb119_0; clear hczb119_1 hfzb119_1; clear hczb119_2 hfzb119_2; clear hczb119_3 hfzb119_3; clear hczb119_4 hfzb119_4; clear hczb119_5 hfzb119_5
  clear BK121
  have BK121 := hn_
  clear hn_
  clear hq_
  obtain ⟨hczb1_0, hfzb1_0, hczb1_1, hfzb1_1⟩ := bk2 BK3.out
  obtain ⟨hczb56_0, hfzb56_0, hczb56_1, hfzb56_1, hczb56_2, hfzb56_2, hczb56_3, hfzb56_3, hczb56_4, hfzb56_4, hczb56_5, hfzb56_5⟩ := bk6 BK58.out
  obtain ⟨hczb77_0, hfzb77_0, hczb77_1, hfzb77_1⟩ := bk2 BK79.out
  obtain ⟨hczb119_0, hfzb119_0, hczb119_1, hfzb119_1, hczb119_2, hfzb119_2, hczb119_3, hfzb119_3, hczb119_4, hfzb119_4, hczb119_5, hfzb119_5⟩ := bk6 BK121.out
  clear hb
  go_wp2_with fail
  refine (laws_eqIntS.calls k _ _ t103 _ _ t40 true _ (Lk.Rr F116.out).2 (Lk.Rr F116.out).1 (Lk.Rr F53.out).2 (Lk.Rr F53.out).1 H192.out).mono ?_
  rintro e_ w193 ⟨rfl, ⟨nd_, hd_⟩⟩
  have hb : Below w188.heap.size w188 w193 := by rw [hd_]; exact pw_below_drewN (Below.refl _ _) nd_
  clear hd_
  have hq_ : Below w188.heap.size w188 w193 := ⟨hb.os, hb.tape, hb.output, hb.size, hb.block⟩
  have HZ194 := Aside0.mk (show w188.heap.size ≤ w193.heap.size from hq_.size)
  replace HB := Aside0.mk (below_then HB.out HB.out.size hq_)
  have HA195 := Aside0.mk (show w.heap.size ≤ w193.heap.size from HB.out.size)
  replace F21 := Aside0.mk (Kd.S_below F21.out hq_)
  replace F31 := Aside0.mk (Kd.R_below F31.out hq_)
  replace F50 := Aside0.mk (Kd.R_below F50.out hq_)
  replace F53 := Aside0.mk (Kd.R_below F53.out hq_)
  replace F74 := Aside0.mk (Kd.S_below F74.out hq_)
  replace F94 := Aside0.mk (Kd.R_below F94.out hq_)
  replace F113 := Aside0.mk (Kd.R_below F113.out hq_)
  replace F116 := Aside0.mk (Kd.R_below F116.out hq_)
  replace F150 := Aside0.mk (Kd.S_below F150.out hq_)
  replace F165 := Aside0.mk (Kd.R_below F165.out hq_)
  have hn_ := Aside0.mk (blk_below BK3.out hq_)
  clear hczb1_0 hfzb1_0; clear hczb1_1 hfzb1_1
  clear BK3
  have BK3 := hn_
  clear hn_
  have hn_ := Aside0.mk (blk_below BK58.out hq_)
  clear hczb56_0 hfzb56_0; clear hczb56_1 hfzb56_1; clear hczb56_2 hfzb56_2; clear hczb56_3 hfzb56_3; clear hczb56_4 hfzb56_4; clear hczb56_5 hfzb56_5
  clear BK58
  have BK58 := hn_
  clear hn_
  have hn_ := Aside0.mk (blk_below BK79.out hq_)
  clear hczb77_0 hfzb77_0; clear hczb77_1 hfzb77_1
  clear BK79
  have BK79 := hn_
  clear hn_
  have hn_ := Aside0.mk (blk_below BK121.out hq_)
  clear hczb119_0 hfzb119_0; clear hczb119_1 hfzb119_1; clear hczb119_2 hfzb119_2; clear hczb119_3 hfzb119_3; clear hczb119_4 hfzb119_4; clear hczb119_5 hfzb119_5
  clear BK121
  have BK121 := hn_
  clear hn_
  clear hq_
  obtain ⟨hczb1_0, hfzb1_0, hczb1_1, hfzb1_1⟩ := bk2 BK3.out
  obtain ⟨hczb56_0, hfzb56_0, hczb56_1, hfzb56_1, hczb56_2, hfzb56_2, hczb56_3, hfzb56_3, hczb56_4, hfzb56_4, hczb56_5, hfzb56_5⟩ := bk6 BK58.out
  obtain ⟨hczb77_0, hfzb77_0, hczb77_1, hfzb77_1⟩ := bk2 BK79.out
  obtain ⟨hczb119_0, hfzb119_0, hczb119_1, hfzb119_1, hczb119_2, hfzb119_2, hczb119_3, hfzb119_3, hczb119_4, hfzb119_4, hczb119_5, hfzb119_5⟩ := bk6 BK121.out
  clear hb
  go_wp2_with fail
  refine (laws_markCache.calls k t97 t98 (fun k_ => (w89.heap.size ≤ k_ ∧ k_ < w106.heap.size) ∧ some k_ = (.slice A114 t99.length c115 : Value).ownBlock ∧ (True)) _ t99 t100 t101 t102 1 t197 t198 w _ HB.out F113.out H199.out).mono ?_
  rintro e_ w196 ⟨rfl, f0_, hb0_, hk_⟩
  have hk2_ : Kept w193 w196 (fun k_ => w89.heap.size ≤ k_ ∧ k_ < w106.heap.size) := Kept.mono hk_ (fun k_ h_ => by first | exact h_ | exact h_.1)
  have HZ201 := Aside0.mk (show w193.heap.size ≤ w196.heap.size from hk2_.1)
  clear HB
  have HB := Aside0.mk hb0_
  have hn_ := Aside0.mk (Kd.S_kept F21.out hk2_ (fun k_ h1_ h2_ => by skip; have := HZ29.out; have := HZ48.out; have := HZ61.out; have := HZ64.out; have := HZ72.out; have := HZ82.out; have := HZ85.out; have := HZ92.out; have h3_ := h1_.1; omega))
  clear F21
  have F21 := hn_
  clear hn_
  have hn_ := Aside0.mk (Kd.R_kept F31.out hk2_ (fun k_ h1_ h2_ => by skip; have := HZ48.out; have := HZ61.out; have := HZ64.out; have := HZ72.out; have := HZ82.out; have := HZ85.out; have := HZ92.out; have h3_ := h1_.1; omega))
  clear F31
  have F31 := hn_
  clear hn_
  have hn_ := Aside0.mk (Kd.R_kept F50.out hk2_ (fun k_ h1_ h2_ => by skip; have := HZ61.out; have := HZ64.out; have := HZ72.out; have := HZ82.out; have := HZ85.out; have := HZ92.out; have h3_ := h1_.1; omega))
  clear F50
  have F50 := hn_
  clear hn_
  have hn_ := Aside0.mk (Kd.R_kept F53.out hk2_ (fun k_ h1_ h2_ => by skip; have := HZ61.out; have := HZ64.out; have := HZ72.out; have := HZ82.out; have := HZ85.out; have := HZ92.out; have h3_ := h1_.1; omega))
  clear F53
  have F53 := hn_
  clear hn_
  have hn_ := Aside0.mk (Kd.S_kept F74.out hk2_ (fun k_ h1_ h2_ => by skip; have := HZ82.out; have := HZ85.out; have := HZ92.out; have h3_ := h1_.1; omega))
  clear F74
  have F74 := hn_
  clear hn_
  have hn_ := Aside0.mk (Kd.R_kept F94.out hk2_ (fun k_ h1_ h2_ => by skip; have h3_ := h1_.1; omega))
  clear F94
  have F94 := hn_
  clear hn_
  replace F116 := Aside0.mk (Kd.R_mono (Kd.R_kept (Kd.R_apart' F116.out (Kd.R_typed F113.out) (by decide)) hk_ (fun k_ h1_ h2_ => h1_.2 h2_.2.1)) (fun k_ h_ => h_.1))
  have hn_ := Aside0.mk (Kd.S_kept F150.out hk2_ (fun k_ h1_ h2_ => by skip; have := HZ124.out; have := HZ127.out; have := HZ132.out; have := HZ137.out; have := HZ140.out; have h3_ := h1_.1; omega))
  clear F150
  have F150 := hn_
  clear hn_
  have hn_ := Aside0.mk (Kd.R_kept F165.out hk2_ (fun k_ h1_ h2_ => by skip; have := HZ124.out; have := HZ127.out; have := HZ132.out; have := HZ137.out; have := HZ140.out; have := HZ148.out; have := HZ156.out; have h3_ := h1_.1; omega))
  clear F165
  have F165 := hn_
  clear hn_
  have hn_ := Aside0.mk (Lk.markedR rfl f0_ (fun k_ e_ => (show (w89.heap.size ≤ k_ ∧ k_ < w106.heap.size) ∧ some k_ = (.slice A114 t99.length c115 : Value).ownBlock ∧ (True) from (F113.out.1 k_ e_.symm))))
  have F113n := hn_
  clear hn_
  clear F113
  have F113 := F113n
  clear F113n
  have hn_ := Aside0.mk (blk_kept BK3.out hk2_ (fun h_ => by skip; have := HZ11.out; have := HZ19.out; have := HZ29.out; have := HZ48.out; have := HZ61.out; have := HZ64.out; have := HZ72.out; have := HZ82.out; have := HZ85.out; have := HZ92.out; have := GQ4.out; omega))
  clear hczb1_0 hfzb1_0; clear hczb1_1 hfzb1_1
  clear BK3
  have BK3 := hn_
  clear hn_
  have hn_ := Aside0.mk (blk_kept BK58.out hk2_ (fun h_ => by skip; have := HZ64.out; have := HZ72.out; have := HZ82.out; have := HZ85.out; have := HZ92.out; have := GQ59.out; omega))
  clear hczb56_0 hfzb56_0; clear hczb56_1 hfzb56_1; clear hczb56_2 hfzb56_2; clear hczb56_3 hfzb56_3; clear hczb56_4 hfzb56_4; clear hczb56_5 hfzb56_5
  clear BK58
  have BK58 := hn_
  clear hn_
  have hn_ := Aside0.mk (blk_kept BK79.out hk2_ (fun h_ => by skip; have := HZ85.out; have := HZ92.out; have := GQ80.out; omega))
  clear hczb77_0 hfzb77_0; clear hczb77_1 hfzb77_1
  clear BK79
  have BK79 := hn_
  clear hn_
  have hn_ := Aside0.mk (blk_kept BK121.out hk2_ (fun h_ => by skip; have := GQ122.out; omega))
  clear hczb119_0 hfzb119_0; clear hczb119_1 hfzb119_1; clear hczb119_2 hfzb119_2; clear hczb119_3 hfzb119_3; clear hczb119_4 hfzb119_4; clear hczb119_5 hfzb119_5
  clear BK121
  have BK121 := hn_
  clear hn_
  clear hk2_ hk_ hb0_ f0_
  obtain ⟨hczb1_0, hfzb1_0, hczb1_1, hfzb1_1⟩ := bk2 BK3.out
  obtain ⟨hczb56_0, hfzb56_0, hczb56_1, hfzb56_1, hczb56_2, hfzb56_2, hczb56_3, hfzb56_3, hczb56_4, hfzb56_4, hczb56_5, hfzb56_5⟩ := bk6 BK58.out
  obtain ⟨hczb77_0, hfzb77_0, hczb77_1, hfzb77_1⟩ := bk2 BK79.out
  obtain ⟨hczb119_0, hfzb119_0, hczb119_1, hfzb119_1, hczb119_2, hfzb119_2, hczb119_3, hfzb119_3, hczb119_4, hfzb119_4, hczb119_5, hfzb119_5⟩ := bk6 BK121.out
  have hl202 := (Kd.R_reads' F113.out).1
  have HL202 := Aside0.mk hl202
  clear hl202
  have hn1_ : decide (t197 < 0) = false := decide_eq_false (by have := H200.out; omega)
  have hd203 := hn1_
  clear hn1_
  go_wp2_with fail
  refine (laws_markIntS.calls k (fun k_ => (w89.heap.size ≤ k_ ∧ k_ < w106.heap.size) ∧ some k_ = (.slice A117 t103.length c118 : Value).ownBlock ∧ (True)) _ t103 t197 t205 t206 w _ HB.out F116.out H207.out).mono ?_
  rintro e_ w204 ⟨rfl, f0_, hb0_, hk_⟩
  have hk2_ : Kept w196 w204 (fun k_ => w89.heap.size ≤ k_ ∧ k_ < w106.heap.size) := Kept.mono hk_ (fun k_ h_ => by first | exact h_ | exact h_.1)
  have HZ209 := Aside0.mk (show w196.heap.size ≤ w204.heap.size from hk2_.1)
  clear HB
  have HB := Aside0.mk hb0_
  have hn_ := Aside0.mk (Kd.S_kept F21.out hk2_ (fun k_ h1_ h2_ => by skip; have := HZ29.out; have := HZ48.out; have := HZ61.out; have := HZ64.out; have := HZ72.out; have := HZ82.out; have := HZ85.out; have := HZ92.out; have h3_ := h1_.1; omega))
  clear F21
  have F21 := hn_
  clear hn_
  have hn_ := Aside0.mk (Kd.R_kept F31.out hk2_ (fun k_ h1_ h2_ => by skip; have := HZ48.out; have := HZ61.out; have := HZ64.out; have := HZ72.out; have := HZ82.out; have := HZ85.out; have := HZ92.out; have h3_ := h1_.1; omega))
  clear F31
  have F31 := hn_
  clear hn_
  have hn_ := Aside0.mk (Kd.R_kept F50.out hk2_ (fun k_ h1_ h2_ => by skip; have := HZ61.out; have := HZ64.out; have := HZ72.out; have := HZ82.out; have := HZ85.out; have := HZ92.out; have h3_ := h1_.1; omega))
  clear F50
  have F50 := hn_
  clear hn_
  have hn_ := Aside0.mk (Kd.R_kept F53.out hk2_ (fun k_ h1_ h2_ => by skip; have := HZ61.out; have := HZ64.out; have := HZ72.out; have := HZ82.out; have := HZ85.out; have := HZ92.out; have h3_ := h1_.1; omega))
  clear F53
  have F53 := hn_
  clear hn_
  have hn_ := Aside0.mk (Kd.S_kept F74.out hk2_ (fun k_ h1_ h2_ => by skip; have := HZ82.out; have := HZ85.out; have := HZ92.out; have h3_ := h1_.1; omega))
  clear F74
  have F74 := hn_
  clear hn_
  have hn_ := Aside0.mk (Kd.R_kept F94.out hk2_ (fun k_ h1_ h2_ => by skip; have h3_ := h1_.1; omega))
  clear F94
  have F94 := hn_
  clear hn_
  replace F113 := Aside0.mk (Kd.R_mono (Kd.R_kept (Kd.R_apart' F113.out (Kd.R_typed F116.out) (by decide)) hk_ (fun k_ h1_ h2_ => h1_.2 h2_.2.1)) (fun k_ h_ => h_.1))
  have hn_ := Aside0.mk (Kd.S_kept F150.out hk2_ (fun k_ h1_ h2_ => by skip; have := HZ124.out; have := HZ127.out; have := HZ132.out; have := HZ137.out; have := HZ140.out; have h3_ := h1_.1; omega))
  clear F150
  have F150 := hn_
  clear hn_
  have hn_ := Aside0.mk (Kd.R_kept F165.out hk2_ (fun k_ h1_ h2_ => by skip; have := HZ124.out; have := HZ127.out; have := HZ132.out; have := HZ137.out; have := HZ140.out; have := HZ148.out; have := HZ156.out; have h3_ := h1_.1; omega))
  clear F165
  have F165 := hn_
  clear hn_
  have hn_ := Aside0.mk (Lk.markedR rfl f0_ (fun k_ e_ => (show (w89.heap.size ≤ k_ ∧ k_ < w106.heap.size) ∧ some k_ = (.slice A117 t103.length c118 : Value).ownBlock ∧ (True) from (F116.out.1 k_ e_.symm))))
  have F116n := hn_
  clear hn_
  clear F116
  have F116 := F116n
  clear F116n
  have hn_ := Aside0.mk (blk_kept BK3.out hk2_ (fun h_ => by skip; have := HZ11.out; have := HZ19.out; have := HZ29.out; have := HZ48.out; have := HZ61.out; have := HZ64.out; have := HZ72.out; have := HZ82.out; have := HZ85.out; have := HZ92.out; have := GQ4.out; omega))
  clear hczb1_0 hfzb1_0; clear hczb1_1 hfzb1_1
  clear BK3
  have BK3 := hn_
  clear hn_
  have hn_ := Aside0.mk (blk_kept BK58.out hk2_ (fun h_ => by skip; have := HZ64.out; have := HZ72.out; have := HZ82.out; have := HZ85.out; have := HZ92.out; have := GQ59.out; omega))
  clear hczb56_0 hfzb56_0; clear hczb56_1 hfzb56_1; clear hczb56_2 hfzb56_2; clear hczb56_3 hfzb56_3; clear hczb56_4 hfzb56_4; clear hczb56_5 hfzb56_5
  clear BK58
  have BK58 := hn_
  clear hn_
  have hn_ := Aside0.mk (blk_kept BK79.out hk2_ (fun h_ => by skip; have := HZ85.out; have := HZ92.out; have := GQ80.out; omega))
  clear hczb77_0 hfzb77_0; clear hczb77_1 hfzb77_1
  clear BK79
  have BK79 := hn_
  clear hn_
  have hn_ := Aside0.mk (blk_kept BK121.out hk2_ (fun h_ => by skip; have := GQ122.out; omega))
  clear hczb119_0 hfzb119_0; clear hczb119_1 hfzb119_1; clear hczb119_2 hfzb119_2; clear hczb119_3 hfzb119_3; clear hczb119_4 hfzb119_4; clear hczb119_5 hfzb119_5
  clear BK121
  have BK121 := hn_
  clear hn_
  clear hk2_ hk_ hb0_ f0_
  obtain ⟨hczb1_0, hfzb1_0, hczb1_1, hfzb1_1⟩ := bk2 BK3.out
  obtain ⟨hczb56_0, hfzb56_0, hczb56_1, hfzb56_1, hczb56_2, hfzb56_2, hczb56_3, hfzb56_3, hczb56_4, hfzb56_4, hczb56_5, hfzb56_5⟩ := bk6 BK58.out
  obtain ⟨hczb77_0, hfzb77_0, hczb77_1, hfzb77_1⟩ := bk2 BK79.out
  obtain ⟨hczb119_0, hfzb119_0, hczb119_1, hfzb119_1, hczb119_2, hfzb119_2, hczb119_3, hfzb119_3, hczb119_4, hfzb119_4, hczb119_5, hfzb119_5⟩ := bk6 BK121.out
  have hl210 := (Kd.R_reads' F116.out).1
  have HL210 := Aside0.mk hl210
  clear hl210
  have hn1_ : decide (t205 < 0) = false := decide_eq_false (by have := H208.out; omega)
  have hd211 := hn1_
  clear hn1_
  go_wp2_with fail
  have hc_ := laws_heldCache.calls k t97 t98 _ _ t198 t100 t101 t102 1 t197 _ (Lk.Rr F113.out).2 (Lk.Rr F113.out).1 H213.out
  simp only [← HL202.out] at hc_
  refine hc_.mono ?_
  clear hc_
  rintro e_ w214 ⟨rfl, hb⟩
  have hq_ : Below w204.heap.size w204 w214 := ⟨hb.os, hb.tape, hb.output, hb.size, hb.block⟩
  have HZ215 := Aside0.mk (show w204.heap.size ≤ w214.heap.size from hq_.size)
  replace HB := Aside0.mk (below_then HB.out HB.out.size hq_)
  have HA216 := Aside0.mk (show w.heap.size ≤ w214.heap.size from HB.out.size)
  replace F21 := Aside0.mk (Kd.S_below F21.out hq_)
  replace F31 := Aside0.mk (Kd.R_below F31.out hq_)
  replace F50 := Aside0.mk (Kd.R_below F50.out hq_)
  replace F53 := Aside0.mk (Kd.R_below F53.out hq_)
  replace F74 := Aside0.mk (Kd.S_below F74.out hq_)
  replace F94 := Aside0.mk (Kd.R_below F94.out hq_)
  replace F113 := Aside0.mk (Kd.R_below F113.out hq_)
  replace F116 := Aside0.mk (Kd.R_below F116.out hq_)
  replace F150 := Aside0.mk (Kd.S_below F150.out hq_)
  replace F165 := Aside0.mk (Kd.R_below F165.out hq_)
  have hn_ := Aside0.mk (blk_below BK3.out hq_)
  clear hczb1_0 hfzb1_0; clear hczb1_1 hfzb1_1
  clear BK3
  have BK3 := hn_
  clear hn_
  have hn_ := Aside0.mk (blk_below BK58.out hq_)
  clear hczb56_0 hfzb56_0; clear hczb56_1 hfzb56_1; clear hczb56_2 hfzb56_2; clear hczb56_3 hfzb56_3; clear hczb56_4 hfzb56_4; clear hczb56_5 hfzb56_5
  clear BK58
  have BK58 := hn_
  clear hn_
  have hn_ := Aside0.mk (blk_below BK79.out hq_)
  clear hczb77_0 hfzb77_0; clear hczb77_1 hfzb77_1
  clear BK79
  have BK79 := hn_
  clear hn_
  have hn_ := Aside0.mk (blk_below BK121.out hq_)
  clear hczb119_0 hfzb119_0; clear hczb119_1 hfzb119_1; clear hczb119_2 hfzb119_2; clear hczb119_3 hfzb119_3; clear hczb119_4 hfzb119_4; clear hczb119_5 hfzb119_5
  clear BK121
  have BK121 := hn_
  clear hn_
  clear hq_
  obtain ⟨hczb1_0, hfzb1_0, hczb1_1, hfzb1_1⟩ := bk2 BK3.out
  obtain ⟨hczb56_0, hfzb56_0, hczb56_1, hfzb56_1, hczb56_2, hfzb56_2, hczb56_3, hfzb56_3, hczb56_4, hfzb56_4, hczb56_5, hfzb56_5⟩ := bk6 BK58.out
  obtain ⟨hczb77_0, hfzb77_0, hczb77_1, hfzb77_1⟩ := bk2 BK79.out
  obtain ⟨hczb119_0, hfzb119_0, hczb119_1, hfzb119_1, hczb119_2, hfzb119_2, hczb119_3, hfzb119_3, hczb119_4, hfzb119_4, hczb119_5, hfzb119_5⟩ := bk6 BK121.out
  clear hb
  go_wp2_with fail
  have hc_ := laws_heldIntS.calls k _ _ t206 t197 t205 _ (Lk.Rr F116.out).2 (Lk.Rr F116.out).1 H218.out
  simp only [← HL210.out] at hc_
  refine hc_.mono ?_
  clear hc_
  rintro e_ w219 ⟨rfl, ⟨nd_, hd_⟩⟩
  have hb : Below w214.heap.size w214 w219 := by rw [hd_]; exact pw_below_drewN (Below.refl _ _) nd_
  clear hd_
  have hq_ : Below w214.heap.size w214 w219 := ⟨hb.os, hb.tape, hb.output, hb.size, hb.block⟩
  have HZ220 := Aside0.mk (show w214.heap.size ≤ w219.heap.size from hq_.size)
  replace HB := Aside0.mk (below_then HB.out HB.out.size hq_)
  have HA221 := Aside0.mk (show w.heap.size ≤ w219.heap.size from HB.out.size)
  replace F21 := Aside0.mk (Kd.S_below F21.out hq_)
  replace F31 := Aside0.mk (Kd.R_below F31.out hq_)
  replace F50 := Aside0.mk (Kd.R_below F50.out hq_)
  replace F53 := Aside0.mk (Kd.R_below F53.out hq_)
  replace F74 := Aside0.mk (Kd.S_below F74.out hq_)
  replace F94 := Aside0.mk (Kd.R_below F94.out hq_)
  replace F113 := Aside0.mk (Kd.R_below F113.out hq_)
  replace F116 := Aside0.mk (Kd.R_below F116.out hq_)
  replace F150 := Aside0.mk (Kd.S_below F150.out hq_)
  replace F165 := Aside0.mk (Kd.R_below F165.out hq_)
  have hn_ := Aside0.mk (blk_below BK3.out hq_)
  clear hczb1_0 hfzb1_0; clear hczb1_1 hfzb1_1
  clear BK3
  have BK3 := hn_
  clear hn_
  have hn_ := Aside0.mk (blk_below BK58.out hq_)
  clear hczb56_0 hfzb56_0; clear hczb56_1 hfzb56_1; clear hczb56_2 hfzb56_2; clear hczb56_3 hfzb56_3; clear hczb56_4 hfzb56_4; clear hczb56_5 hfzb56_5
  clear BK58
  have BK58 := hn_
  clear hn_
  have hn_ := Aside0.mk (blk_below BK79.out hq_)
  clear hczb77_0 hfzb77_0; clear hczb77_1 hfzb77_1
  clear BK79
  have BK79 := hn_
  clear hn_
  have hn_ := Aside0.mk (blk_below BK121.out hq_)
  clear hczb119_0 hfzb119_0; clear hczb119_1 hfzb119_1; clear hczb119_2 hfzb119_2; clear hczb119_3 hfzb119_3; clear hczb119_4 hfzb119_4; clear hczb119_5 hfzb119_5
  clear BK121
  have BK121 := hn_
  clear hn_
  clear hq_
  obtain ⟨hczb1_0, hfzb1_0, hczb1_1, hfzb1_1⟩ := bk2 BK3.out
  obtain ⟨hczb56_0, hfzb56_0, hczb56_1, hfzb56_1, hczb56_2, hfzb56_2, hczb56_3, hfzb56_3, hczb56_4, hfzb56_4, hczb56_5, hfzb56_5⟩ := bk6 BK58.out
  obtain ⟨hczb77_0, hfzb77_0, hczb77_1, hfzb77_1⟩ := bk2 BK79.out
  obtain ⟨hczb119_0, hfzb119_0, hczb119_1, hfzb119_1, hczb119_2, hfzb119_2, hczb119_3, hfzb119_3, hczb119_4, hfzb119_4, hczb119_5, hfzb119_5⟩ := bk6 BK121.out
  clear hb
  go_wp2_with fail
  refine (laws_toWorld.calls k _ _ l0_0 a0_1 t222 t223 _ (Kd.C_below HR0_0.out HB.out) HC0_0.out H224.out).mono ?_
  rintro e_ w225 ⟨v226, rfl, f227, hb⟩
  have hq_ : Below w219.heap.size w219 w225 := ⟨hb.os, hb.tape, hb.output, hb.size, hb.block⟩
  have HZ228 := Aside0.mk (show w219.heap.size ≤ w225.heap.size from hq_.size)
  replace HB := Aside0.mk (below_then HB.out HB.out.size hq_)
  have HA229 := Aside0.mk (show w.heap.size ≤ w225.heap.size from HB.out.size)
  replace F21 := Aside0.mk (Kd.S_below F21.out hq_)
  replace F31 := Aside0.mk (Kd.R_below F31.out hq_)
  replace F50 := Aside0.mk (Kd.R_below F50.out hq_)
  replace F53 := Aside0.mk (Kd.R_below F53.out hq_)
  replace F74 := Aside0.mk (Kd.S_below F74.out hq_)
  replace F94 := Aside0.mk (Kd.R_below F94.out hq_)
  replace F113 := Aside0.mk (Kd.R_below F113.out hq_)
  replace F116 := Aside0.mk (Kd.R_below F116.out hq_)
  replace F150 := Aside0.mk (Kd.S_below F150.out hq_)
  replace F165 := Aside0.mk (Kd.R_below F165.out hq_)
  have hn_ := Aside0.mk (blk_below BK3.out hq_)
  clear hczb1_0 hfzb1_0; clear hczb1_1 hfzb1_1
  clear BK3
  have BK3 := hn_
  clear hn_
  have hn_ := Aside0.mk (blk_below BK58.out hq_)
  clear hczb56_0 hfzb56_0; clear hczb56_1 hfzb56_1; clear hczb56_2 hfzb56_2; clear hczb56_3 hfzb56_3; clear hczb56_4 hfzb56_4; clear hczb56_5 hfzb56_5
  clear BK58
  have BK58 := hn_
  clear hn_
  have hn_ := Aside0.mk (blk_below BK79.out hq_)
  clear hczb77_0 hfzb77_0; clear hczb77_1 hfzb77_1
  clear BK79
  have BK79 := hn_
  clear hn_
  have hn_ := Aside0.mk (blk_below BK121.out hq_)
  clear hczb119_0 hfzb119_0; clear hczb119_1 hfzb119_1; clear hczb119_2 hfzb119_2; clear hczb119_3 hfzb119_3; clear hczb119_4 hfzb119_4; clear hczb119_5 hfzb119_5
  clear BK121
  have BK121 := hn_
  clear hn_
  clear hq_
  obtain ⟨hczb1_0, hfzb1_0, hczb1_1, hfzb1_1⟩ := bk2 BK3.out
  obtain ⟨hczb56_0, hfzb56_0, hczb56_1, hfzb56_1, hczb56_2, hfzb56_2, hczb56_3, hfzb56_3, hczb56_4, hfzb56_4, hczb56_5, hfzb56_5⟩ := bk6 BK58.out
  obtain ⟨hczb77_0, hfzb77_0, hczb77_1, hfzb77_1⟩ := bk2 BK79.out
  obtain ⟨hczb119_0, hfzb119_0, hczb119_1, hfzb119_1, hczb119_2, hfzb119_2, hczb119_3, hfzb119_3, hczb119_4, hfzb119_4, hczb119_5, hfzb119_5⟩ := bk6 BK121.out
  clear hb
  have F230 := Aside0.mk (Lk.newS (b := w219.heap.size) (base := w.heap.size) (Sep := fun k_ => True) f227 (HA221.out) (fun k_ hk_ => hk_))
  clear f227
  obtain ⟨A231, c232, e_⟩ := Kd.S_slice F230.out
  subst e_
  go_wp2_with fail
  refine (laws_toIntS.calls k _ _ l2 t233 _ (Kd.C_below HR2.out HB.out) HC2.out H234.out).mono ?_
  rintro e_ w235 ⟨v236, rfl, f237, hb⟩
  have hq_ : Below w225.heap.size w225 w235 := ⟨hb.os, hb.tape, hb.output, hb.size, hb.block⟩
  have HZ238 := Aside0.mk (show w225.heap.size ≤ w235.heap.size from hq_.size)
  replace HB := Aside0.mk (below_then HB.out HB.out.size hq_)
  have HA239 := Aside0.mk (show w.heap.size ≤ w235.heap.size from HB.out.size)
  replace F21 := Aside0.mk (Kd.S_below F21.out hq_)
  replace F31 := Aside0.mk (Kd.R_below F31.out hq_)
  replace F50 := Aside0.mk (Kd.R_below F50.out hq_)
  replace F53 := Aside0.mk (Kd.R_below F53.out hq_)
  replace F74 := Aside0.mk (Kd.S_below F74.out hq_)
  replace F94 := Aside0.mk (Kd.R_below F94.out hq_)
  replace F113 := Aside0.mk (Kd.R_below F113.out hq_)
  replace F116 := Aside0.mk (Kd.R_below F116.out hq_)
  replace F150 := Aside0.mk (Kd.S_below F150.out hq_)
  replace F165 := Aside0.mk (Kd.R_below F165.out hq_)
  replace F230 := Aside0.mk (Kd.S_below F230.out hq_)
  have hn_ := Aside0.mk (blk_below BK3.out hq_)
  clear hczb1_0 hfzb1_0; clear hczb1_1 hfzb1_1
  clear BK3
  have BK3 := hn_
  clear hn_
  have hn_ := Aside0.mk (blk_below BK58.out hq_)
  clear hczb56_0 hfzb56_0; clear hczb56_1 hfzb56_1; clear hczb56_2 hfzb56_2; clear hczb56_3 hfzb56_3; clear hczb56_4 hfzb56_4; clear hczb56_5 hfzb56_5
  clear BK58
  have BK58 := hn_
  clear hn_
  have hn_ := Aside0.mk (blk_below BK79.out hq_)
  clear hczb77_0 hfzb77_0; clear hczb77_1 hfzb77_1
  clear BK79
  have BK79 := hn_
  clear hn_
  have hn_ := Aside0.mk (blk_below BK121.out hq_)
  clear hczb119_0 hfzb119_0; clear hczb119_1 hfzb119_1; clear hczb119_2 hfzb119_2; clear hczb119_3 hfzb119_3; clear hczb119_4 hfzb119_4; clear hczb119_5 hfzb119_5
  clear BK121
  have BK121 := hn_
  clear hn_
  clear hq_
  obtain ⟨hczb1_0, hfzb1_0, hczb1_1, hfzb1_1⟩ := bk2 BK3.out
  obtain ⟨hczb56_0, hfzb56_0, hczb56_1, hfzb56_1, hczb56_2, hfzb56_2, hczb56_3, hfzb56_3, hczb56_4, hfzb56_4, hczb56_5, hfzb56_5⟩ := bk6 BK58.out
  obtain ⟨hczb77_0, hfzb77_0, hczb77_1, hfzb77_1⟩ := bk2 BK79.out
  obtain ⟨hczb119_0, hfzb119_0, hczb119_1, hfzb119_1, hczb119_2, hfzb119_2, hczb119_3, hfzb119_3, hczb119_4, hfzb119_4, hczb119_5, hfzb119_5⟩ := bk6 BK121.out
  clear hb
  have F240 := Aside0.mk (Lk.newR (b := w225.heap.size) (base := w.heap.size) (Sep := fun k_ => True) rfl f237 (HA229.out) (fun k_ hk_ => hk_))
  clear f237
  obtain ⟨A241, c242, e_⟩ := Kd.R_slice F240.out
  subst e_
  go_wp2_with fail
  refine (impl_PlayCalls.calls k _ _ t222 t223 a1 _ _ t233 t243 t244 t245 t246 t247 t248 t249 t41 _ (Lk.Sr F230.out).2 (Lk.Sr F230.out).1 (Lk.Rr F240.out).2 (Lk.Rr F240.out).1 H251.out).mono ?_
  rintro e_ w252 ⟨v253, v254, rfl, f255, f256, hb⟩
  have hq_ : Below w235.heap.size w235 w252 := ⟨hb.os, hb.tape, hb.output, hb.size, hb.block⟩
  have HZ257 := Aside0.mk (show w235.heap.size ≤ w252.heap.size from hq_.size)
  replace HB := Aside0.mk (below_then HB.out HB.out.size hq_)
  have HA258 := Aside0.mk (show w.heap.size ≤ w252.heap.size from HB.out.size)
  replace F21 := Aside0.mk (Kd.S_below F21.out hq_)
  replace F31 := Aside0.mk (Kd.R_below F31.out hq_)
  replace F50 := Aside0.mk (Kd.R_below F50.out hq_)
  replace F53 := Aside0.mk (Kd.R_below F53.out hq_)
  replace F74 := Aside0.mk (Kd.S_below F74.out hq_)
  replace F94 := Aside0.mk (Kd.R_below F94.out hq_)
  replace F113 := Aside0.mk (Kd.R_below F113.out hq_)
  replace F116 := Aside0.mk (Kd.R_below F116.out hq_)
  replace F150 := Aside0.mk (Kd.S_below F150.out hq_)
  replace F165 := Aside0.mk (Kd.R_below F165.out hq_)
  replace F230 := Aside0.mk (Kd.S_below F230.out hq_)
  replace F240 := Aside0.mk (Kd.R_below F240.out hq_)
  have hn_ := Aside0.mk (blk_below BK3.out hq_)
  clear hczb1_0 hfzb1_0; clear hczb1_1 hfzb1_1
  clear BK3
  have BK3 := hn_
  clear hn_
  have hn_ := Aside0.mk (blk_below BK58.out hq_)
  clear hczb56_0 hfzb56_0; clear hczb56_1 hfzb56_1; clear hczb56_2 hfzb56_2; clear hczb56_3 hfzb56_3; clear hczb56_4 hfzb56_4; clear hczb56_5 hfzb56_5
  clear BK58
  have BK58 := hn_
  clear hn_
  have hn_ := Aside0.mk (blk_below BK79.out hq_)
  clear hczb77_0 hfzb77_0; clear hczb77_1 hfzb77_1
  clear BK79
  have BK79 := hn_
  clear hn_
  have hn_ := Aside0.mk (blk_below BK121.out hq_)
  clear hczb119_0 hfzb119_0; clear hczb119_1 hfzb119_1; clear hczb119_2 hfzb119_2; clear hczb119_3 hfzb119_3; clear hczb119_4 hfzb119_4; clear hczb119_5 hfzb119_5
  clear BK121
  have BK121 := hn_
  clear hn_
  clear hq_
  obtain ⟨hczb1_0, hfzb1_0, hczb1_1, hfzb1_1⟩ := bk2 BK3.out
  obtain ⟨hczb56_0, hfzb56_0, hczb56_1, hfzb56_1, hczb56_2, hfzb56_2, hczb56_3, hfzb56_3, hczb56_4, hfzb56_4, hczb56_5, hfzb56_5⟩ := bk6 BK58.out
  obtain ⟨hczb77_0, hfzb77_0, hczb77_1, hfzb77_1⟩ := bk2 BK79.out
  obtain ⟨hczb119_0, hfzb119_0, hczb119_1, hfzb119_1, hczb119_2, hfzb119_2, hczb119_3, hfzb119_3, hczb119_4, hfzb119_4, hczb119_5, hfzb119_5⟩ := bk6 BK121.out
  clear hb
  have F259 := Aside0.mk (Lk.newR (b := w235.heap.size) (base := w.heap.size) (Sep := fun k_ => True) rfl f255 (HA239.out) (fun k_ hk_ => hk_))
  clear f255
  have F262 := Aside0.mk (Lk.newR (b := w235.heap.size) (base := w.heap.size) (Sep := fun k_ => True) rfl f256 (HA239.out) (fun k_ hk_ => hk_))
  clear f256
  obtain ⟨A260, c261, e_⟩ := Kd.R_slice F259.out
  subst e_
  obtain ⟨A263, c264, e_⟩ := Kd.R_slice F262.out
  subst e_
  go_wp2_with (first | ((with_reducible refine gate_dst (N := 19) rfl ?_); refine bxe 19 #[.int .i64 0, .int .i64 0, .slice none 0 0, .int .i64 0, .int .i64 0, .int .i64 0] 44 ?_; intro gb266 hg_ w269 hx_ hb; have hg2_ : gb266 = w252.heap.size := hg_; have hq_ : Below w252.heap.size w252 w269 := ⟨hb.os, hb.tape, hb.output, hb.size, hb.block⟩; have HZ270 := Aside0.mk (show w252.heap.size ≤ w269.heap.size from hq_.size); replace HB := Aside0.mk (below_then HB.out HB.out.size hq_); have HA271 := Aside0.mk (show w.heap.size ≤ w269.heap.size from HB.out.size); replace F21 := Aside0.mk (Kd.S_below F21.out hq_); replace F31 := Aside0.mk (Kd.R_below F31.out hq_); replace F50 := Aside0.mk (Kd.R_below F50.out hq_); replace F53 := Aside0.mk (Kd.R_below F53.out hq_); replace F74 := Aside0.mk (Kd.S_below F74.out hq_); replace F94 := Aside0.mk (Kd.R_below F94.out hq_); replace F113 := Aside0.mk (Kd.R_below F113.out hq_); replace F116 := Aside0.mk (Kd.R_below F116.out hq_); replace F150 := Aside0.mk (Kd.S_below F150.out hq_); replace F165 := Aside0.mk (Kd.R_below F165.out hq_); replace F230 := Aside0.mk (Kd.S_below F230.out hq_); replace F240 := Aside0.mk (Kd.R_below F240.out hq_); replace F259 := Aside0.mk (Kd.R_below F259.out hq_); replace F262 := Aside0.mk (Kd.R_below F262.out hq_); have hn_ := Aside0.mk (blk_below BK3.out hq_); clear hczb1_0 hfzb1_0; clear hczb1_1 hfzb1_1; clear BK3; have BK3 := hn_; clear hn_; have hn_ := Aside0.mk (blk_below BK58.out hq_); clear hczb56_0 hfzb56_0; clear hczb56_1 hfzb56_1; clear hczb56_2 hfzb56_2; clear hczb56_3 hfzb56_3; clear hczb56_4 hfzb56_4; clear hczb56_5 hfzb56_5; clear BK58; have BK58 := hn_; clear hn_; have hn_ := Aside0.mk (blk_below BK79.out hq_); clear hczb77_0 hfzb77_0; clear hczb77_1 hfzb77_1; clear BK79; have BK79 := hn_; clear hn_; have hn_ := Aside0.mk (blk_below BK121.out hq_); clear hczb119_0 hfzb119_0; clear hczb119_1 hfzb119_1; clear hczb119_2 hfzb119_2; clear hczb119_3 hfzb119_3; clear hczb119_4 hfzb119_4; clear hczb119_5 hfzb119_5; clear BK121; have BK121 := hn_; clear hn_; clear hq_; obtain ⟨hczb1_0, hfzb1_0, hczb1_1, hfzb1_1⟩ := bk2 BK3.out; obtain ⟨hczb56_0, hfzb56_0, hczb56_1, hfzb56_1, hczb56_2, hfzb56_2, hczb56_3, hfzb56_3, hczb56_4, hfzb56_4, hczb56_5, hfzb56_5⟩ := bk6 BK58.out; obtain ⟨hczb77_0, hfzb77_0, hczb77_1, hfzb77_1⟩ := bk2 BK79.out; obtain ⟨hczb119_0, hfzb119_0, hczb119_1, hfzb119_1, hczb119_2, hfzb119_2, hczb119_3, hfzb119_3, hczb119_4, hfzb119_4, hczb119_5, hfzb119_5⟩ := bk6 BK121.out; have BK267 := Aside0.mk hx_; have GQ268 := Aside0.mk (show w252.heap.size ≤ gb266 ∧ gb266 < w269.heap.size from ⟨Nat.le_of_eq hg2_.symm, blk_lt hx_⟩); clear hb hg_ hg2_ hx_; obtain ⟨hczb265_0, hfzb265_0, hczb265_1, hfzb265_1, hczb265_2, hfzb265_2, hczb265_3, hfzb265_3, hczb265_4, hfzb265_4, hczb265_5, hfzb265_5⟩ := bk6 BK267.out) | ((with_reducible refine gate_store (t := 44) (p := 19) rfl ?_); refine store_event (t := 44) (p := 19) (v := ?vo_w272) (w1 := ((((((w269.setCell ⟨gb266, 0, none⟩ (.int .i64 t243)).setCell ⟨gb266, 1, none⟩ (.int .i64 t244)).setCell ⟨gb266, 2, none⟩ (.slice A260 t245.length c261)).setCell ⟨gb266, 3, none⟩ (.int .i64 t246)).setCell ⟨gb266, 4, none⟩ (.int .i64 t247)).setCell ⟨gb266, 5, none⟩ (.int .i64 t248))) ?hg ?ho ?hn ?hr ?_; (case ho => rfl); (case hg => rfl); (case hn => rfl); (case hr => first | (go_simp; done) | (go_simp; rfl)); intro w272 hw_; have hx_ : w272.heap[gb266]? = some (.cells #[(.int .i64 t243), (.int .i64 t244), (.slice A260 t245.length c261), (.int .i64 t246), (.int .i64 t247), (.int .i64 t248)] 44 (0, 0)) := (by rw [hw_]; exact Lk.filled (us := [(.int .i64 t243), (.int .i64 t244), (.slice A260 t245.length c261), (.int .i64 t246), (.int .i64 t247), (.int .i64 t248)]) BK267.out rfl); have hk2_ : Kept w269 w272 (fun k_ => k_ = gb266) := (by rw [hw_]; exact Lk.fill_kept [(.int .i64 t243), (.int .i64 t244), (.slice A260 t245.length c261), (.int .i64 t246), (.int .i64 t247), (.int .i64 t248)] 0 w269); replace HB := Aside0.mk (show Below w.heap.size w w272 by rw [hw_]; exact Lk.fill_below [(.int .i64 t243), (.int .i64 t244), (.slice A260 t245.length c261), (.int .i64 t246), (.int .i64 t247), (.int .i64 t248)] 0 w w269 HB.out (by skip; have := HA258.out; have := GQ268.out; omega)); have HZ273 := Aside0.mk (show w269.heap.size ≤ w272.heap.size from hk2_.1); have HA274 := Aside0.mk (show w.heap.size ≤ w272.heap.size from HB.out.size); have hn_ := Aside0.mk (Kd.S_kept F21.out hk2_ (fun k_ h1_ h2_ => by skip; have := HZ29.out; have := HZ48.out; have := HZ61.out; have := HZ64.out; have := HZ72.out; have := HZ82.out; have := HZ85.out; have := HZ92.out; have := HZ111.out; have := HZ124.out; have := HZ127.out; have := HZ132.out; have := HZ137.out; have := HZ140.out; have := HZ148.out; have := HZ156.out; have := HZ163.out; have := HZ171.out; have := HZ175.out; have := HZ183.out; have := HZ189.out; have := HZ194.out; have := HZ201.out; have := HZ209.out; have := HZ215.out; have := HZ220.out; have := HZ228.out; have := HZ238.out; have := HZ257.out; have := GQ268.out; have h3_ := h1_.1; omega)); clear F21; have F21 := hn_; clear hn_; have hn_ := Aside0.mk (Kd.R_kept F31.out hk2_ (fun k_ h1_ h2_ => by skip; have := HZ48.out; have := HZ61.out; have := HZ64.out; have := HZ72.out; have := HZ82.out; have := HZ85.out; have := HZ92.out; have := HZ111.out; have := HZ124.out; have := HZ127.out; have := HZ132.out; have := HZ137.out; have := HZ140.out; have := HZ148.out; have := HZ156.out; have := HZ163.out; have := HZ171.out; have := HZ175.out; have := HZ183.out; have := HZ189.out; have := HZ194.out; have := HZ201.out; have := HZ209.out; have := HZ215.out; have := HZ220.out; have := HZ228.out; have := HZ238.out; have := HZ257.out; have := GQ268.out; have h3_ := h1_.1; omega)); clear F31; have F31 := hn_; clear hn_; have hn_ := Aside0.mk (Kd.R_kept F50.out hk2_ (fun k_ h1_ h2_ => by skip; have := HZ61.out; have := HZ64.out; have := HZ72.out; have := HZ82.out; have := HZ85.out; have := HZ92.out; have := HZ111.out; have := HZ124.out; have := HZ127.out; have := HZ132.out; have := HZ137.out; have := HZ140.out; have := HZ148.out; have := HZ156.out; have := HZ163.out; have := HZ171.out; have := HZ175.out; have := HZ183.out; have := HZ189.out; have := HZ194.out; have := HZ201.out; have := HZ209.out; have := HZ215.out; have := HZ220.out; have := HZ228.out; have := HZ238.out; have := HZ257.out; have := GQ268.out; have h3_ := h1_.1; omega)); clear F50; have F50 := hn_; clear hn_; have hn_ := Aside0.mk (Kd.R_kept F53.out hk2_ (fun k_ h1_ h2_ => by skip; have := HZ61.out; have := HZ64.out; have := HZ72.out; have := HZ82.out; have := HZ85.out; have := HZ92.out; have := HZ111.out; have := HZ124.out; have := HZ127.out; have := HZ132.out; have := HZ137.out; have := HZ140.out; have := HZ148.out; have := HZ156.out; have := HZ163.out; have := HZ171.out; have := HZ175.out; have := HZ183.out; have := HZ189.out; have := HZ194.out; have := HZ201.out; have := HZ209.out; have := HZ215.out; have := HZ220.out; have := HZ228.out; have := HZ238.out; have := HZ257.out; have := GQ268.out; have h3_ := h1_.1; omega)); clear F53; have F53 := hn_; clear hn_; have hn_ := Aside0.mk (Kd.S_kept F74.out hk2_ (fun k_ h1_ h2_ => by skip; have := HZ82.out; have := HZ85.out; have := HZ92.out; have := HZ111.out; have := HZ124.out; have := HZ127.out; have := HZ132.out; have := HZ137.out; have := HZ140.out; have := HZ148.out; have := HZ156.out; have := HZ163.out; have := HZ171.out; have := HZ175.out; have := HZ183.out; have := HZ189.out; have := HZ194.out; have := HZ201.out; have := HZ209.out; have := HZ215.out; have := HZ220.out; have := HZ228.out; have := HZ238.out; have := HZ257.out; have := GQ268.out; have h3_ := h1_.1; omega)); clear F74; have F74 := hn_; clear hn_; have hn_ := Aside0.mk (Kd.R_kept F94.out hk2_ (fun k_ h1_ h2_ => by skip; have := HZ111.out; have := HZ124.out; have := HZ127.out; have := HZ132.out; have := HZ137.out; have := HZ140.out; have := HZ148.out; have := HZ156.out; have := HZ163.out; have := HZ171.out; have := HZ175.out; have := HZ183.out; have := HZ189.out; have := HZ194.out; have := HZ201.out; have := HZ209.out; have := HZ215.out; have := HZ220.out; have := HZ228.out; have := HZ238.out; have := HZ257.out; have := GQ268.out; have h3_ := h1_.1; omega)); clear F94; have F94 := hn_; clear hn_; have hn_ := Aside0.mk (Kd.R_kept F113.out hk2_ (fun k_ h1_ h2_ => by skip; have := HZ124.out; have := HZ127.out; have := HZ132.out; have := HZ137.out; have := HZ140.out; have := HZ148.out; have := HZ156.out; have := HZ163.out; have := HZ171.out; have := HZ175.out; have := HZ183.out; have := HZ189.out; have := HZ194.out; have := HZ201.out; have := HZ209.out; have := HZ215.out; have := HZ220.out; have := HZ228.out; have := HZ238.out; have := HZ257.out; have := GQ268.out; have h3_ := h1_.1; omega)); clear F113; have F113 := hn_; clear hn_; have hn_ := Aside0.mk (Kd.R_kept F116.out hk2_ (fun k_ h1_ h2_ => by skip; have := HZ124.out; have := HZ127.out; have := HZ132.out; have := HZ137.out; have := HZ140.out; have := HZ148.out; have := HZ156.out; have := HZ163.out; have := HZ171.out; have := HZ175.out; have := HZ183.out; have := HZ189.out; have := HZ194.out; have := HZ201.out; have := HZ209.out; have := HZ215.out; have := HZ220.out; have := HZ228.out; have := HZ238.out; have := HZ257.out; have := GQ268.out; have h3_ := h1_.1; omega)); clear F116; have F116 := hn_; clear hn_; have hn_ := Aside0.mk (Kd.S_kept F150.out hk2_ (fun k_ h1_ h2_ => by skip; have := HZ156.out; have := HZ163.out; have := HZ171.out; have := HZ175.out; have := HZ183.out; have := HZ189.out; have := HZ194.out; have := HZ201.out; have := HZ209.out; have := HZ215.out; have := HZ220.out; have := HZ228.out; have := HZ238.out; have := HZ257.out; have := GQ268.out; have h3_ := h1_.1; omega)); clear F150; have F150 := hn_; clear hn_; have hn_ := Aside0.mk (Kd.R_kept F165.out hk2_ (fun k_ h1_ h2_ => by skip; have := HZ171.out; have := HZ175.out; have := HZ183.out; have := HZ189.out; have := HZ194.out; have := HZ201.out; have := HZ209.out; have := HZ215.out; have := HZ220.out; have := HZ228.out; have := HZ238.out; have := HZ257.out; have := GQ268.out; have h3_ := h1_.1; omega)); clear F165; have F165 := hn_; clear hn_; have hn_ := Aside0.mk (Kd.S_kept F230.out hk2_ (fun k_ h1_ h2_ => by skip; have := HZ238.out; have := HZ257.out; have := GQ268.out; have h3_ := h1_.1; omega)); clear F230; have F230 := hn_; clear hn_; have hn_ := Aside0.mk (Kd.R_kept F240.out hk2_ (fun k_ h1_ h2_ => by skip; have := HZ257.out; have := GQ268.out; have h3_ := h1_.1; omega)); clear F240; have F240 := hn_; clear hn_; have hn_ := Aside0.mk (Kd.R_kept F259.out hk2_ (fun k_ h1_ h2_ => by skip; have := GQ268.out; have h3_ := h1_.1; omega)); clear F259; have F259 := hn_; clear hn_; have hn_ := Aside0.mk (Kd.R_kept F262.out hk2_ (fun k_ h1_ h2_ => by skip; have := GQ268.out; have h3_ := h1_.1; omega)); clear F262; have F262 := hn_; clear hn_; clear hczb1_0 hfzb1_0; clear hczb1_1 hfzb1_1; have hn_ := Aside0.mk (blk_kept BK3.out hk2_ (fun h_ => by skip; have := HZ11.out; have := HZ19.out; have := HZ29.out; have := HZ48.out; have := HZ61.out; have := HZ64.out; have := HZ72.out; have := HZ82.out; have := HZ85.out; have := HZ92.out; have := HZ111.out; have := HZ124.out; have := HZ127.out; have := HZ132.out; have := HZ137.out; have := HZ140.out; have := HZ148.out; have := HZ156.out; have := HZ163.out; have := HZ171.out; have := HZ175.out; have := HZ183.out; have := HZ189.out; have := HZ194.out; have := HZ201.out; have := HZ209.out; have := HZ215.out; have := HZ220.out; have := HZ228.out; have := HZ238.out; have := HZ257.out; have := GQ268.out; have := GQ4.out; omega)); clear BK3; have BK3 := hn_; clear hn_; clear hczb56_0 hfzb56_0; clear hczb56_1 hfzb56_1; clear hczb56_2 hfzb56_2; clear hczb56_3 hfzb56_3; clear hczb56_4 hfzb56_4; clear hczb56_5 hfzb56_5; have hn_ := Aside0.mk (blk_kept BK58.out hk2_ (fun h_ => by skip; have := HZ64.out; have := HZ72.out; have := HZ82.out; have := HZ85.out; have := HZ92.out; have := HZ111.out; have := HZ124.out; have := HZ127.out; have := HZ132.out; have := HZ137.out; have := HZ140.out; have := HZ148.out; have := HZ156.out; have := HZ163.out; have := HZ171.out; have := HZ175.out; have := HZ183.out; have := HZ189.out; have := HZ194.out; have := HZ201.out; have := HZ209.out; have := HZ215.out; have := HZ220.out; have := HZ228.out; have := HZ238.out; have := HZ257.out; have := GQ268.out; have := GQ59.out; omega)); clear BK58; have BK58 := hn_; clear hn_; clear hczb77_0 hfzb77_0; clear hczb77_1 hfzb77_1; have hn_ := Aside0.mk (blk_kept BK79.out hk2_ (fun h_ => by skip; have := HZ85.out; have := HZ92.out; have := HZ111.out; have := HZ124.out; have := HZ127.out; have := HZ132.out; have := HZ137.out; have := HZ140.out; have := HZ148.out; have := HZ156.out; have := HZ163.out; have := HZ171.out; have := HZ175.out; have := HZ183.out; have := HZ189.out; have := HZ194.out; have := HZ201.out; have := HZ209.out; have := HZ215.out; have := HZ220.out; have := HZ228.out; have := HZ238.out; have := HZ257.out; have := GQ268.out; have := GQ80.out; omega)); clear BK79; have BK79 := hn_; clear hn_; clear hczb119_0 hfzb119_0; clear hczb119_1 hfzb119_1; clear hczb119_2 hfzb119_2; clear hczb119_3 hfzb119_3; clear hczb119_4 hfzb119_4; clear hczb119_5 hfzb119_5; have hn_ := Aside0.mk (blk_kept BK121.out hk2_ (fun h_ => by skip; have := HZ127.out; have := HZ132.out; have := HZ137.out; have := HZ140.out; have := HZ148.out; have := HZ156.out; have := HZ163.out; have := HZ171.out; have := HZ175.out; have := HZ183.out; have := HZ189.out; have := HZ194.out; have := HZ201.out; have := HZ209.out; have := HZ215.out; have := HZ220.out; have := HZ228.out; have := HZ238.out; have := HZ257.out; have := GQ268.out; have := GQ122.out; omega)); clear BK121; have BK121 := hn_; clear hn_; clear hczb265_0 hfzb265_0; clear hczb265_1 hfzb265_1; clear hczb265_2 hfzb265_2; clear hczb265_3 hfzb265_3; clear hczb265_4 hfzb265_4; clear hczb265_5 hfzb265_5; clear BK267; have BK267 := Aside0.mk hx_; clear hk2_ hx_ hw_; obtain ⟨hczb1_0, hfzb1_0, hczb1_1, hfzb1_1⟩ := bk2 BK3.out; obtain ⟨hczb56_0, hfzb56_0, hczb56_1, hfzb56_1, hczb56_2, hfzb56_2, hczb56_3, hfzb56_3, hczb56_4, hfzb56_4, hczb56_5, hfzb56_5⟩ := bk6 BK58.out; obtain ⟨hczb77_0, hfzb77_0, hczb77_1, hfzb77_1⟩ := bk2 BK79.out; obtain ⟨hczb119_0, hfzb119_0, hczb119_1, hfzb119_1, hczb119_2, hfzb119_2, hczb119_3, hfzb119_3, hczb119_4, hfzb119_4, hczb119_5, hfzb119_5⟩ := bk6 BK121.out; obtain ⟨hczb265_0, hfzb265_0, hczb265_1, hfzb265_1, hczb265_2, hfzb265_2, hczb265_3, hfzb265_3, hczb265_4, hfzb265_4, hczb265_5, hfzb265_5⟩ := bk6 BK267.out))
  refine (laws_eqCache.calls k t243 t244 _ _ t245 t246 t247 t248 t34 t35 _ _ t36 t37 t38 t39 true _ (Lk.Rr F259.out).2 (Lk.Rr F259.out).1 (Lk.Rr F50.out).2 (Lk.Rr F50.out).1 H276.out).mono ?_
  rintro e_ w277 ⟨rfl, hb⟩
  have hq_ : Below w272.heap.size w272 w277 := ⟨hb.os, hb.tape, hb.output, hb.size, hb.block⟩
  have HZ278 := Aside0.mk (show w272.heap.size ≤ w277.heap.size from hq_.size)
  replace HB := Aside0.mk (below_then HB.out HB.out.size hq_)
  have HA279 := Aside0.mk (show w.heap.size ≤ w277.heap.size from HB.out.size)
  replace F21 := Aside0.mk (Kd.S_below F21.out hq_)
  replace F31 := Aside0.mk (Kd.R_below F31.out hq_)
  replace F50 := Aside0.mk (Kd.R_below F50.out hq_)
  replace F53 := Aside0.mk (Kd.R_below F53.out hq_)
  replace F74 := Aside0.mk (Kd.S_below F74.out hq_)
  replace F94 := Aside0.mk (Kd.R_below F94.out hq_)
  replace F113 := Aside0.mk (Kd.R_below F113.out hq_)
  replace F116 := Aside0.mk (Kd.R_below F116.out hq_)
  replace F150 := Aside0.mk (Kd.S_below F150.out hq_)
  replace F165 := Aside0.mk (Kd.R_below F165.out hq_)
  replace F230 := Aside0.mk (Kd.S_below F230.out hq_)
  replace F240 := Aside0.mk (Kd.R_below F240.out hq_)
  replace F259 := Aside0.mk (Kd.R_below F259.out hq_)
  replace F262 := Aside0.mk (Kd.R_below F262.out hq_)
  have hn_ := Aside0.mk (blk_below BK3.out hq_)
  clear hczb1_0 hfzb1_0; clear hczb1_1 hfzb1_1
  clear BK3
  have BK3 := hn_
  clear hn_
  have hn_ := Aside0.mk (blk_below BK58.out hq_)
  clear hczb56_0 hfzb56_0; clear hczb56_1 hfzb56_1; clear hczb56_2 hfzb56_2; clear hczb56_3 hfzb56_3; clear hczb56_4 hfzb56_4; clear hczb56_5 hfzb56_5
  clear BK58
  have BK58 := hn_
  clear hn_
  have hn_ := Aside0.mk (blk_below BK79.out hq_)
  clear hczb77_0 hfzb77_0; clear hczb77_1 hfzb77_1
  clear BK79
  have BK79 := hn_
  clear hn_
  have hn_ := Aside0.mk (blk_below BK121.out hq_)
  clear hczb119_0 hfzb119_0; clear hczb119_1 hfzb119_1; clear hczb119_2 hfzb119_2; clear hczb119_3 hfzb119_3; clear hczb119_4 hfzb119_4; clear hczb119_5 hfzb119_5
  clear BK121
  have BK121 := hn_
  clear hn_
  have hn_ := Aside0.mk (blk_below BK267.out hq_)
  clear hczb265_0 hfzb265_0; clear hczb265_1 hfzb265_1; clear hczb265_2 hfzb265_2; clear hczb265_3 hfzb265_3; clear hczb265_4 hfzb265_4; clear hczb265_5 hfzb265_5
  clear BK267
  have BK267 := hn_
  clear hn_
  clear hq_
  obtain ⟨hczb1_0, hfzb1_0, hczb1_1, hfzb1_1⟩ := bk2 BK3.out
  obtain ⟨hczb56_0, hfzb56_0, hczb56_1, hfzb56_1, hczb56_2, hfzb56_2, hczb56_3, hfzb56_3, hczb56_4, hfzb56_4, hczb56_5, hfzb56_5⟩ := bk6 BK58.out
  obtain ⟨hczb77_0, hfzb77_0, hczb77_1, hfzb77_1⟩ := bk2 BK79.out
  obtain ⟨hczb119_0, hfzb119_0, hczb119_1, hfzb119_1, hczb119_2, hfzb119_2, hczb119_3, hfzb119_3, hczb119_4, hfzb119_4, hczb119_5, hfzb119_5⟩ := bk6 BK121.out
  obtain ⟨hczb265_0, hfzb265_0, hczb265_1, hfzb265_1, hczb265_2, hfzb265_2, hczb265_3, hfzb265_3, hczb265_4, hfzb265_4, hczb265_5, hfzb265_5⟩ := bk6 BK267.out
  clear hb
  go_wp2_with fail
  refine (laws_eqIntS.calls k _ _ t249 _ _ t40 true _ (Lk.Rr F262.out).2 (Lk.Rr F262.out).1 (Lk.Rr F53.out).2 (Lk.Rr F53.out).1 H281.out).mono ?_
  rintro e_ w282 ⟨rfl, ⟨nd_, hd_⟩⟩
  have hb : Below w277.heap.size w277 w282 := by rw [hd_]; exact pw_below_drewN (Below.refl _ _) nd_
  clear hd_
  have hq_ : Below w277.heap.size w277 w282 := ⟨hb.os, hb.tape, hb.output, hb.size, hb.block⟩
  have HZ283 := Aside0.mk (show w277.heap.size ≤ w282.heap.size from hq_.size)
  replace HB := Aside0.mk (below_then HB.out HB.out.size hq_)
  have HA284 := Aside0.mk (show w.heap.size ≤ w282.heap.size from HB.out.size)
  replace F21 := Aside0.mk (Kd.S_below F21.out hq_)
  replace F31 := Aside0.mk (Kd.R_below F31.out hq_)
  replace F50 := Aside0.mk (Kd.R_below F50.out hq_)
  replace F53 := Aside0.mk (Kd.R_below F53.out hq_)
  replace F74 := Aside0.mk (Kd.S_below F74.out hq_)
  replace F94 := Aside0.mk (Kd.R_below F94.out hq_)
  replace F113 := Aside0.mk (Kd.R_below F113.out hq_)
  replace F116 := Aside0.mk (Kd.R_below F116.out hq_)
  replace F150 := Aside0.mk (Kd.S_below F150.out hq_)
  replace F165 := Aside0.mk (Kd.R_below F165.out hq_)
  replace F230 := Aside0.mk (Kd.S_below F230.out hq_)
  replace F240 := Aside0.mk (Kd.R_below F240.out hq_)
  replace F259 := Aside0.mk (Kd.R_below F259.out hq_)
  replace F262 := Aside0.mk (Kd.R_below F262.out hq_)
  have hn_ := Aside0.mk (blk_below BK3.out hq_)
  clear hczb1_0 hfzb1_0; clear hczb1_1 hfzb1_1
  clear BK3
  have BK3 := hn_
  clear hn_
  have hn_ := Aside0.mk (blk_below BK58.out hq_)
  clear hczb56_0 hfzb56_0; clear hczb56_1 hfzb56_1; clear hczb56_2 hfzb56_2; clear hczb56_3 hfzb56_3; clear hczb56_4 hfzb56_4; clear hczb56_5 hfzb56_5
  clear BK58
  have BK58 := hn_
  clear hn_
  have hn_ := Aside0.mk (blk_below BK79.out hq_)
  clear hczb77_0 hfzb77_0; clear hczb77_1 hfzb77_1
  clear BK79
  have BK79 := hn_
  clear hn_
  have hn_ := Aside0.mk (blk_below BK121.out hq_)
  clear hczb119_0 hfzb119_0; clear hczb119_1 hfzb119_1; clear hczb119_2 hfzb119_2; clear hczb119_3 hfzb119_3; clear hczb119_4 hfzb119_4; clear hczb119_5 hfzb119_5
  clear BK121
  have BK121 := hn_
  clear hn_
  have hn_ := Aside0.mk (blk_below BK267.out hq_)
  clear hczb265_0 hfzb265_0; clear hczb265_1 hfzb265_1; clear hczb265_2 hfzb265_2; clear hczb265_3 hfzb265_3; clear hczb265_4 hfzb265_4; clear hczb265_5 hfzb265_5
  clear BK267
  have BK267 := hn_
  clear hn_
  clear hq_
  obtain ⟨hczb1_0, hfzb1_0, hczb1_1, hfzb1_1⟩ := bk2 BK3.out
  obtain ⟨hczb56_0, hfzb56_0, hczb56_1, hfzb56_1, hczb56_2, hfzb56_2, hczb56_3, hfzb56_3, hczb56_4, hfzb56_4, hczb56_5, hfzb56_5⟩ := bk6 BK58.out
  obtain ⟨hczb77_0, hfzb77_0, hczb77_1, hfzb77_1⟩ := bk2 BK79.out
  obtain ⟨hczb119_0, hfzb119_0, hczb119_1, hfzb119_1, hczb119_2, hfzb119_2, hczb119_3, hfzb119_3, hczb119_4, hfzb119_4, hczb119_5, hfzb119_5⟩ := bk6 BK121.out
  obtain ⟨hczb265_0, hfzb265_0, hczb265_1, hfzb265_1, hczb265_2, hfzb265_2, hczb265_3, hfzb265_3, hczb265_4, hfzb265_4, hczb265_5, hfzb265_5⟩ := bk6 BK267.out
  clear hb
  go_wp2_with fail
  have hc_ := laws_heldCache.calls k t97 t98 _ _ t198 t100 t101 t102 1 t197 _ (Lk.Rr F113.out).2 (Lk.Rr F113.out).1 H286.out
  simp only [← HL202.out] at hc_
  refine hc_.mono ?_
  clear hc_
  rintro e_ w287 ⟨rfl, hb⟩
  have hq_ : Below w282.heap.size w282 w287 := ⟨hb.os, hb.tape, hb.output, hb.size, hb.block⟩
  have HZ288 := Aside0.mk (show w282.heap.size ≤ w287.heap.size from hq_.size)
  replace HB := Aside0.mk (below_then HB.out HB.out.size hq_)
  have HA289 := Aside0.mk (show w.heap.size ≤ w287.heap.size from HB.out.size)
  replace F21 := Aside0.mk (Kd.S_below F21.out hq_)
  replace F31 := Aside0.mk (Kd.R_below F31.out hq_)
  replace F50 := Aside0.mk (Kd.R_below F50.out hq_)
  replace F53 := Aside0.mk (Kd.R_below F53.out hq_)
  replace F74 := Aside0.mk (Kd.S_below F74.out hq_)
  replace F94 := Aside0.mk (Kd.R_below F94.out hq_)
  replace F113 := Aside0.mk (Kd.R_below F113.out hq_)
  replace F116 := Aside0.mk (Kd.R_below F116.out hq_)
  replace F150 := Aside0.mk (Kd.S_below F150.out hq_)
  replace F165 := Aside0.mk (Kd.R_below F165.out hq_)
  replace F230 := Aside0.mk (Kd.S_below F230.out hq_)
  replace F240 := Aside0.mk (Kd.R_below F240.out hq_)
  replace F259 := Aside0.mk (Kd.R_below F259.out hq_)
  replace F262 := Aside0.mk (Kd.R_below F262.out hq_)
  have hn_ := Aside0.mk (blk_below BK3.out hq_)
  clear hczb1_0 hfzb1_0; clear hczb1_1 hfzb1_1
  clear BK3
  have BK3 := hn_
  clear hn_
  have hn_ := Aside0.mk (blk_below BK58.out hq_)
  clear hczb56_0 hfzb56_0; clear hczb56_1 hfzb56_1; clear hczb56_2 hfzb56_2; clear hczb56_3 hfzb56_3; clear hczb56_4 hfzb56_4; clear hczb56_5 hfzb56_5
  clear BK58
  have BK58 := hn_
  clear hn_
  have hn_ := Aside0.mk (blk_below BK79.out hq_)
  clear hczb77_0 hfzb77_0; clear hczb77_1 hfzb77_1
  clear BK79
  have BK79 := hn_
  clear hn_
  have hn_ := Aside0.mk (blk_below BK121.out hq_)
  clear hczb119_0 hfzb119_0; clear hczb119_1 hfzb119_1; clear hczb119_2 hfzb119_2; clear hczb119_3 hfzb119_3; clear hczb119_4 hfzb119_4; clear hczb119_5 hfzb119_5
  clear BK121
  have BK121 := hn_
  clear hn_
  have hn_ := Aside0.mk (blk_below BK267.out hq_)
  clear hczb265_0 hfzb265_0; clear hczb265_1 hfzb265_1; clear hczb265_2 hfzb265_2; clear hczb265_3 hfzb265_3; clear hczb265_4 hfzb265_4; clear hczb265_5 hfzb265_5
  clear BK267
  have BK267 := hn_
  clear hn_
  clear hq_
  obtain ⟨hczb1_0, hfzb1_0, hczb1_1, hfzb1_1⟩ := bk2 BK3.out
  obtain ⟨hczb56_0, hfzb56_0, hczb56_1, hfzb56_1, hczb56_2, hfzb56_2, hczb56_3, hfzb56_3, hczb56_4, hfzb56_4, hczb56_5, hfzb56_5⟩ := bk6 BK58.out
  obtain ⟨hczb77_0, hfzb77_0, hczb77_1, hfzb77_1⟩ := bk2 BK79.out
  obtain ⟨hczb119_0, hfzb119_0, hczb119_1, hfzb119_1, hczb119_2, hfzb119_2, hczb119_3, hfzb119_3, hczb119_4, hfzb119_4, hczb119_5, hfzb119_5⟩ := bk6 BK121.out
  obtain ⟨hczb265_0, hfzb265_0, hczb265_1, hfzb265_1, hczb265_2, hfzb265_2, hczb265_3, hfzb265_3, hczb265_4, hfzb265_4, hczb265_5, hfzb265_5⟩ := bk6 BK267.out
  clear hb
  go_wp2_with fail
  have hc_ := laws_heldIntS.calls k _ _ t206 t197 t205 _ (Lk.Rr F116.out).2 (Lk.Rr F116.out).1 H291.out
  simp only [← HL210.out] at hc_
  refine hc_.mono ?_
  clear hc_
  rintro e_ w292 ⟨rfl, ⟨nd_, hd_⟩⟩
  have hb : Below w287.heap.size w287 w292 := by rw [hd_]; exact pw_below_drewN (Below.refl _ _) nd_
  clear hd_
  have hq_ : Below w287.heap.size w287 w292 := ⟨hb.os, hb.tape, hb.output, hb.size, hb.block⟩
  have HZ293 := Aside0.mk (show w287.heap.size ≤ w292.heap.size from hq_.size)
  replace HB := Aside0.mk (below_then HB.out HB.out.size hq_)
  have HA294 := Aside0.mk (show w.heap.size ≤ w292.heap.size from HB.out.size)
  replace F21 := Aside0.mk (Kd.S_below F21.out hq_)
  replace F31 := Aside0.mk (Kd.R_below F31.out hq_)
  replace F50 := Aside0.mk (Kd.R_below F50.out hq_)
  replace F53 := Aside0.mk (Kd.R_below F53.out hq_)
  replace F74 := Aside0.mk (Kd.S_below F74.out hq_)
  replace F94 := Aside0.mk (Kd.R_below F94.out hq_)
  replace F113 := Aside0.mk (Kd.R_below F113.out hq_)
  replace F116 := Aside0.mk (Kd.R_below F116.out hq_)
  replace F150 := Aside0.mk (Kd.S_below F150.out hq_)
  replace F165 := Aside0.mk (Kd.R_below F165.out hq_)
  replace F230 := Aside0.mk (Kd.S_below F230.out hq_)
  replace F240 := Aside0.mk (Kd.R_below F240.out hq_)
  replace F259 := Aside0.mk (Kd.R_below F259.out hq_)
  replace F262 := Aside0.mk (Kd.R_below F262.out hq_)
  have hn_ := Aside0.mk (blk_below BK3.out hq_)
  clear hczb1_0 hfzb1_0; clear hczb1_1 hfzb1_1
  clear BK3
  have BK3 := hn_
  clear hn_
  have hn_ := Aside0.mk (blk_below BK58.out hq_)
  clear hczb56_0 hfzb56_0; clear hczb56_1 hfzb56_1; clear hczb56_2 hfzb56_2; clear hczb56_3 hfzb56_3; clear hczb56_4 hfzb56_4; clear hczb56_5 hfzb56_5
  clear BK58
  have BK58 := hn_
  clear hn_
  have hn_ := Aside0.mk (blk_below BK79.out hq_)
  clear hczb77_0 hfzb77_0; clear hczb77_1 hfzb77_1
  clear BK79
  have BK79 := hn_
  clear hn_
  have hn_ := Aside0.mk (blk_below BK121.out hq_)
  clear hczb119_0 hfzb119_0; clear hczb119_1 hfzb119_1; clear hczb119_2 hfzb119_2; clear hczb119_3 hfzb119_3; clear hczb119_4 hfzb119_4; clear hczb119_5 hfzb119_5
  clear BK121
  have BK121 := hn_
  clear hn_
  have hn_ := Aside0.mk (blk_below BK267.out hq_)
  clear hczb265_0 hfzb265_0; clear hczb265_1 hfzb265_1; clear hczb265_2 hfzb265_2; clear hczb265_3 hfzb265_3; clear hczb265_4 hfzb265_4; clear hczb265_5 hfzb265_5
  clear BK267
  have BK267 := hn_
  clear hn_
  clear hq_
  obtain ⟨hczb1_0, hfzb1_0, hczb1_1, hfzb1_1⟩ := bk2 BK3.out
  obtain ⟨hczb56_0, hfzb56_0, hczb56_1, hfzb56_1, hczb56_2, hfzb56_2, hczb56_3, hfzb56_3, hczb56_4, hfzb56_4, hczb56_5, hfzb56_5⟩ := bk6 BK58.out
  obtain ⟨hczb77_0, hfzb77_0, hczb77_1, hfzb77_1⟩ := bk2 BK79.out
  obtain ⟨hczb119_0, hfzb119_0, hczb119_1, hfzb119_1, hczb119_2, hfzb119_2, hczb119_3, hfzb119_3, hczb119_4, hfzb119_4, hczb119_5, hfzb119_5⟩ := bk6 BK121.out
  obtain ⟨hczb265_0, hfzb265_0, hczb265_1, hfzb265_1, hczb265_2, hfzb265_2, hczb265_3, hfzb265_3, hczb265_4, hfzb265_4, hczb265_5, hfzb265_5⟩ := bk6 BK267.out
  clear hb
  go_wp2_with fail
  go_ret
  exact ⟨rfl, HB.out⟩
end Go.Proofs.Ytjmgleomljfieaa.Q
