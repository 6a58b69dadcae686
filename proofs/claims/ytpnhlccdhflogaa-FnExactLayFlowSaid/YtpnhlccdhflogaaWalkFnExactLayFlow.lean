/- The law FnExactLayFlow of this seat: the walk along its one way. Conditions: none. -/
import Derived.Test.YtpnhlccdhflogaaQx0
import Derived.Test.YtpnhlccdhflogaaQx1
import Derived.Test.YtpnhlccdhflogaaQx3
import Derived.Test.YtpnhlccdhflogaaQx4
import Derived.Test.YtpnhlccdhflogaaQx6
import Derived.Test.YtpnhlccdhflogaaQx7
import Derived.Test.YtpnhlccdhflogaaQx8
import Derived.Test.YtpnhlccdhflogaaGoodFnExactLayFlow
import Derived.Test.YtpnhlccdhflogaaLk
namespace Go.Proofs.Ytpnhlccdhflogaa.Q
open Go.RowKit Go.Proofs.YtpnhlccdhflogaaW.PrintWords Go.Proofs.YtpnhlccdhflogaaW.PrintLast Go.Proofs.YtpnhlccdhflogaaW.PrintMore
set_option linter.unusedVariables false
set_option linter.unusedSimpArgs false
open Lk in
set_option maxHeartbeats 8000000 in
set_option maxRecDepth 100000 in
theorem laws_FnExactLayFlow.calls (k : Nat) (A0 : Option Addr) (c0 : Nat) (l0 : List (S95)) (A1 : Option Addr) (c1 : Nat) (l1 : List Int) (r : Bool) (w : World) (hr0 : Kd.C k95 w A0 l0.length l0) (hc0 : l0.length ≤ c0) (hr1 : Kd.C (Kd.int .i64) w A1 l1.length l1) (hc1 : l1.length ≤ c1) (h : laws_FnExactLayFlow.f k l0 l1 = some r) :
    Calls Try.prog 8 #[.slice A0 l0.length c0, .slice A1 l1.length c1] w fun e w' => e = .returned (.bool r) ∧ Below w.heap.size w w' := by
  unfold laws_FnExactLayFlow.f at h
  split at h
  case isFalse => cases h
  rename_i hg
  obtain rfl := Option.some.inj h
  clear h
  have HR0 := Aside0.mk hr0
  have HC0 := Aside0.mk hc0
  clear hr0 hc0
  have HR1 := Aside0.mk hr1
  have HC1 := Aside0.mk hc1
  clear hr1 hc1
  have HB := Aside0.mk (Below.refl w.heap.size w)
  unfold laws_FnExactLayFlow.good at hg
  skip
  rcases hg with hs | ⟨hs, hg⟩
  · have hs1_ : decide (1048576 < (l1.length : Int)) = true := decide_eq_true hs
    have hs1n_ : decide (1048576 < l1.length) = true := decide_eq_true (by omega)
    clear hs
    go_enter Try.func8, Try.ntmps8
    go_wp2_with fail
    go_ret
    exact ⟨rfl, by repeat first | exact HB.out | apply below_alloc⟩
  have hs2_ : decide (1048576 < (l1.length : Int)) = false := decide_eq_false hs
  have hs2n_ : decide (1048576 < l1.length) = false := decide_eq_false (by omega)
  clear hs
  obtain ⟨t1, H20, hg⟩ := hg
  have H2 := Aside0.mk H20
  clear H20
  rcases hg with hs | ⟨hs, hg⟩
  · have hs1_ : decide (t1 < 0) = true := decide_eq_true hs
    clear hs
    go_enter Try.func8, Try.ntmps8
    go_wp2_with fail
    refine (laws_szBlockS.calls k _ _ l0 1048576 t1 _ (Kd.C_below HR0.out HB.out) HC0.out H2.out).mono ?_
    rintro e_ w3 ⟨rfl, hb⟩
    have hq_ : Below w.heap.size w w3 := ⟨hb.os, hb.tape, hb.output, hb.size, hb.block⟩
    have HZ4 := Aside0.mk (show w.heap.size ≤ w3.heap.size from hq_.size)
    replace HB := Aside0.mk (below_then HB.out HB.out.size hq_)
    have HA5 := Aside0.mk (show w.heap.size ≤ w3.heap.size from HB.out.size)
    clear hq_
    clear hb
    go_wp2_with fail
    go_ret
    exact ⟨rfl, by repeat first | exact HB.out | apply below_alloc⟩
  have hs3_ : decide (t1 < 0) = false := decide_eq_false hs
  clear hs
  obtain ⟨t6, H70, t16, H170, t26, t27, H280, t37, H380, t47, H480, t57, H590, H690, t73, H740, H840, t88, H890, H990, H1040, t109, t110, H1110, H1120, H1170, H1220, H1270, t131, H1320, t141, H1420, t151, H1530, H1630, H1680, hg⟩ := hg
  have H7 := Aside0.mk H70
  clear H70
  have H17 := Aside0.mk H170
  clear H170
  have H28 := Aside0.mk H280
  clear H280
  have H38 := Aside0.mk H380
  clear H380
  have H48 := Aside0.mk H480
  clear H480
  have H59 := Aside0.mk H590
  clear H590
  have H69 := Aside0.mk H690
  clear H690
  have H74 := Aside0.mk H740
  clear H740
  have H84 := Aside0.mk H840
  clear H840
  have H89 := Aside0.mk H890
  clear H890
  have H99 := Aside0.mk H990
  clear H990
  have H104 := Aside0.mk H1040
  clear H1040
  have H111 := Aside0.mk H1110
  clear H1110
  have H112 := Aside0.mk H1120
  clear H1120
  have H117 := Aside0.mk H1170
  clear H1170
  have H122 := Aside0.mk H1220
  clear H1220
  have H127 := Aside0.mk H1270
  clear H1270
  have H132 := Aside0.mk H1320
  clear H1320
  have H142 := Aside0.mk H1420
  clear H1420
  have H153 := Aside0.mk H1530
  clear H1530
  have H163 := Aside0.mk H1630
  clear H1630
  have H168 := Aside0.mk H1680
  clear H1680
  clear hg
  go_enter Try.func8, Try.ntmps8
  go_wp2_with fail
  refine (laws_szBlockS.calls k _ _ l0 1048576 t1 _ (Kd.C_below HR0.out HB.out) HC0.out H2.out).mono ?_
  rintro e_ w3 ⟨rfl, hb⟩
  have hq_ : Below w.heap.size w w3 := ⟨hb.os, hb.tape, hb.output, hb.size, hb.block⟩
  have HZ4 := Aside0.mk (show w.heap.size ≤ w3.heap.size from hq_.size)
  replace HB := Aside0.mk (below_then HB.out HB.out.size hq_)
  have HA5 := Aside0.mk (show w.heap.size ≤ w3.heap.size from HB.out.size)
  clear hq_
  clear hb
  go_wp2_with fail
  refine (laws_toBlockS.calls k _ _ l0 t6 _ (Kd.C_below HR0.out HB.out) HC0.out H7.out).mono ?_
  rintro e_ w8 ⟨v9, rfl, f10, hb⟩
  have hq_ : Below w3.heap.size w3 w8 := ⟨hb.os, hb.tape, hb.output, hb.size, hb.block⟩
  have HZ11 := Aside0.mk (show w3.heap.size ≤ w8.heap.size from hq_.size)
  replace HB := Aside0.mk (below_then HB.out HB.out.size hq_)
  have HA12 := Aside0.mk (show w.heap.size ≤ w8.heap.size from HB.out.size)
  clear hq_
  clear hb
  have F13 := Aside0.mk (Lk.newS (b := w3.heap.size) (base := w.heap.size) (Sep := fun k_ => True) f10 (HA5.out) (fun k_ hk_ => hk_))
  clear f10
  obtain ⟨A14, c15, e_⟩ := Kd.S_slice F13.out
  subst e_
  go_wp2_with fail
  refine (laws_toIntS.calls k _ _ l1 t16 _ (Kd.C_below HR1.out HB.out) HC1.out H17.out).mono ?_
  rintro e_ w18 ⟨v19, rfl, f20, hb⟩
  have hq_ : Below w8.heap.size w8 w18 := ⟨hb.os, hb.tape, hb.output, hb.size, hb.block⟩
  have HZ21 := Aside0.mk (show w8.heap.size ≤ w18.heap.size from hq_.size)
  replace HB := Aside0.mk (below_then HB.out HB.out.size hq_)
  have HA22 := Aside0.mk (show w.heap.size ≤ w18.heap.size from HB.out.size)
  replace F13 := Aside0.mk (Kd.S_below F13.out hq_)
  clear hq_
  clear hb
  have F23 := Aside0.mk (Lk.newR (b := w8.heap.size) (base := w.heap.size) (Sep := fun k_ => True) rfl f20 (HA12.out) (fun k_ hk_ => hk_))
  clear f20
  obtain ⟨A24, c25, e_⟩ := Kd.R_slice F23.out
  subst e_
  go_wp2_with fail
  refine (spec_LayFlow.calls k _ _ t6 _ _ t16 t26 t27 _ (Lk.Sr F13.out).2 (Lk.Sr F13.out).1 (Lk.Rr F23.out).2 (Lk.Rr F23.out).1 H28.out).mono ?_
  rintro e_ w29 ⟨v30, rfl, f31, hb⟩
  have hq_ : Below w18.heap.size w18 w29 := ⟨hb.os, hb.tape, hb.output, hb.size, hb.block⟩
  have HZ32 := Aside0.mk (show w18.heap.size ≤ w29.heap.size from hq_.size)
  replace HB := Aside0.mk (below_then HB.out HB.out.size hq_)
  have HA33 := Aside0.mk (show w.heap.size ≤ w29.heap.size from HB.out.size)
  replace F13 := Aside0.mk (Kd.S_below F13.out hq_)
  replace F23 := Aside0.mk (Kd.R_below F23.out hq_)
  clear hq_
  clear hb
  have F34 := Aside0.mk (Lk.newS (b := w18.heap.size) (base := w.heap.size) (Sep := fun k_ => True) f31 (HA22.out) (fun k_ hk_ => hk_))
  clear f31
  obtain ⟨A35, c36, e_⟩ := Kd.S_slice F34.out
  subst e_
  go_wp2_with fail
  refine (laws_toBlockS.calls k _ _ l0 t37 _ (Kd.C_below HR0.out HB.out) HC0.out H38.out).mono ?_
  rintro e_ w39 ⟨v40, rfl, f41, hb⟩
  have hq_ : Below w29.heap.size w29 w39 := ⟨hb.os, hb.tape, hb.output, hb.size, hb.block⟩
  have HZ42 := Aside0.mk (show w29.heap.size ≤ w39.heap.size from hq_.size)
  replace HB := Aside0.mk (below_then HB.out HB.out.size hq_)
  have HA43 := Aside0.mk (show w.heap.size ≤ w39.heap.size from HB.out.size)
  replace F13 := Aside0.mk (Kd.S_below F13.out hq_)
  replace F23 := Aside0.mk (Kd.R_below F23.out hq_)
  replace F34 := Aside0.mk (Kd.S_below F34.out hq_)
  clear hq_
  clear hb
  have F44 := Aside0.mk (Lk.newS (b := w29.heap.size) (base := w.heap.size) (Sep := fun k_ => True) f41 (HA33.out) (fun k_ hk_ => hk_))
  clear f41
  obtain ⟨A45, c46, e_⟩ := Kd.S_slice F44.out
  subst e_
  go_wp2_with fail
  refine (laws_toIntS.calls k _ _ l1 t47 _ (Kd.C_below HR1.out HB.out) HC1.out H48.out).mono ?_
  rintro e_ w49 ⟨v50, rfl, f51, hb⟩
  have hq_ : Below w39.heap.size w39 w49 := ⟨hb.os, hb.tape, hb.output, hb.size, hb.block⟩
  have HZ52 := Aside0.mk (show w39.heap.size ≤ w49.heap.size from hq_.size)
  replace HB := Aside0.mk (below_then HB.out HB.out.size hq_)
  have HA53 := Aside0.mk (show w.heap.size ≤ w49.heap.size from HB.out.size)
  replace F13 := Aside0.mk (Kd.S_below F13.out hq_)
  replace F23 := Aside0.mk (Kd.R_below F23.out hq_)
  replace F34 := Aside0.mk (Kd.S_below F34.out hq_)
  replace F44 := Aside0.mk (Kd.S_below F44.out hq_)
  clear hq_
  clear hb
  have F54 := Aside0.mk (Lk.newR (b := w39.heap.size) (base := w.heap.size) (Sep := fun k_ => True) rfl f51 (HA43.out) (fun k_ hk_ => hk_))
  clear f51
  obtain ⟨A55, c56, e_⟩ := Kd.R_slice F54.out
  subst e_
  go_wp2_with fail
  refine (impl_LayFlow.calls k _ _ t37 _ _ t47 t57 t27 _ (Lk.Sr F44.out).2 (Lk.Sr F44.out).1 (Lk.Rr F54.out).2 (Lk.Rr F54.out).1 H59.out).mono ?_
  rintro e_ w60 ⟨v61, rfl, f62, hb⟩
  have hq_ : Below w49.heap.size w49 w60 := ⟨hb.os, hb.tape, hb.output, hb.size, hb.block⟩
  have HZ63 := Aside0.mk (show w49.heap.size ≤ w60.heap.size from hq_.size)
  replace HB := Aside0.mk (below_then HB.out HB.out.size hq_)
  have HA64 := Aside0.mk (show w.heap.size ≤ w60.heap.size from HB.out.size)
  replace F13 := Aside0.mk (Kd.S_below F13.out hq_)
  replace F23 := Aside0.mk (Kd.R_below F23.out hq_)
  replace F34 := Aside0.mk (Kd.S_below F34.out hq_)
  replace F44 := Aside0.mk (Kd.S_below F44.out hq_)
  replace F54 := Aside0.mk (Kd.R_below F54.out hq_)
  clear hq_
  clear hb
  have F65 := Aside0.mk (Lk.newS (b := w49.heap.size) (base := w.heap.size) (Sep := fun k_ => True) f62 (HA53.out) (fun k_ hk_ => hk_))
  clear f62
  obtain ⟨A66, c67, e_⟩ := Kd.S_slice F65.out
  subst e_
  go_wp2_with fail
  refine (laws_eqBlockS.calls k _ _ t57 _ _ t26 true _ (Lk.Sr F65.out).2 (Lk.Sr F65.out).1 (Lk.Sr F34.out).2 (Lk.Sr F34.out).1 H69.out).mono ?_
  rintro e_ w70 ⟨rfl, hb⟩
  have hq_ : Below w60.heap.size w60 w70 := ⟨hb.os, hb.tape, hb.output, hb.size, hb.block⟩
  have HZ71 := Aside0.mk (show w60.heap.size ≤ w70.heap.size from hq_.size)
  replace HB := Aside0.mk (below_then HB.out HB.out.size hq_)
  have HA72 := Aside0.mk (show w.heap.size ≤ w70.heap.size from HB.out.size)
  replace F13 := Aside0.mk (Kd.S_below F13.out hq_)
  replace F23 := Aside0.mk (Kd.R_below F23.out hq_)
  replace F34 := Aside0.mk (Kd.S_below F34.out hq_)
  replace F44 := Aside0.mk (Kd.S_below F44.out hq_)
  replace F54 := Aside0.mk (Kd.R_below F54.out hq_)
  replace F65 := Aside0.mk (Kd.S_below F65.out hq_)
  clear hq_
  clear hb
  go_wp2_with fail
  refine (laws_toBlockS.calls k _ _ l0 t73 _ (Kd.C_below HR0.out HB.out) HC0.out H74.out).mono ?_
  rintro e_ w75 ⟨v76, rfl, f77, hb⟩
  have hq_ : Below w70.heap.size w70 w75 := ⟨hb.os, hb.tape, hb.output, hb.size, hb.block⟩
  have HZ78 := Aside0.mk (show w70.heap.size ≤ w75.heap.size from hq_.size)
  replace HB := Aside0.mk (below_then HB.out HB.out.size hq_)
  have HA79 := Aside0.mk (show w.heap.size ≤ w75.heap.size from HB.out.size)
  replace F13 := Aside0.mk (Kd.S_below F13.out hq_)
  replace F23 := Aside0.mk (Kd.R_below F23.out hq_)
  replace F34 := Aside0.mk (Kd.S_below F34.out hq_)
  replace F44 := Aside0.mk (Kd.S_below F44.out hq_)
  replace F54 := Aside0.mk (Kd.R_below F54.out hq_)
  replace F65 := Aside0.mk (Kd.S_below F65.out hq_)
  clear hq_
  clear hb
  have F80 := Aside0.mk (Lk.newS (b := w70.heap.size) (base := w.heap.size) (Sep := fun k_ => True) f77 (HA72.out) (fun k_ hk_ => hk_))
  clear f77
  obtain ⟨A81, c82, e_⟩ := Kd.S_slice F80.out
  subst e_
  go_wp2_with fail
  refine (laws_eqBlockS.calls k _ _ t37 _ _ t73 true _ (Lk.Sr F44.out).2 (Lk.Sr F44.out).1 (Lk.Sr F80.out).2 (Lk.Sr F80.out).1 H84.out).mono ?_
  rintro e_ w85 ⟨rfl, hb⟩
  have hq_ : Below w75.heap.size w75 w85 := ⟨hb.os, hb.tape, hb.output, hb.size, hb.block⟩
  have HZ86 := Aside0.mk (show w75.heap.size ≤ w85.heap.size from hq_.size)
  replace HB := Aside0.mk (below_then HB.out HB.out.size hq_)
  have HA87 := Aside0.mk (show w.heap.size ≤ w85.heap.size from HB.out.size)
  replace F13 := Aside0.mk (Kd.S_below F13.out hq_)
  replace F23 := Aside0.mk (Kd.R_below F23.out hq_)
  replace F34 := Aside0.mk (Kd.S_below F34.out hq_)
  replace F44 := Aside0.mk (Kd.S_below F44.out hq_)
  replace F54 := Aside0.mk (Kd.R_below F54.out hq_)
  replace F65 := Aside0.mk (Kd.S_below F65.out hq_)
  replace F80 := Aside0.mk (Kd.S_below F80.out hq_)
  clear hq_
  clear hb
  go_wp2_with fail
  refine (laws_toIntS.calls k _ _ l1 t88 _ (Kd.C_below HR1.out HB.out) HC1.out H89.out).mono ?_
  rintro e_ w90 ⟨v91, rfl, f92, hb⟩
  have hq_ : Below w85.heap.size w85 w90 := ⟨hb.os, hb.tape, hb.output, hb.size, hb.block⟩
  have HZ93 := Aside0.mk (show w85.heap.size ≤ w90.heap.size from hq_.size)
  replace HB := Aside0.mk (below_then HB.out HB.out.size hq_)
  have HA94 := Aside0.mk (show w.heap.size ≤ w90.heap.size from HB.out.size)
  replace F13 := Aside0.mk (Kd.S_below F13.out hq_)
  replace F23 := Aside0.mk (Kd.R_below F23.out hq_)
  replace F34 := Aside0.mk (Kd.S_below F34.out hq_)
  replace F44 := Aside0.mk (Kd.S_below F44.out hq_)
  replace F54 := Aside0.mk (Kd.R_below F54.out hq_)
  replace F65 := Aside0.mk (Kd.S_below F65.out hq_)
  replace F80 := Aside0.mk (Kd.S_below F80.out hq_)
  clear hq_
  clear hb
  have F95 := Aside0.mk (Lk.newR (b := w85.heap.size) (base := w.heap.size) (Sep := fun k_ => True) rfl f92 (HA87.out) (fun k_ hk_ => hk_))
  clear f92
  obtain ⟨A96, c97, e_⟩ := Kd.R_slice F95.out
  subst e_
  go_wp2_with fail
  refine (laws_eqIntS.calls k _ _ t47 _ _ t88 true _ (Lk.Rr F54.out).2 (Lk.Rr F54.out).1 (Lk.Rr F95.out).2 (Lk.Rr F95.out).1 H99.out).mono ?_
  rintro e_ w100 ⟨rfl, ⟨nd_, hd_⟩⟩
  have hb : Below w90.heap.size w90 w100 := by rw [hd_]; exact pw_below_drewN (Below.refl _ _) nd_
  clear hd_
  have hq_ : Below w90.heap.size w90 w100 := ⟨hb.os, hb.tape, hb.output, hb.size, hb.block⟩
  have HZ101 := Aside0.mk (show w90.heap.size ≤ w100.heap.size from hq_.size)
  replace HB := Aside0.mk (below_then HB.out HB.out.size hq_)
  have HA102 := Aside0.mk (show w.heap.size ≤ w100.heap.size from HB.out.size)
  replace F13 := Aside0.mk (Kd.S_below F13.out hq_)
  replace F23 := Aside0.mk (Kd.R_below F23.out hq_)
  replace F34 := Aside0.mk (Kd.S_below F34.out hq_)
  replace F44 := Aside0.mk (Kd.S_below F44.out hq_)
  replace F54 := Aside0.mk (Kd.R_below F54.out hq_)
  replace F65 := Aside0.mk (Kd.S_below F65.out hq_)
  replace F80 := Aside0.mk (Kd.S_below F80.out hq_)
  replace F95 := Aside0.mk (Kd.R_below F95.out hq_)
  clear hq_
  clear hb
  go_wp2_with fail
  have hn_ := H104.out
  refine (laws_markBlockS.calls (fun k_ => (w29.heap.size ≤ k_ ∧ k_ < w39.heap.size) ∧ (True)) _ t37 1 w _ HB.out F44.out (by omega) hn_).mono ?_
  rintro e_ w103 ⟨rfl, f0_, hb0_, hk_⟩
  have hk2_ : Kept w100 w103 (fun k_ => w29.heap.size ≤ k_ ∧ k_ < w39.heap.size) := Kept.mono hk_ (fun k_ h_ => by first | exact h_ | exact h_.1)
  have HZ105 := Aside0.mk (show w100.heap.size ≤ w103.heap.size from hk2_.1)
  clear HB
  have HB := Aside0.mk hb0_
  have hn_ := Aside0.mk (Kd.S_kept F13.out hk2_ (fun k_ h1_ h2_ => by skip; have := HZ21.out; have := HZ32.out; have h3_ := h1_.1; omega))
  clear F13
  have F13 := hn_
  clear hn_
  have hn_ := Aside0.mk (Kd.R_kept F23.out hk2_ (fun k_ h1_ h2_ => by skip; have := HZ32.out; have h3_ := h1_.1; omega))
  clear F23
  have F23 := hn_
  clear hn_
  have hn_ := Aside0.mk (Kd.S_kept F34.out hk2_ (fun k_ h1_ h2_ => by skip; have h3_ := h1_.1; omega))
  clear F34
  have F34 := hn_
  clear hn_
  have hn_ := Aside0.mk (Kd.R_kept F54.out hk2_ (fun k_ h1_ h2_ => by skip; have h3_ := h1_.1; omega))
  clear F54
  have F54 := hn_
  clear hn_
  have hn_ := Aside0.mk (Kd.S_kept F65.out hk2_ (fun k_ h1_ h2_ => by skip; have := HZ52.out; have h3_ := h1_.1; omega))
  clear F65
  have F65 := hn_
  clear hn_
  have hn_ := Aside0.mk (Kd.S_kept F80.out hk2_ (fun k_ h1_ h2_ => by skip; have := HZ52.out; have := HZ63.out; have := HZ71.out; have h3_ := h1_.1; omega))
  clear F80
  have F80 := hn_
  clear hn_
  have hn_ := Aside0.mk (Kd.R_kept F95.out hk2_ (fun k_ h1_ h2_ => by skip; have := HZ52.out; have := HZ63.out; have := HZ71.out; have := HZ78.out; have := HZ86.out; have h3_ := h1_.1; omega))
  clear F95
  have F95 := hn_
  clear hn_
  have hn_ := Aside0.mk (f0_)
  have F44n := hn_
  clear hn_
  clear F44
  have F44 := F44n
  clear F44n
  clear hk2_ hk_ hb0_ f0_
  have hl106 := (Kd.S_reads' F44.out).1
  have HL106 := Aside0.mk hl106
  clear hl106
  have hn1_ : decide ((1 + (markBlockS_cnt t37 : Nat) : Int) < 0) = false := decide_eq_false (by omega)
  have hd107 := hn1_
  clear hn1_
  go_wp2_with fail
  refine (laws_markIntS.calls k (fun k_ => (w39.heap.size ≤ k_ ∧ k_ < w49.heap.size) ∧ some k_ = (.slice A55 t47.length c56 : Value).ownBlock ∧ (True)) _ t47 (1 + (markBlockS_cnt t37 : Nat) : Int) t109 t110 w _ HB.out F54.out H111.out).mono ?_
  rintro e_ w108 ⟨rfl, f0_, hb0_, hk_⟩
  have hk2_ : Kept w103 w108 (fun k_ => w39.heap.size ≤ k_ ∧ k_ < w49.heap.size) := Kept.mono hk_ (fun k_ h_ => by first | exact h_ | exact h_.1)
  have HZ113 := Aside0.mk (show w103.heap.size ≤ w108.heap.size from hk2_.1)
  clear HB
  have HB := Aside0.mk hb0_
  have hn_ := Aside0.mk (Kd.S_kept F13.out hk2_ (fun k_ h1_ h2_ => by skip; have := HZ21.out; have := HZ32.out; have := HZ42.out; have h3_ := h1_.1; omega))
  clear F13
  have F13 := hn_
  clear hn_
  have hn_ := Aside0.mk (Kd.R_kept F23.out hk2_ (fun k_ h1_ h2_ => by skip; have := HZ32.out; have := HZ42.out; have h3_ := h1_.1; omega))
  clear F23
  have F23 := hn_
  clear hn_
  have hn_ := Aside0.mk (Kd.S_kept F34.out hk2_ (fun k_ h1_ h2_ => by skip; have := HZ42.out; have h3_ := h1_.1; omega))
  clear F34
  have F34 := hn_
  clear hn_
  have hn_ := Aside0.mk (Kd.S_kept F44.out hk2_ (fun k_ h1_ h2_ => by skip; have h3_ := h1_.1; omega))
  clear F44
  have F44 := hn_
  clear hn_
  have hn_ := Aside0.mk (Kd.S_kept F65.out hk2_ (fun k_ h1_ h2_ => by skip; have h3_ := h1_.1; omega))
  clear F65
  have F65 := hn_
  clear hn_
  have hn_ := Aside0.mk (Kd.S_kept F80.out hk2_ (fun k_ h1_ h2_ => by skip; have := HZ63.out; have := HZ71.out; have h3_ := h1_.1; omega))
  clear F80
  have F80 := hn_
  clear hn_
  have hn_ := Aside0.mk (Kd.R_kept F95.out hk2_ (fun k_ h1_ h2_ => by skip; have := HZ63.out; have := HZ71.out; have := HZ78.out; have := HZ86.out; have h3_ := h1_.1; omega))
  clear F95
  have F95 := hn_
  clear hn_
  have hn_ := Aside0.mk (Lk.markedR rfl f0_ (fun k_ e_ => (show (w39.heap.size ≤ k_ ∧ k_ < w49.heap.size) ∧ some k_ = (.slice A55 t47.length c56 : Value).ownBlock ∧ (True) from (F54.out.1 k_ e_.symm))))
  have F54n := hn_
  clear hn_
  clear F54
  have F54 := F54n
  clear F54n
  clear hk2_ hk_ hb0_ f0_
  have hl114 := (Kd.R_reads' F54.out).1
  have HL114 := Aside0.mk hl114
  clear hl114
  have hn1_ : decide (t109 < 0) = false := decide_eq_false (by have := H112.out; omega)
  have hd115 := hn1_
  clear hn1_
  go_wp2_with fail
  refine (laws_eqBlockS.calls k _ _ t57 _ _ t26 true _ (Lk.Sr F65.out).2 (Lk.Sr F65.out).1 (Lk.Sr F34.out).2 (Lk.Sr F34.out).1 H117.out).mono ?_
  rintro e_ w118 ⟨rfl, hb⟩
  have hq_ : Below w108.heap.size w108 w118 := ⟨hb.os, hb.tape, hb.output, hb.size, hb.block⟩
  have HZ119 := Aside0.mk (show w108.heap.size ≤ w118.heap.size from hq_.size)
  replace HB := Aside0.mk (below_then HB.out HB.out.size hq_)
  have HA120 := Aside0.mk (show w.heap.size ≤ w118.heap.size from HB.out.size)
  replace F13 := Aside0.mk (Kd.S_below F13.out hq_)
  replace F23 := Aside0.mk (Kd.R_below F23.out hq_)
  replace F34 := Aside0.mk (Kd.S_below F34.out hq_)
  replace F44 := Aside0.mk (Kd.S_below F44.out hq_)
  replace F54 := Aside0.mk (Kd.R_below F54.out hq_)
  replace F65 := Aside0.mk (Kd.S_below F65.out hq_)
  replace F80 := Aside0.mk (Kd.S_below F80.out hq_)
  replace F95 := Aside0.mk (Kd.R_below F95.out hq_)
  clear hq_
  clear hb
  go_wp2_with fail
  have hn_ := H122.out
  refine (laws_markBlockS.calls (fun k_ => (w49.heap.size ≤ k_ ∧ k_ < w60.heap.size) ∧ (True)) _ t57 1 w _ HB.out F65.out (by omega) hn_).mono ?_
  rintro e_ w121 ⟨rfl, f0_, hb0_, hk_⟩
  have hk2_ : Kept w118 w121 (fun k_ => w49.heap.size ≤ k_ ∧ k_ < w60.heap.size) := Kept.mono hk_ (fun k_ h_ => by first | exact h_ | exact h_.1)
  have HZ123 := Aside0.mk (show w118.heap.size ≤ w121.heap.size from hk2_.1)
  clear HB
  have HB := Aside0.mk hb0_
  have hn_ := Aside0.mk (Kd.S_kept F13.out hk2_ (fun k_ h1_ h2_ => by skip; have := HZ21.out; have := HZ32.out; have := HZ42.out; have := HZ52.out; have h3_ := h1_.1; omega))
  clear F13
  have F13 := hn_
  clear hn_
  have hn_ := Aside0.mk (Kd.R_kept F23.out hk2_ (fun k_ h1_ h2_ => by skip; have := HZ32.out; have := HZ42.out; have := HZ52.out; have h3_ := h1_.1; omega))
  clear F23
  have F23 := hn_
  clear hn_
  have hn_ := Aside0.mk (Kd.S_kept F34.out hk2_ (fun k_ h1_ h2_ => by skip; have := HZ42.out; have := HZ52.out; have h3_ := h1_.1; omega))
  clear F34
  have F34 := hn_
  clear hn_
  have hn_ := Aside0.mk (Kd.S_kept F44.out hk2_ (fun k_ h1_ h2_ => by skip; have := HZ52.out; have h3_ := h1_.1; omega))
  clear F44
  have F44 := hn_
  clear hn_
  have hn_ := Aside0.mk (Kd.R_kept F54.out hk2_ (fun k_ h1_ h2_ => by skip; have h3_ := h1_.1; omega))
  clear F54
  have F54 := hn_
  clear hn_
  have hn_ := Aside0.mk (Kd.S_kept F80.out hk2_ (fun k_ h1_ h2_ => by skip; have := HZ71.out; have h3_ := h1_.1; omega))
  clear F80
  have F80 := hn_
  clear hn_
  have hn_ := Aside0.mk (Kd.R_kept F95.out hk2_ (fun k_ h1_ h2_ => by skip; have := HZ71.out; have := HZ78.out; have := HZ86.out; have h3_ := h1_.1; omega))
  clear F95
  have F95 := hn_
  clear hn_
  have hn_ := Aside0.mk (f0_)
  have F65n := hn_
  clear hn_
  clear F65
  have F65 := F65n
  clear F65n
  clear hk2_ hk_ hb0_ f0_
  have hl124 := (Kd.S_reads' F65.out).1
  have HL124 := Aside0.mk hl124
  clear hl124
  have hn1_ : decide ((1 + (markBlockS_cnt t57 : Nat) : Int) < 0) = false := decide_eq_false (by omega)
  have hd125 := hn1_
  clear hn1_
  go_wp2_with fail
  have hc_ := laws_heldBlockS.calls k _ _ (markBlockS_mk (1) t57) 1 (1 + (markBlockS_cnt t57 : Nat) : Int) _ (Lk.Sr F65.out).2 (Lk.Sr F65.out).1 H127.out
  simp only [← HL124.out] at hc_
  refine hc_.mono ?_
  clear hc_
  rintro e_ w128 ⟨rfl, ⟨nd_, hd_⟩⟩
  have hb : Below w121.heap.size w121 w128 := by rw [hd_]; exact pw_below_drewN (Below.refl _ _) nd_
  clear hd_
  have hq_ : Below w121.heap.size w121 w128 := ⟨hb.os, hb.tape, hb.output, hb.size, hb.block⟩
  have HZ129 := Aside0.mk (show w121.heap.size ≤ w128.heap.size from hq_.size)
  replace HB := Aside0.mk (below_then HB.out HB.out.size hq_)
  have HA130 := Aside0.mk (show w.heap.size ≤ w128.heap.size from HB.out.size)
  replace F13 := Aside0.mk (Kd.S_below F13.out hq_)
  replace F23 := Aside0.mk (Kd.R_below F23.out hq_)
  replace F34 := Aside0.mk (Kd.S_below F34.out hq_)
  replace F44 := Aside0.mk (Kd.S_below F44.out hq_)
  replace F54 := Aside0.mk (Kd.R_below F54.out hq_)
  replace F65 := Aside0.mk (Kd.S_below F65.out hq_)
  replace F80 := Aside0.mk (Kd.S_below F80.out hq_)
  replace F95 := Aside0.mk (Kd.R_below F95.out hq_)
  clear hq_
  clear hb
  go_wp2_with fail
  refine (laws_toBlockS.calls k _ _ l0 t131 _ (Kd.C_below HR0.out HB.out) HC0.out H132.out).mono ?_
  rintro e_ w133 ⟨v134, rfl, f135, hb⟩
  have hq_ : Below w128.heap.size w128 w133 := ⟨hb.os, hb.tape, hb.output, hb.size, hb.block⟩
  have HZ136 := Aside0.mk (show w128.heap.size ≤ w133.heap.size from hq_.size)
  replace HB := Aside0.mk (below_then HB.out HB.out.size hq_)
  have HA137 := Aside0.mk (show w.heap.size ≤ w133.heap.size from HB.out.size)
  replace F13 := Aside0.mk (Kd.S_below F13.out hq_)
  replace F23 := Aside0.mk (Kd.R_below F23.out hq_)
  replace F34 := Aside0.mk (Kd.S_below F34.out hq_)
  replace F44 := Aside0.mk (Kd.S_below F44.out hq_)
  replace F54 := Aside0.mk (Kd.R_below F54.out hq_)
  replace F65 := Aside0.mk (Kd.S_below F65.out hq_)
  replace F80 := Aside0.mk (Kd.S_below F80.out hq_)
  replace F95 := Aside0.mk (Kd.R_below F95.out hq_)
  clear hq_
  clear hb
  have F138 := Aside0.mk (Lk.newS (b := w128.heap.size) (base := w.heap.size) (Sep := fun k_ => True) f135 (HA130.out) (fun k_ hk_ => hk_))
  clear f135
  obtain ⟨A139, c140, e_⟩ := Kd.S_slice F138.out
  subst e_
  go_wp2_with fail
  refine (laws_toIntS.calls k _ _ l1 t141 _ (Kd.C_below HR1.out HB.out) HC1.out H142.out).mono ?_
  rintro e_ w143 ⟨v144, rfl, f145, hb⟩
  have hq_ : Below w133.heap.size w133 w143 := ⟨hb.os, hb.tape, hb.output, hb.size, hb.block⟩
  have HZ146 := Aside0.mk (show w133.heap.size ≤ w143.heap.size from hq_.size)
  replace HB := Aside0.mk (below_then HB.out HB.out.size hq_)
  have HA147 := Aside0.mk (show w.heap.size ≤ w143.heap.size from HB.out.size)
  replace F13 := Aside0.mk (Kd.S_below F13.out hq_)
  replace F23 := Aside0.mk (Kd.R_below F23.out hq_)
  replace F34 := Aside0.mk (Kd.S_below F34.out hq_)
  replace F44 := Aside0.mk (Kd.S_below F44.out hq_)
  replace F54 := Aside0.mk (Kd.R_below F54.out hq_)
  replace F65 := Aside0.mk (Kd.S_below F65.out hq_)
  replace F80 := Aside0.mk (Kd.S_below F80.out hq_)
  replace F95 := Aside0.mk (Kd.R_below F95.out hq_)
  replace F138 := Aside0.mk (Kd.S_below F138.out hq_)
  clear hq_
  clear hb
  have F148 := Aside0.mk (Lk.newR (b := w133.heap.size) (base := w.heap.size) (Sep := fun k_ => True) rfl f145 (HA137.out) (fun k_ hk_ => hk_))
  clear f145
  obtain ⟨A149, c150, e_⟩ := Kd.R_slice F148.out
  subst e_
  go_wp2_with fail
  refine (impl_LayFlow.calls k _ _ t131 _ _ t141 t151 t27 _ (Lk.Sr F138.out).2 (Lk.Sr F138.out).1 (Lk.Rr F148.out).2 (Lk.Rr F148.out).1 H153.out).mono ?_
  rintro e_ w154 ⟨v155, rfl, f156, hb⟩
  have hq_ : Below w143.heap.size w143 w154 := ⟨hb.os, hb.tape, hb.output, hb.size, hb.block⟩
  have HZ157 := Aside0.mk (show w143.heap.size ≤ w154.heap.size from hq_.size)
  replace HB := Aside0.mk (below_then HB.out HB.out.size hq_)
  have HA158 := Aside0.mk (show w.heap.size ≤ w154.heap.size from HB.out.size)
  replace F13 := Aside0.mk (Kd.S_below F13.out hq_)
  replace F23 := Aside0.mk (Kd.R_below F23.out hq_)
  replace F34 := Aside0.mk (Kd.S_below F34.out hq_)
  replace F44 := Aside0.mk (Kd.S_below F44.out hq_)
  replace F54 := Aside0.mk (Kd.R_below F54.out hq_)
  replace F65 := Aside0.mk (Kd.S_below F65.out hq_)
  replace F80 := Aside0.mk (Kd.S_below F80.out hq_)
  replace F95 := Aside0.mk (Kd.R_below F95.out hq_)
  replace F138 := Aside0.mk (Kd.S_below F138.out hq_)
  replace F148 := Aside0.mk (Kd.R_below F148.out hq_)
  clear hq_
  clear hb
  have F159 := Aside0.mk (Lk.newS (b := w143.heap.size) (base := w.heap.size) (Sep := fun k_ => True) f156 (HA147.out) (fun k_ hk_ => hk_))
  clear f156
  obtain ⟨A160, c161, e_⟩ := Kd.S_slice F159.out
  subst e_
  go_wp2_with fail
  refine (laws_eqBlockS.calls k _ _ t151 _ _ t26 true _ (Lk.Sr F159.out).2 (Lk.Sr F159.out).1 (Lk.Sr F34.out).2 (Lk.Sr F34.out).1 H163.out).mono ?_
  rintro e_ w164 ⟨rfl, hb⟩
  have hq_ : Below w154.heap.size w154 w164 := ⟨hb.os, hb.tape, hb.output, hb.size, hb.block⟩
  have HZ165 := Aside0.mk (show w154.heap.size ≤ w164.heap.size from hq_.size)
  replace HB := Aside0.mk (below_then HB.out HB.out.size hq_)
  have HA166 := Aside0.mk (show w.heap.size ≤ w164.heap.size from HB.out.size)
  replace F13 := Aside0.mk (Kd.S_below F13.out hq_)
  replace F23 := Aside0.mk (Kd.R_below F23.out hq_)
  replace F34 := Aside0.mk (Kd.S_below F34.out hq_)
  replace F44 := Aside0.mk (Kd.S_below F44.out hq_)
  replace F54 := Aside0.mk (Kd.R_below F54.out hq_)
  replace F65 := Aside0.mk (Kd.S_below F65.out hq_)
  replace F80 := Aside0.mk (Kd.S_below F80.out hq_)
  replace F95 := Aside0.mk (Kd.R_below F95.out hq_)
  replace F138 := Aside0.mk (Kd.S_below F138.out hq_)
  replace F148 := Aside0.mk (Kd.R_below F148.out hq_)
  replace F159 := Aside0.mk (Kd.S_below F159.out hq_)
  clear hq_
  clear hb
  go_wp2_with fail
  have hc_ := laws_heldBlockS.calls k _ _ (markBlockS_mk (1) t57) 1 (1 + (markBlockS_cnt t57 : Nat) : Int) _ (Lk.Sr F65.out).2 (Lk.Sr F65.out).1 H168.out
  simp only [← HL124.out] at hc_
  refine hc_.mono ?_
  clear hc_
  rintro e_ w169 ⟨rfl, ⟨nd_, hd_⟩⟩
  have hb : Below w164.heap.size w164 w169 := by rw [hd_]; exact pw_below_drewN (Below.refl _ _) nd_
  clear hd_
  have hq_ : Below w164.heap.size w164 w169 := ⟨hb.os, hb.tape, hb.output, hb.size, hb.block⟩
  have HZ170 := Aside0.mk (show w164.heap.size ≤ w169.heap.size from hq_.size)
  replace HB := Aside0.mk (below_then HB.out HB.out.size hq_)
  have HA171 := Aside0.mk (show w.heap.size ≤ w169.heap.size from HB.out.size)
  replace F13 := Aside0.mk (Kd.S_below F13.out hq_)
  replace F23 := Aside0.mk (Kd.R_below F23.out hq_)
  replace F34 := Aside0.mk (Kd.S_below F34.out hq_)
  replace F44 := Aside0.mk (Kd.S_below F44.out hq_)
  replace F54 := Aside0.mk (Kd.R_below F54.out hq_)
  replace F65 := Aside0.mk (Kd.S_below F65.out hq_)
  replace F80 := Aside0.mk (Kd.S_below F80.out hq_)
  replace F95 := Aside0.mk (Kd.R_below F95.out hq_)
  replace F138 := Aside0.mk (Kd.S_below F138.out hq_)
  replace F148 := Aside0.mk (Kd.R_below F148.out hq_)
  replace F159 := Aside0.mk (Kd.S_below F159.out hq_)
  clear hq_
  clear hb
  go_wp2_with fail
  go_ret
  exact ⟨rfl, HB.out⟩
end Go.Proofs.Ytpnhlccdhflogaa.Q
