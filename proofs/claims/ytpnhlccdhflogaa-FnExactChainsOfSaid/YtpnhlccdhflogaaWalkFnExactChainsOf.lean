/- The law FnExactChainsOf of this seat: the walk along its one way. Conditions: none. -/
import Derived.Test.YtpnhlccdhflogaaQx0
import Derived.Test.YtpnhlccdhflogaaQx1
import Derived.Test.YtpnhlccdhflogaaQx3
import Derived.Test.YtpnhlccdhflogaaQx6
import Derived.Test.YtpnhlccdhflogaaQx7
import Derived.Test.YtpnhlccdhflogaaGoodFnExactChainsOf
import Derived.Test.YtpnhlccdhflogaaLk
namespace Go.Proofs.Ytpnhlccdhflogaa.Q
open Go.RowKit Go.Proofs.YtpnhlccdhflogaaW.PrintWords Go.Proofs.YtpnhlccdhflogaaW.PrintLast Go.Proofs.YtpnhlccdhflogaaW.PrintMore
set_option linter.unusedVariables false
set_option linter.unusedSimpArgs false
open Lk in
set_option maxHeartbeats 8000000 in
set_option maxRecDepth 100000 in
theorem laws_FnExactChainsOf.calls (k : Nat) (a0 : Int) (A1 : Option Addr) (c1 : Nat) (l1 : List (S77)) (r : Bool) (w : World) (hr1 : Kd.C k77 w A1 l1.length l1) (hc1 : l1.length ≤ c1) (h : laws_FnExactChainsOf.f k a0 l1 = some r) :
    Calls Try.prog 3 #[.int .i64 a0, .slice A1 l1.length c1] w fun e w' => e = .returned (.bool r) ∧ Below w.heap.size w w' := by
  unfold laws_FnExactChainsOf.f at h
  split at h
  case isFalse => cases h
  rename_i hg
  obtain rfl := Option.some.inj h
  clear h
  have HR1 := Aside0.mk hr1
  have HC1 := Aside0.mk hc1
  clear hr1 hc1
  have HB := Aside0.mk (Below.refl w.heap.size w)
  unfold laws_FnExactChainsOf.good at hg
  obtain ⟨t1, H20, hg⟩ := hg
  have H2 := Aside0.mk H20
  clear H20
  rcases hg with hs | ⟨hs, hg⟩
  · have hs1_ : decide (t1 < 0) = true := decide_eq_true hs
    clear hs
    go_enter Try.func3, Try.ntmps3
    go_wp2_with fail
    refine (laws_szEdgeS.calls _ _ l1 1048576 t1 _ (Kd.C_below HR1.out HB.out) HC1.out H2.out).mono ?_
    rintro e_ w3 ⟨rfl, ⟨nd_, hd_⟩⟩
    have hb : Below w.heap.size w w3 := by rw [hd_]; exact pw_below_drewN (Below.refl _ _) nd_
    clear hd_
    have hq_ : Below w.heap.size w w3 := ⟨hb.os, hb.tape, hb.output, hb.size, hb.block⟩
    have HZ4 := Aside0.mk (show w.heap.size ≤ w3.heap.size from hq_.size)
    replace HB := Aside0.mk (below_then HB.out HB.out.size hq_)
    have HA5 := Aside0.mk (show w.heap.size ≤ w3.heap.size from HB.out.size)
    clear hq_
    clear hb
    go_wp2_with fail
    go_ret
    exact ⟨rfl, by repeat first | exact HB.out | apply below_alloc⟩
  have hs2_ : decide (t1 < 0) = false := decide_eq_false hs
  clear hs
  obtain ⟨t6, H70, t16, t17, H180, t27, H280, t37, H390, H490, t53, H540, H640, t69, t70, H710, H720, H770, H820, H870, t91, H920, t101, H1030, H1130, H1180, hg⟩ := hg
  have H7 := Aside0.mk H70
  clear H70
  have H18 := Aside0.mk H180
  clear H180
  have H28 := Aside0.mk H280
  clear H280
  have H39 := Aside0.mk H390
  clear H390
  have H49 := Aside0.mk H490
  clear H490
  have H54 := Aside0.mk H540
  clear H540
  have H64 := Aside0.mk H640
  clear H640
  have H71 := Aside0.mk H710
  clear H710
  have H72 := Aside0.mk H720
  clear H720
  have H77 := Aside0.mk H770
  clear H770
  have H82 := Aside0.mk H820
  clear H820
  have H87 := Aside0.mk H870
  clear H870
  have H92 := Aside0.mk H920
  clear H920
  have H103 := Aside0.mk H1030
  clear H1030
  have H113 := Aside0.mk H1130
  clear H1130
  have H118 := Aside0.mk H1180
  clear H1180
  clear hg
  go_enter Try.func3, Try.ntmps3
  go_wp2_with fail
  refine (laws_szEdgeS.calls _ _ l1 1048576 t1 _ (Kd.C_below HR1.out HB.out) HC1.out H2.out).mono ?_
  rintro e_ w3 ⟨rfl, ⟨nd_, hd_⟩⟩
  have hb : Below w.heap.size w w3 := by rw [hd_]; exact pw_below_drewN (Below.refl _ _) nd_
  clear hd_
  have hq_ : Below w.heap.size w w3 := ⟨hb.os, hb.tape, hb.output, hb.size, hb.block⟩
  have HZ4 := Aside0.mk (show w.heap.size ≤ w3.heap.size from hq_.size)
  replace HB := Aside0.mk (below_then HB.out HB.out.size hq_)
  have HA5 := Aside0.mk (show w.heap.size ≤ w3.heap.size from HB.out.size)
  clear hq_
  clear hb
  go_wp2_with fail
  refine (laws_toEdgeS.calls k _ _ l1 t6 _ (Kd.C_below HR1.out HB.out) HC1.out H7.out).mono ?_
  rintro e_ w8 ⟨v9, rfl, f10, hb⟩
  have hq_ : Below w3.heap.size w3 w8 := ⟨hb.os, hb.tape, hb.output, hb.size, hb.block⟩
  have HZ11 := Aside0.mk (show w3.heap.size ≤ w8.heap.size from hq_.size)
  replace HB := Aside0.mk (below_then HB.out HB.out.size hq_)
  have HA12 := Aside0.mk (show w.heap.size ≤ w8.heap.size from HB.out.size)
  clear hq_
  clear hb
  have F13 := Aside0.mk (Lk.newR (b := w3.heap.size) (base := w.heap.size) (Sep := fun k_ => True) rfl f10 (HA5.out) (fun k_ hk_ => hk_))
  clear f10
  obtain ⟨A14, c15, e_⟩ := Kd.R_slice F13.out
  subst e_
  go_wp2_with fail
  refine (spec_ChainsOf.calls k a0 _ _ t6 t16 t17 _ (Lk.Rr F13.out).2 (Lk.Rr F13.out).1 H18.out).mono ?_
  rintro e_ w19 ⟨v20, rfl, f21, hb⟩
  have hq_ : Below w8.heap.size w8 w19 := ⟨hb.os, hb.tape, hb.output, hb.size, hb.block⟩
  have HZ22 := Aside0.mk (show w8.heap.size ≤ w19.heap.size from hq_.size)
  replace HB := Aside0.mk (below_then HB.out HB.out.size hq_)
  have HA23 := Aside0.mk (show w.heap.size ≤ w19.heap.size from HB.out.size)
  replace F13 := Aside0.mk (Kd.R_below F13.out hq_)
  clear hq_
  clear hb
  have F24 := Aside0.mk (Lk.newN (b := w8.heap.size) (base := w.heap.size) (Sep := fun k_ => True) f21 (HA12.out) (fun k_ hk_ => ⟨hk_, trivial⟩))
  clear f21
  obtain ⟨A25, c26, e_⟩ := Kd.N_slice F24.out
  subst e_
  go_wp2_with fail
  refine (laws_toEdgeS.calls k _ _ l1 t27 _ (Kd.C_below HR1.out HB.out) HC1.out H28.out).mono ?_
  rintro e_ w29 ⟨v30, rfl, f31, hb⟩
  have hq_ : Below w19.heap.size w19 w29 := ⟨hb.os, hb.tape, hb.output, hb.size, hb.block⟩
  have HZ32 := Aside0.mk (show w19.heap.size ≤ w29.heap.size from hq_.size)
  replace HB := Aside0.mk (below_then HB.out HB.out.size hq_)
  have HA33 := Aside0.mk (show w.heap.size ≤ w29.heap.size from HB.out.size)
  replace F13 := Aside0.mk (Kd.R_below F13.out hq_)
  replace F24 := Aside0.mk (Kd.N_below F24.out hq_)
  clear hq_
  clear hb
  have F34 := Aside0.mk (Lk.newR (b := w19.heap.size) (base := w.heap.size) (Sep := fun k_ => True) rfl f31 (HA23.out) (fun k_ hk_ => hk_))
  clear f31
  obtain ⟨A35, c36, e_⟩ := Kd.R_slice F34.out
  subst e_
  go_wp2_with fail
  refine (impl_ChainsOf.calls a0 _ _ t27 t37 t17 _ (Lk.Rr F34.out).2 (Lk.Rr F34.out).1 H39.out).mono ?_
  rintro e_ w40 ⟨v41, rfl, f42, hb⟩
  have hq_ : Below w29.heap.size w29 w40 := ⟨hb.os, hb.tape, hb.output, hb.size, hb.block⟩
  have HZ43 := Aside0.mk (show w29.heap.size ≤ w40.heap.size from hq_.size)
  replace HB := Aside0.mk (below_then HB.out HB.out.size hq_)
  have HA44 := Aside0.mk (show w.heap.size ≤ w40.heap.size from HB.out.size)
  replace F13 := Aside0.mk (Kd.R_below F13.out hq_)
  replace F24 := Aside0.mk (Kd.N_below F24.out hq_)
  replace F34 := Aside0.mk (Kd.R_below F34.out hq_)
  clear hq_
  clear hb
  have F45 := Aside0.mk (Lk.newS (b := w29.heap.size) (base := w.heap.size) (Sep := fun k_ => True) f42 (HA33.out) (fun k_ hk_ => hk_))
  clear f42
  obtain ⟨A46, c47, e_⟩ := Kd.S_slice F45.out
  subst e_
  go_wp2_with fail
  refine (laws_eqIntSS.calls k _ _ t37 _ _ t16 true _ (Lk.Sr F45.out).2 (Lk.Sr F45.out).1 (Lk.Nr F24.out).2 (Lk.Nr F24.out).1 H49.out).mono ?_
  rintro e_ w50 ⟨rfl, ⟨nd_, hd_⟩⟩
  have hb : Below w40.heap.size w40 w50 := by rw [hd_]; exact pw_below_drewN (Below.refl _ _) nd_
  clear hd_
  have hq_ : Below w40.heap.size w40 w50 := ⟨hb.os, hb.tape, hb.output, hb.size, hb.block⟩
  have HZ51 := Aside0.mk (show w40.heap.size ≤ w50.heap.size from hq_.size)
  replace HB := Aside0.mk (below_then HB.out HB.out.size hq_)
  have HA52 := Aside0.mk (show w.heap.size ≤ w50.heap.size from HB.out.size)
  replace F13 := Aside0.mk (Kd.R_below F13.out hq_)
  replace F24 := Aside0.mk (Kd.N_below F24.out hq_)
  replace F34 := Aside0.mk (Kd.R_below F34.out hq_)
  replace F45 := Aside0.mk (Kd.S_below F45.out hq_)
  clear hq_
  clear hb
  go_wp2_with fail
  refine (laws_toEdgeS.calls k _ _ l1 t53 _ (Kd.C_below HR1.out HB.out) HC1.out H54.out).mono ?_
  rintro e_ w55 ⟨v56, rfl, f57, hb⟩
  have hq_ : Below w50.heap.size w50 w55 := ⟨hb.os, hb.tape, hb.output, hb.size, hb.block⟩
  have HZ58 := Aside0.mk (show w50.heap.size ≤ w55.heap.size from hq_.size)
  replace HB := Aside0.mk (below_then HB.out HB.out.size hq_)
  have HA59 := Aside0.mk (show w.heap.size ≤ w55.heap.size from HB.out.size)
  replace F13 := Aside0.mk (Kd.R_below F13.out hq_)
  replace F24 := Aside0.mk (Kd.N_below F24.out hq_)
  replace F34 := Aside0.mk (Kd.R_below F34.out hq_)
  replace F45 := Aside0.mk (Kd.S_below F45.out hq_)
  clear hq_
  clear hb
  have F60 := Aside0.mk (Lk.newR (b := w50.heap.size) (base := w.heap.size) (Sep := fun k_ => True) rfl f57 (HA52.out) (fun k_ hk_ => hk_))
  clear f57
  obtain ⟨A61, c62, e_⟩ := Kd.R_slice F60.out
  subst e_
  go_wp2_with fail
  refine (laws_eqEdgeS.calls k _ _ t27 _ _ t53 true _ (Lk.Rr F34.out).2 (Lk.Rr F34.out).1 (Lk.Rr F60.out).2 (Lk.Rr F60.out).1 H64.out).mono ?_
  rintro e_ w65 ⟨rfl, hb⟩
  have hq_ : Below w55.heap.size w55 w65 := ⟨hb.os, hb.tape, hb.output, hb.size, hb.block⟩
  have HZ66 := Aside0.mk (show w55.heap.size ≤ w65.heap.size from hq_.size)
  replace HB := Aside0.mk (below_then HB.out HB.out.size hq_)
  have HA67 := Aside0.mk (show w.heap.size ≤ w65.heap.size from HB.out.size)
  replace F13 := Aside0.mk (Kd.R_below F13.out hq_)
  replace F24 := Aside0.mk (Kd.N_below F24.out hq_)
  replace F34 := Aside0.mk (Kd.R_below F34.out hq_)
  replace F45 := Aside0.mk (Kd.S_below F45.out hq_)
  replace F60 := Aside0.mk (Kd.R_below F60.out hq_)
  clear hq_
  clear hb
  go_wp2_with fail
  refine (laws_markEdgeS.calls k (fun k_ => (w19.heap.size ≤ k_ ∧ k_ < w29.heap.size) ∧ some k_ = (.slice A35 t27.length c36 : Value).ownBlock ∧ (True)) _ t27 1 t69 t70 w _ HB.out F34.out H71.out).mono ?_
  rintro e_ w68 ⟨rfl, f0_, hb0_, hk_⟩
  have hk2_ : Kept w65 w68 (fun k_ => w19.heap.size ≤ k_ ∧ k_ < w29.heap.size) := Kept.mono hk_ (fun k_ h_ => by first | exact h_ | exact h_.1)
  have HZ73 := Aside0.mk (show w65.heap.size ≤ w68.heap.size from hk2_.1)
  clear HB
  have HB := Aside0.mk hb0_
  have hn_ := Aside0.mk (Kd.R_kept F13.out hk2_ (fun k_ h1_ h2_ => by skip; have := HZ22.out; have h3_ := h1_.1; omega))
  clear F13
  have F13 := hn_
  clear hn_
  have hn_ := Aside0.mk (Kd.N_kept F24.out hk2_ (fun k_ h1_ h2_ => by skip; have h3_ := h1_.1; omega))
  clear F24
  have F24 := hn_
  clear hn_
  have hn_ := Aside0.mk (Kd.S_kept F45.out hk2_ (fun k_ h1_ h2_ => by skip; have h3_ := h1_.1; omega))
  clear F45
  have F45 := hn_
  clear hn_
  have hn_ := Aside0.mk (Kd.R_kept F60.out hk2_ (fun k_ h1_ h2_ => by skip; have := HZ43.out; have := HZ51.out; have h3_ := h1_.1; omega))
  clear F60
  have F60 := hn_
  clear hn_
  have hn_ := Aside0.mk (Lk.markedR rfl f0_ (fun k_ e_ => (show (w19.heap.size ≤ k_ ∧ k_ < w29.heap.size) ∧ some k_ = (.slice A35 t27.length c36 : Value).ownBlock ∧ (True) from (F34.out.1 k_ e_.symm))))
  have F34n := hn_
  clear hn_
  clear F34
  have F34 := F34n
  clear F34n
  clear hk2_ hk_ hb0_ f0_
  have hl74 := (Kd.R_reads' F34.out).1
  have HL74 := Aside0.mk hl74
  clear hl74
  have hn1_ : decide (t69 < 0) = false := decide_eq_false (by have := H72.out; omega)
  have hd75 := hn1_
  clear hn1_
  go_wp2_with fail
  refine (laws_eqIntSS.calls k _ _ t37 _ _ t16 true _ (Lk.Sr F45.out).2 (Lk.Sr F45.out).1 (Lk.Nr F24.out).2 (Lk.Nr F24.out).1 H77.out).mono ?_
  rintro e_ w78 ⟨rfl, ⟨nd_, hd_⟩⟩
  have hb : Below w68.heap.size w68 w78 := by rw [hd_]; exact pw_below_drewN (Below.refl _ _) nd_
  clear hd_
  have hq_ : Below w68.heap.size w68 w78 := ⟨hb.os, hb.tape, hb.output, hb.size, hb.block⟩
  have HZ79 := Aside0.mk (show w68.heap.size ≤ w78.heap.size from hq_.size)
  replace HB := Aside0.mk (below_then HB.out HB.out.size hq_)
  have HA80 := Aside0.mk (show w.heap.size ≤ w78.heap.size from HB.out.size)
  replace F13 := Aside0.mk (Kd.R_below F13.out hq_)
  replace F24 := Aside0.mk (Kd.N_below F24.out hq_)
  replace F34 := Aside0.mk (Kd.R_below F34.out hq_)
  replace F45 := Aside0.mk (Kd.S_below F45.out hq_)
  replace F60 := Aside0.mk (Kd.R_below F60.out hq_)
  clear hq_
  clear hb
  go_wp2_with fail
  have hn_ := H82.out
  refine (laws_markIntSS.calls (fun k_ => (w29.heap.size ≤ k_ ∧ k_ < w40.heap.size) ∧ (True)) _ t37 1 w _ HB.out F45.out (by omega) hn_).mono ?_
  rintro e_ w81 ⟨rfl, f0_, hb0_, hk_⟩
  have hk2_ : Kept w78 w81 (fun k_ => w29.heap.size ≤ k_ ∧ k_ < w40.heap.size) := Kept.mono hk_ (fun k_ h_ => by first | exact h_ | exact h_.1)
  have HZ83 := Aside0.mk (show w78.heap.size ≤ w81.heap.size from hk2_.1)
  clear HB
  have HB := Aside0.mk hb0_
  have hn_ := Aside0.mk (Kd.R_kept F13.out hk2_ (fun k_ h1_ h2_ => by skip; have := HZ22.out; have := HZ32.out; have h3_ := h1_.1; omega))
  clear F13
  have F13 := hn_
  clear hn_
  have hn_ := Aside0.mk (Kd.N_kept F24.out hk2_ (fun k_ h1_ h2_ => by skip; have := HZ32.out; have h3_ := h1_.1; omega))
  clear F24
  have F24 := hn_
  clear hn_
  have hn_ := Aside0.mk (Kd.R_kept F34.out hk2_ (fun k_ h1_ h2_ => by skip; have h3_ := h1_.1; omega))
  clear F34
  have F34 := hn_
  clear hn_
  have hn_ := Aside0.mk (Kd.R_kept F60.out hk2_ (fun k_ h1_ h2_ => by skip; have := HZ51.out; have h3_ := h1_.1; omega))
  clear F60
  have F60 := hn_
  clear hn_
  have hn_ := Aside0.mk (f0_)
  have F45n := hn_
  clear hn_
  clear F45
  have F45 := F45n
  clear F45n
  clear hk2_ hk_ hb0_ f0_
  have hl84 := (Kd.S_reads' F45.out).1
  have HL84 := Aside0.mk hl84
  clear hl84
  have hn1_ : decide ((1 + (markIntSS_cnt t37 : Nat) : Int) < 0) = false := decide_eq_false (by omega)
  have hd85 := hn1_
  clear hn1_
  go_wp2_with fail
  have hc_ := laws_heldIntSS.calls k _ _ (markIntSS_mk (1) t37) 1 (1 + (markIntSS_cnt t37 : Nat) : Int) _ (Lk.Sr F45.out).2 (Lk.Sr F45.out).1 H87.out
  simp only [← HL84.out] at hc_
  refine hc_.mono ?_
  clear hc_
  rintro e_ w88 ⟨rfl, ⟨nd_, hd_⟩⟩
  have hb : Below w81.heap.size w81 w88 := by rw [hd_]; exact pw_below_drewN (Below.refl _ _) nd_
  clear hd_
  have hq_ : Below w81.heap.size w81 w88 := ⟨hb.os, hb.tape, hb.output, hb.size, hb.block⟩
  have HZ89 := Aside0.mk (show w81.heap.size ≤ w88.heap.size from hq_.size)
  replace HB := Aside0.mk (below_then HB.out HB.out.size hq_)
  have HA90 := Aside0.mk (show w.heap.size ≤ w88.heap.size from HB.out.size)
  replace F13 := Aside0.mk (Kd.R_below F13.out hq_)
  replace F24 := Aside0.mk (Kd.N_below F24.out hq_)
  replace F34 := Aside0.mk (Kd.R_below F34.out hq_)
  replace F45 := Aside0.mk (Kd.S_below F45.out hq_)
  replace F60 := Aside0.mk (Kd.R_below F60.out hq_)
  clear hq_
  clear hb
  go_wp2_with fail
  refine (laws_toEdgeS.calls k _ _ l1 t91 _ (Kd.C_below HR1.out HB.out) HC1.out H92.out).mono ?_
  rintro e_ w93 ⟨v94, rfl, f95, hb⟩
  have hq_ : Below w88.heap.size w88 w93 := ⟨hb.os, hb.tape, hb.output, hb.size, hb.block⟩
  have HZ96 := Aside0.mk (show w88.heap.size ≤ w93.heap.size from hq_.size)
  replace HB := Aside0.mk (below_then HB.out HB.out.size hq_)
  have HA97 := Aside0.mk (show w.heap.size ≤ w93.heap.size from HB.out.size)
  replace F13 := Aside0.mk (Kd.R_below F13.out hq_)
  replace F24 := Aside0.mk (Kd.N_below F24.out hq_)
  replace F34 := Aside0.mk (Kd.R_below F34.out hq_)
  replace F45 := Aside0.mk (Kd.S_below F45.out hq_)
  replace F60 := Aside0.mk (Kd.R_below F60.out hq_)
  clear hq_
  clear hb
  have F98 := Aside0.mk (Lk.newR (b := w88.heap.size) (base := w.heap.size) (Sep := fun k_ => True) rfl f95 (HA90.out) (fun k_ hk_ => hk_))
  clear f95
  obtain ⟨A99, c100, e_⟩ := Kd.R_slice F98.out
  subst e_
  go_wp2_with fail
  refine (impl_ChainsOf.calls a0 _ _ t91 t101 t17 _ (Lk.Rr F98.out).2 (Lk.Rr F98.out).1 H103.out).mono ?_
  rintro e_ w104 ⟨v105, rfl, f106, hb⟩
  have hq_ : Below w93.heap.size w93 w104 := ⟨hb.os, hb.tape, hb.output, hb.size, hb.block⟩
  have HZ107 := Aside0.mk (show w93.heap.size ≤ w104.heap.size from hq_.size)
  replace HB := Aside0.mk (below_then HB.out HB.out.size hq_)
  have HA108 := Aside0.mk (show w.heap.size ≤ w104.heap.size from HB.out.size)
  replace F13 := Aside0.mk (Kd.R_below F13.out hq_)
  replace F24 := Aside0.mk (Kd.N_below F24.out hq_)
  replace F34 := Aside0.mk (Kd.R_below F34.out hq_)
  replace F45 := Aside0.mk (Kd.S_below F45.out hq_)
  replace F60 := Aside0.mk (Kd.R_below F60.out hq_)
  replace F98 := Aside0.mk (Kd.R_below F98.out hq_)
  clear hq_
  clear hb
  have F109 := Aside0.mk (Lk.newS (b := w93.heap.size) (base := w.heap.size) (Sep := fun k_ => True) f106 (HA97.out) (fun k_ hk_ => hk_))
  clear f106
  obtain ⟨A110, c111, e_⟩ := Kd.S_slice F109.out
  subst e_
  go_wp2_with fail
  refine (laws_eqIntSS.calls k _ _ t101 _ _ t16 true _ (Lk.Sr F109.out).2 (Lk.Sr F109.out).1 (Lk.Nr F24.out).2 (Lk.Nr F24.out).1 H113.out).mono ?_
  rintro e_ w114 ⟨rfl, ⟨nd_, hd_⟩⟩
  have hb : Below w104.heap.size w104 w114 := by rw [hd_]; exact pw_below_drewN (Below.refl _ _) nd_
  clear hd_
  have hq_ : Below w104.heap.size w104 w114 := ⟨hb.os, hb.tape, hb.output, hb.size, hb.block⟩
  have HZ115 := Aside0.mk (show w104.heap.size ≤ w114.heap.size from hq_.size)
  replace HB := Aside0.mk (below_then HB.out HB.out.size hq_)
  have HA116 := Aside0.mk (show w.heap.size ≤ w114.heap.size from HB.out.size)
  replace F13 := Aside0.mk (Kd.R_below F13.out hq_)
  replace F24 := Aside0.mk (Kd.N_below F24.out hq_)
  replace F34 := Aside0.mk (Kd.R_below F34.out hq_)
  replace F45 := Aside0.mk (Kd.S_below F45.out hq_)
  replace F60 := Aside0.mk (Kd.R_below F60.out hq_)
  replace F98 := Aside0.mk (Kd.R_below F98.out hq_)
  replace F109 := Aside0.mk (Kd.S_below F109.out hq_)
  clear hq_
  clear hb
  go_wp2_with fail
  have hc_ := laws_heldIntSS.calls k _ _ (markIntSS_mk (1) t37) 1 (1 + (markIntSS_cnt t37 : Nat) : Int) _ (Lk.Sr F45.out).2 (Lk.Sr F45.out).1 H118.out
  simp only [← HL84.out] at hc_
  refine hc_.mono ?_
  clear hc_
  rintro e_ w119 ⟨rfl, ⟨nd_, hd_⟩⟩
  have hb : Below w114.heap.size w114 w119 := by rw [hd_]; exact pw_below_drewN (Below.refl _ _) nd_
  clear hd_
  have hq_ : Below w114.heap.size w114 w119 := ⟨hb.os, hb.tape, hb.output, hb.size, hb.block⟩
  have HZ120 := Aside0.mk (show w114.heap.size ≤ w119.heap.size from hq_.size)
  replace HB := Aside0.mk (below_then HB.out HB.out.size hq_)
  have HA121 := Aside0.mk (show w.heap.size ≤ w119.heap.size from HB.out.size)
  replace F13 := Aside0.mk (Kd.R_below F13.out hq_)
  replace F24 := Aside0.mk (Kd.N_below F24.out hq_)
  replace F34 := Aside0.mk (Kd.R_below F34.out hq_)
  replace F45 := Aside0.mk (Kd.S_below F45.out hq_)
  replace F60 := Aside0.mk (Kd.R_below F60.out hq_)
  replace F98 := Aside0.mk (Kd.R_below F98.out hq_)
  replace F109 := Aside0.mk (Kd.S_below F109.out hq_)
  clear hq_
  clear hb
  go_wp2_with fail
  go_ret
  exact ⟨rfl, HB.out⟩
end Go.Proofs.Ytpnhlccdhflogaa.Q
