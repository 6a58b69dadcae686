/- The law FnExactBestCover of this seat: the walk along its one way. Conditions: none. -/
import Derived.Test.YtfdbdbihhgabpaaQx0
import Derived.Test.YtfdbdbihhgabpaaQx1
import Derived.Test.YtfdbdbihhgabpaaQx3
import Derived.Test.YtfdbdbihhgabpaaQx6
import Derived.Test.YtfdbdbihhgabpaaQx7
import Derived.Test.YtfdbdbihhgabpaaQx8
import Derived.Test.YtfdbdbihhgabpaaGoodFnExactBestCover
import Derived.Test.YtfdbdbihhgabpaaLk
namespace Go.Proofs.Ytfdbdbihhgabpaa.Q
open Go.RowKit Go.Proofs.YtfdbdbihhgabpaaW.PrintWords Go.Proofs.YtfdbdbihhgabpaaW.PrintLast Go.Proofs.YtfdbdbihhgabpaaW.PrintMore
set_option linter.unusedVariables false
set_option linter.unusedSimpArgs false
open Lk in
set_option maxHeartbeats 8000000 in
set_option maxRecDepth 100000 in
theorem laws_FnExactBestCover.calls (k : Nat) (A0 : Option Addr) (c0 : Nat) (l0 : List Int) (A1 : Option Addr) (c1 : Nat) (l1 : List (S52)) (r : Bool) (w : World) (hr0 : Kd.C (Kd.int .i64) w A0 l0.length l0) (hc0 : l0.length ≤ c0) (hr1 : Kd.C k52 w A1 l1.length l1) (hc1 : l1.length ≤ c1) (h : laws_FnExactBestCover.f k l0 l1 = some r) :
    Calls Try.prog 3 #[.slice A0 l0.length c0, .slice A1 l1.length c1] w fun e w' => e = .returned (.bool r) ∧ Below w.heap.size w w' := by
  unfold laws_FnExactBestCover.f at h
  split at h
  case isFalse => cases h
  rename_i hg
  obtain rfl := Option.some.inj h
  clear h
  have HR0 := Aside0.mk hr0
  have HC0 := Aside0.mk hc0
  clear hr0 hc0
  have HR1 := Aside0.mk hr1
  have HC1 := Aside0.mk hc1
  clear hr1 hc1
  have HB := Aside0.mk (Below.refl w.heap.size w)
  unfold laws_FnExactBestCover.good at hg
  skip
  rcases hg with hs | ⟨hs, hg⟩
  · have hs1_ : decide (1048576 < (l0.length : Int)) = true := decide_eq_true hs
    have hs1n_ : decide (1048576 < l0.length) = true := decide_eq_true (by omega)
    clear hs
    go_enter Try.func3, Try.ntmps3
    go_wp2_with fail
    go_ret
    exact ⟨rfl, by repeat first | exact HB.out | apply below_alloc⟩
  have hs2_ : decide (1048576 < (l0.length : Int)) = false := decide_eq_false hs
  have hs2n_ : decide (1048576 < l0.length) = false := decide_eq_false (by omega)
  clear hs
  obtain ⟨t1, H20, hg⟩ := hg
  have H2 := Aside0.mk H20
  clear H20
  rcases hg with hs | ⟨hs, hg⟩
  · have hs1_ : decide (t1 < 0) = true := decide_eq_true hs
    clear hs
    go_enter Try.func3, Try.ntmps3
    go_wp2_with fail
    refine (laws_szPatternS.calls k _ _ l1 1048576 t1 _ (Kd.C_below HR1.out HB.out) HC1.out H2.out).mono ?_
    rintro e_ w3 ⟨rfl, hb⟩
    have hq_ : Below w.heap.size w w3 := ⟨hb.os, hb.tape, hb.output, hb.size, hb.block⟩
    have HZ4 := Aside0.mk (show w.heap.size ≤ w3.heap.size from hq_.size)
    replace HB := Aside0.mk (below_then HB.out HB.out.size hq_)
    have HA5 := Aside0.mk (show w.heap.size ≤ w3.heap.size from HB.out.size)
    clear hq_
    clear hb
    go_wp2_with fail
    go_ret
    exact ⟨rfl, by repeat first | exact HB.out | apply below_alloc⟩
  have hs3_ : decide (t1 < 0) = false := decide_eq_false hs
  clear hs
  obtain ⟨t6, H70, t16, H170, t26, t27, t28, H290, t38, H390, t48, H490, t58, H610, H710, t75, H760, H860, t90, H910, H1010, t106, t107, H1080, H1090, H1140, H1190, t124, t125, H1260, H1270, H1320, t136, H1370, t146, H1470, t156, H1590, H1690, H1740, hg⟩ := hg
  have H7 := Aside0.mk H70
  clear H70
  have H17 := Aside0.mk H170
  clear H170
  have H29 := Aside0.mk H290
  clear H290
  have H39 := Aside0.mk H390
  clear H390
  have H49 := Aside0.mk H490
  clear H490
  have H61 := Aside0.mk H610
  clear H610
  have H71 := Aside0.mk H710
  clear H710
  have H76 := Aside0.mk H760
  clear H760
  have H86 := Aside0.mk H860
  clear H860
  have H91 := Aside0.mk H910
  clear H910
  have H101 := Aside0.mk H1010
  clear H1010
  have H108 := Aside0.mk H1080
  clear H1080
  have H109 := Aside0.mk H1090
  clear H1090
  have H114 := Aside0.mk H1140
  clear H1140
  have H119 := Aside0.mk H1190
  clear H1190
  have H126 := Aside0.mk H1260
  clear H1260
  have H127 := Aside0.mk H1270
  clear H1270
  have H132 := Aside0.mk H1320
  clear H1320
  have H137 := Aside0.mk H1370
  clear H1370
  have H147 := Aside0.mk H1470
  clear H1470
  have H159 := Aside0.mk H1590
  clear H1590
  have H169 := Aside0.mk H1690
  clear H1690
  have H174 := Aside0.mk H1740
  clear H1740
  clear hg
  go_enter Try.func3, Try.ntmps3
  go_wp2_with fail
  refine (laws_szPatternS.calls k _ _ l1 1048576 t1 _ (Kd.C_below HR1.out HB.out) HC1.out H2.out).mono ?_
  rintro e_ w3 ⟨rfl, hb⟩
  have hq_ : Below w.heap.size w w3 := ⟨hb.os, hb.tape, hb.output, hb.size, hb.block⟩
  have HZ4 := Aside0.mk (show w.heap.size ≤ w3.heap.size from hq_.size)
  replace HB := Aside0.mk (below_then HB.out HB.out.size hq_)
  have HA5 := Aside0.mk (show w.heap.size ≤ w3.heap.size from HB.out.size)
  clear hq_
  clear hb
  go_wp2_with fail
  refine (laws_toIntS.calls k _ _ l0 t6 _ (Kd.C_below HR0.out HB.out) HC0.out H7.out).mono ?_
  rintro e_ w8 ⟨v9, rfl, f10, hb⟩
  have hq_ : Below w3.heap.size w3 w8 := ⟨hb.os, hb.tape, hb.output, hb.size, hb.block⟩
  have HZ11 := Aside0.mk (show w3.heap.size ≤ w8.heap.size from hq_.size)
  replace HB := Aside0.mk (below_then HB.out HB.out.size hq_)
  have HA12 := Aside0.mk (show w.heap.size ≤ w8.heap.size from HB.out.size)
  clear hq_
  clear hb
  have F13 := Aside0.mk (Lk.newR (b := w3.heap.size) (base := w.heap.size) (Sep := fun k_ => True) rfl f10 (HA5.out) (fun k_ hk_ => hk_))
  clear f10
  obtain ⟨A14, c15, e_⟩ := Kd.R_slice F13.out
  subst e_
  go_wp2_with fail
  refine (laws_toPatternS.calls k _ _ l1 t16 _ (Kd.C_below HR1.out HB.out) HC1.out H17.out).mono ?_
  rintro e_ w18 ⟨v19, rfl, f20, hb⟩
  have hq_ : Below w8.heap.size w8 w18 := ⟨hb.os, hb.tape, hb.output, hb.size, hb.block⟩
  have HZ21 := Aside0.mk (show w8.heap.size ≤ w18.heap.size from hq_.size)
  replace HB := Aside0.mk (below_then HB.out HB.out.size hq_)
  have HA22 := Aside0.mk (show w.heap.size ≤ w18.heap.size from HB.out.size)
  replace F13 := Aside0.mk (Kd.R_below F13.out hq_)
  clear hq_
  clear hb
  have F23 := Aside0.mk (Lk.newS (b := w8.heap.size) (base := w.heap.size) (Sep := fun k_ => True) f20 (HA12.out) (fun k_ hk_ => hk_))
  clear f20
  obtain ⟨A24, c25, e_⟩ := Kd.S_slice F23.out
  subst e_
  go_wp2_with fail
  refine (spec_BestCover.calls k _ _ t6 _ _ t16 t26 t27 t28 _ (Lk.Rr F13.out).2 (Lk.Rr F13.out).1 (Lk.Sr F23.out).2 (Lk.Sr F23.out).1 H29.out).mono ?_
  rintro e_ w30 ⟨v31, rfl, f32, hb⟩
  have hq_ : Below w18.heap.size w18 w30 := ⟨hb.os, hb.tape, hb.output, hb.size, hb.block⟩
  have HZ33 := Aside0.mk (show w18.heap.size ≤ w30.heap.size from hq_.size)
  replace HB := Aside0.mk (below_then HB.out HB.out.size hq_)
  have HA34 := Aside0.mk (show w.heap.size ≤ w30.heap.size from HB.out.size)
  replace F13 := Aside0.mk (Kd.R_below F13.out hq_)
  replace F23 := Aside0.mk (Kd.S_below F23.out hq_)
  clear hq_
  clear hb
  have F35 := Aside0.mk (Lk.newR (b := w18.heap.size) (base := w.heap.size) (Sep := fun k_ => True) rfl f32 (HA22.out) (fun k_ hk_ => hk_))
  clear f32
  obtain ⟨A36, c37, e_⟩ := Kd.R_slice F35.out
  subst e_
  go_wp2_with fail
  refine (laws_toIntS.calls k _ _ l0 t38 _ (Kd.C_below HR0.out HB.out) HC0.out H39.out).mono ?_
  rintro e_ w40 ⟨v41, rfl, f42, hb⟩
  have hq_ : Below w30.heap.size w30 w40 := ⟨hb.os, hb.tape, hb.output, hb.size, hb.block⟩
  have HZ43 := Aside0.mk (show w30.heap.size ≤ w40.heap.size from hq_.size)
  replace HB := Aside0.mk (below_then HB.out HB.out.size hq_)
  have HA44 := Aside0.mk (show w.heap.size ≤ w40.heap.size from HB.out.size)
  replace F13 := Aside0.mk (Kd.R_below F13.out hq_)
  replace F23 := Aside0.mk (Kd.S_below F23.out hq_)
  replace F35 := Aside0.mk (Kd.R_below F35.out hq_)
  clear hq_
  clear hb
  have F45 := Aside0.mk (Lk.newR (b := w30.heap.size) (base := w.heap.size) (Sep := fun k_ => True) rfl f42 (HA34.out) (fun k_ hk_ => hk_))
  clear f42
  obtain ⟨A46, c47, e_⟩ := Kd.R_slice F45.out
  subst e_
  go_wp2_with fail
  refine (laws_toPatternS.calls k _ _ l1 t48 _ (Kd.C_below HR1.out HB.out) HC1.out H49.out).mono ?_
  rintro e_ w50 ⟨v51, rfl, f52, hb⟩
  have hq_ : Below w40.heap.size w40 w50 := ⟨hb.os, hb.tape, hb.output, hb.size, hb.block⟩
  have HZ53 := Aside0.mk (show w40.heap.size ≤ w50.heap.size from hq_.size)
  replace HB := Aside0.mk (below_then HB.out HB.out.size hq_)
  have HA54 := Aside0.mk (show w.heap.size ≤ w50.heap.size from HB.out.size)
  replace F13 := Aside0.mk (Kd.R_below F13.out hq_)
  replace F23 := Aside0.mk (Kd.S_below F23.out hq_)
  replace F35 := Aside0.mk (Kd.R_below F35.out hq_)
  replace F45 := Aside0.mk (Kd.R_below F45.out hq_)
  clear hq_
  clear hb
  have F55 := Aside0.mk (Lk.newS (b := w40.heap.size) (base := w.heap.size) (Sep := fun k_ => True) f52 (HA44.out) (fun k_ hk_ => hk_))
  clear f52
  obtain ⟨A56, c57, e_⟩ := Kd.S_slice F55.out
  subst e_
  go_wp2_with fail
  refine (impl_BestCover.calls k _ _ t38 _ _ t48 t58 t27 t28 _ (Lk.Rr F45.out).2 (Lk.Rr F45.out).1 (Lk.Sr F55.out).2 (Lk.Sr F55.out).1 H61.out).mono ?_
  rintro e_ w62 ⟨v63, rfl, f64, hb⟩
  have hq_ : Below w50.heap.size w50 w62 := ⟨hb.os, hb.tape, hb.output, hb.size, hb.block⟩
  have HZ65 := Aside0.mk (show w50.heap.size ≤ w62.heap.size from hq_.size)
  replace HB := Aside0.mk (below_then HB.out HB.out.size hq_)
  have HA66 := Aside0.mk (show w.heap.size ≤ w62.heap.size from HB.out.size)
  replace F13 := Aside0.mk (Kd.R_below F13.out hq_)
  replace F23 := Aside0.mk (Kd.S_below F23.out hq_)
  replace F35 := Aside0.mk (Kd.R_below F35.out hq_)
  replace F45 := Aside0.mk (Kd.R_below F45.out hq_)
  replace F55 := Aside0.mk (Kd.S_below F55.out hq_)
  clear hq_
  clear hb
  have F67 := Aside0.mk (Lk.newR (b := w50.heap.size) (base := w.heap.size) (Sep := fun k_ => True) rfl f64 (HA54.out) (fun k_ hk_ => hk_))
  clear f64
  obtain ⟨A68, c69, e_⟩ := Kd.R_slice F67.out
  subst e_
  go_wp2_with fail
  refine (laws_eqPieceS.calls k _ _ t58 _ _ t26 true _ (Lk.Rr F67.out).2 (Lk.Rr F67.out).1 (Lk.Rr F35.out).2 (Lk.Rr F35.out).1 H71.out).mono ?_
  rintro e_ w72 ⟨rfl, hb⟩
  have hq_ : Below w62.heap.size w62 w72 := ⟨hb.os, hb.tape, hb.output, hb.size, hb.block⟩
  have HZ73 := Aside0.mk (show w62.heap.size ≤ w72.heap.size from hq_.size)
  replace HB := Aside0.mk (below_then HB.out HB.out.size hq_)
  have HA74 := Aside0.mk (show w.heap.size ≤ w72.heap.size from HB.out.size)
  replace F13 := Aside0.mk (Kd.R_below F13.out hq_)
  replace F23 := Aside0.mk (Kd.S_below F23.out hq_)
  replace F35 := Aside0.mk (Kd.R_below F35.out hq_)
  replace F45 := Aside0.mk (Kd.R_below F45.out hq_)
  replace F55 := Aside0.mk (Kd.S_below F55.out hq_)
  replace F67 := Aside0.mk (Kd.R_below F67.out hq_)
  clear hq_
  clear hb
  go_wp2_with fail
  refine (laws_toIntS.calls k _ _ l0 t75 _ (Kd.C_below HR0.out HB.out) HC0.out H76.out).mono ?_
  rintro e_ w77 ⟨v78, rfl, f79, hb⟩
  have hq_ : Below w72.heap.size w72 w77 := ⟨hb.os, hb.tape, hb.output, hb.size, hb.block⟩
  have HZ80 := Aside0.mk (show w72.heap.size ≤ w77.heap.size from hq_.size)
  replace HB := Aside0.mk (below_then HB.out HB.out.size hq_)
  have HA81 := Aside0.mk (show w.heap.size ≤ w77.heap.size from HB.out.size)
  replace F13 := Aside0.mk (Kd.R_below F13.out hq_)
  replace F23 := Aside0.mk (Kd.S_below F23.out hq_)
  replace F35 := Aside0.mk (Kd.R_below F35.out hq_)
  replace F45 := Aside0.mk (Kd.R_below F45.out hq_)
  replace F55 := Aside0.mk (Kd.S_below F55.out hq_)
  replace F67 := Aside0.mk (Kd.R_below F67.out hq_)
  clear hq_
  clear hb
  have F82 := Aside0.mk (Lk.newR (b := w72.heap.size) (base := w.heap.size) (Sep := fun k_ => True) rfl f79 (HA74.out) (fun k_ hk_ => hk_))
  clear f79
  obtain ⟨A83, c84, e_⟩ := Kd.R_slice F82.out
  subst e_
  go_wp2_with fail
  refine (laws_eqIntS.calls k _ _ t38 _ _ t75 true _ (Lk.Rr F45.out).2 (Lk.Rr F45.out).1 (Lk.Rr F82.out).2 (Lk.Rr F82.out).1 H86.out).mono ?_
  rintro e_ w87 ⟨rfl, ⟨nd_, hd_⟩⟩
  have hb : Below w77.heap.size w77 w87 := by rw [hd_]; exact pw_below_drewN (Below.refl _ _) nd_
  clear hd_
  have hq_ : Below w77.heap.size w77 w87 := ⟨hb.os, hb.tape, hb.output, hb.size, hb.block⟩
  have HZ88 := Aside0.mk (show w77.heap.size ≤ w87.heap.size from hq_.size)
  replace HB := Aside0.mk (below_then HB.out HB.out.size hq_)
  have HA89 := Aside0.mk (show w.heap.size ≤ w87.heap.size from HB.out.size)
  replace F13 := Aside0.mk (Kd.R_below F13.out hq_)
  replace F23 := Aside0.mk (Kd.S_below F23.out hq_)
  replace F35 := Aside0.mk (Kd.R_below F35.out hq_)
  replace F45 := Aside0.mk (Kd.R_below F45.out hq_)
  replace F55 := Aside0.mk (Kd.S_below F55.out hq_)
  replace F67 := Aside0.mk (Kd.R_below F67.out hq_)
  replace F82 := Aside0.mk (Kd.R_below F82.out hq_)
  clear hq_
  clear hb
  go_wp2_with fail
  refine (laws_toPatternS.calls k _ _ l1 t90 _ (Kd.C_below HR1.out HB.out) HC1.out H91.out).mono ?_
  rintro e_ w92 ⟨v93, rfl, f94, hb⟩
  have hq_ : Below w87.heap.size w87 w92 := ⟨hb.os, hb.tape, hb.output, hb.size, hb.block⟩
  have HZ95 := Aside0.mk (show w87.heap.size ≤ w92.heap.size from hq_.size)
  replace HB := Aside0.mk (below_then HB.out HB.out.size hq_)
  have HA96 := Aside0.mk (show w.heap.size ≤ w92.heap.size from HB.out.size)
  replace F13 := Aside0.mk (Kd.R_below F13.out hq_)
  replace F23 := Aside0.mk (Kd.S_below F23.out hq_)
  replace F35 := Aside0.mk (Kd.R_below F35.out hq_)
  replace F45 := Aside0.mk (Kd.R_below F45.out hq_)
  replace F55 := Aside0.mk (Kd.S_below F55.out hq_)
  replace F67 := Aside0.mk (Kd.R_below F67.out hq_)
  replace F82 := Aside0.mk (Kd.R_below F82.out hq_)
  clear hq_
  clear hb
  have F97 := Aside0.mk (Lk.newS (b := w87.heap.size) (base := w.heap.size) (Sep := fun k_ => True) f94 (HA89.out) (fun k_ hk_ => hk_))
  clear f94
  obtain ⟨A98, c99, e_⟩ := Kd.S_slice F97.out
  subst e_
  go_wp2_with fail
  refine (laws_eqPatternS.calls k _ _ t48 _ _ t90 true _ (Lk.Sr F55.out).2 (Lk.Sr F55.out).1 (Lk.Sr F97.out).2 (Lk.Sr F97.out).1 H101.out).mono ?_
  rintro e_ w102 ⟨rfl, hb⟩
  have hq_ : Below w92.heap.size w92 w102 := ⟨hb.os, hb.tape, hb.output, hb.size, hb.block⟩
  have HZ103 := Aside0.mk (show w92.heap.size ≤ w102.heap.size from hq_.size)
  replace HB := Aside0.mk (below_then HB.out HB.out.size hq_)
  have HA104 := Aside0.mk (show w.heap.size ≤ w102.heap.size from HB.out.size)
  replace F13 := Aside0.mk (Kd.R_below F13.out hq_)
  replace F23 := Aside0.mk (Kd.S_below F23.out hq_)
  replace F35 := Aside0.mk (Kd.R_below F35.out hq_)
  replace F45 := Aside0.mk (Kd.R_below F45.out hq_)
  replace F55 := Aside0.mk (Kd.S_below F55.out hq_)
  replace F67 := Aside0.mk (Kd.R_below F67.out hq_)
  replace F82 := Aside0.mk (Kd.R_below F82.out hq_)
  replace F97 := Aside0.mk (Kd.S_below F97.out hq_)
  clear hq_
  clear hb
  go_wp2_with fail
  refine (laws_markIntS.calls k (fun k_ => (w30.heap.size ≤ k_ ∧ k_ < w40.heap.size) ∧ some k_ = (.slice A46 t38.length c47 : Value).ownBlock ∧ (True)) _ t38 1 t106 t107 w _ HB.out F45.out H108.out).mono ?_
  rintro e_ w105 ⟨rfl, f0_, hb0_, hk_⟩
  have hk2_ : Kept w102 w105 (fun k_ => w30.heap.size ≤ k_ ∧ k_ < w40.heap.size) := Kept.mono hk_ (fun k_ h_ => by first | exact h_ | exact h_.1)
  have HZ110 := Aside0.mk (show w102.heap.size ≤ w105.heap.size from hk2_.1)
  clear HB
  have HB := Aside0.mk hb0_
  have hn_ := Aside0.mk (Kd.R_kept F13.out hk2_ (fun k_ h1_ h2_ => by skip; have := HZ21.out; have := HZ33.out; have h3_ := h1_.1; omega))
  clear F13
  have F13 := hn_
  clear hn_
  have hn_ := Aside0.mk (Kd.S_kept F23.out hk2_ (fun k_ h1_ h2_ => by skip; have := HZ33.out; have h3_ := h1_.1; omega))
  clear F23
  have F23 := hn_
  clear hn_
  have hn_ := Aside0.mk (Kd.R_kept F35.out hk2_ (fun k_ h1_ h2_ => by skip; have h3_ := h1_.1; omega))
  clear F35
  have F35 := hn_
  clear hn_
  have hn_ := Aside0.mk (Kd.S_kept F55.out hk2_ (fun k_ h1_ h2_ => by skip; have h3_ := h1_.1; omega))
  clear F55
  have F55 := hn_
  clear hn_
  have hn_ := Aside0.mk (Kd.R_kept F67.out hk2_ (fun k_ h1_ h2_ => by skip; have := HZ53.out; have h3_ := h1_.1; omega))
  clear F67
  have F67 := hn_
  clear hn_
  have hn_ := Aside0.mk (Kd.R_kept F82.out hk2_ (fun k_ h1_ h2_ => by skip; have := HZ53.out; have := HZ65.out; have := HZ73.out; have h3_ := h1_.1; omega))
  clear F82
  have F82 := hn_
  clear hn_
  have hn_ := Aside0.mk (Kd.S_kept F97.out hk2_ (fun k_ h1_ h2_ => by skip; have := HZ53.out; have := HZ65.out; have := HZ73.out; have := HZ80.out; have := HZ88.out; have h3_ := h1_.1; omega))
  clear F97
  have F97 := hn_
  clear hn_
  have hn_ := Aside0.mk (Lk.markedR rfl f0_ (fun k_ e_ => (show (w30.heap.size ≤ k_ ∧ k_ < w40.heap.size) ∧ some k_ = (.slice A46 t38.length c47 : Value).ownBlock ∧ (True) from (F45.out.1 k_ e_.symm))))
  have F45n := hn_
  clear hn_
  clear F45
  have F45 := F45n
  clear F45n
  clear hk2_ hk_ hb0_ f0_
  have hl111 := (Kd.R_reads' F45.out).1
  have HL111 := Aside0.mk hl111
  clear hl111
  have hn1_ : decide (t106 < 0) = false := decide_eq_false (by have := H109.out; omega)
  have hd112 := hn1_
  clear hn1_
  go_wp2_with fail
  have h0z_ := H109.out
  have hn_ := H114.out
  refine (laws_markPatternS.calls (fun k_ => (w40.heap.size ≤ k_ ∧ k_ < w50.heap.size) ∧ (True)) _ t48 t106 w _ HB.out F55.out (by omega) hn_).mono ?_
  rintro e_ w113 ⟨rfl, f0_, hb0_, hk_⟩
  have hk2_ : Kept w105 w113 (fun k_ => w40.heap.size ≤ k_ ∧ k_ < w50.heap.size) := Kept.mono hk_ (fun k_ h_ => by first | exact h_ | exact h_.1)
  have HZ115 := Aside0.mk (show w105.heap.size ≤ w113.heap.size from hk2_.1)
  clear HB
  have HB := Aside0.mk hb0_
  have hn_ := Aside0.mk (Kd.R_kept F13.out hk2_ (fun k_ h1_ h2_ => by skip; have := HZ21.out; have := HZ33.out; have := HZ43.out; have h3_ := h1_.1; omega))
  clear F13
  have F13 := hn_
  clear hn_
  have hn_ := Aside0.mk (Kd.S_kept F23.out hk2_ (fun k_ h1_ h2_ => by skip; have := HZ33.out; have := HZ43.out; have h3_ := h1_.1; omega))
  clear F23
  have F23 := hn_
  clear hn_
  have hn_ := Aside0.mk (Kd.R_kept F35.out hk2_ (fun k_ h1_ h2_ => by skip; have := HZ43.out; have h3_ := h1_.1; omega))
  clear F35
  have F35 := hn_
  clear hn_
  have hn_ := Aside0.mk (Kd.R_kept F45.out hk2_ (fun k_ h1_ h2_ => by skip; have h3_ := h1_.1; omega))
  clear F45
  have F45 := hn_
  clear hn_
  have hn_ := Aside0.mk (Kd.R_kept F67.out hk2_ (fun k_ h1_ h2_ => by skip; have h3_ := h1_.1; omega))
  clear F67
  have F67 := hn_
  clear hn_
  have hn_ := Aside0.mk (Kd.R_kept F82.out hk2_ (fun k_ h1_ h2_ => by skip; have := HZ65.out; have := HZ73.out; have h3_ := h1_.1; omega))
  clear F82
  have F82 := hn_
  clear hn_
  have hn_ := Aside0.mk (Kd.S_kept F97.out hk2_ (fun k_ h1_ h2_ => by skip; have := HZ65.out; have := HZ73.out; have := HZ80.out; have := HZ88.out; have h3_ := h1_.1; omega))
  clear F97
  have F97 := hn_
  clear hn_
  have hn_ := Aside0.mk (f0_)
  have F55n := hn_
  clear hn_
  clear F55
  have F55 := F55n
  clear F55n
  clear hk2_ hk_ hb0_ f0_
  have hl116 := (Kd.S_reads' F55.out).1
  have HL116 := Aside0.mk hl116
  clear hl116
  have hn1_ : decide ((t106 + (markPatternS_cnt t48 : Nat) : Int) < 0) = false := decide_eq_false (by omega)
  have hd117 := hn1_
  clear hn1_
  go_wp2_with fail
  refine (laws_eqPieceS.calls k _ _ t58 _ _ t26 true _ (Lk.Rr F67.out).2 (Lk.Rr F67.out).1 (Lk.Rr F35.out).2 (Lk.Rr F35.out).1 H119.out).mono ?_
  rintro e_ w120 ⟨rfl, hb⟩
  have hq_ : Below w113.heap.size w113 w120 := ⟨hb.os, hb.tape, hb.output, hb.size, hb.block⟩
  have HZ121 := Aside0.mk (show w113.heap.size ≤ w120.heap.size from hq_.size)
  replace HB := Aside0.mk (below_then HB.out HB.out.size hq_)
  have HA122 := Aside0.mk (show w.heap.size ≤ w120.heap.size from HB.out.size)
  replace F13 := Aside0.mk (Kd.R_below F13.out hq_)
  replace F23 := Aside0.mk (Kd.S_below F23.out hq_)
  replace F35 := Aside0.mk (Kd.R_below F35.out hq_)
  replace F45 := Aside0.mk (Kd.R_below F45.out hq_)
  replace F55 := Aside0.mk (Kd.S_below F55.out hq_)
  replace F67 := Aside0.mk (Kd.R_below F67.out hq_)
  replace F82 := Aside0.mk (Kd.R_below F82.out hq_)
  replace F97 := Aside0.mk (Kd.S_below F97.out hq_)
  clear hq_
  clear hb
  go_wp2_with fail
  refine (laws_markPieceS.calls k (fun k_ => (w50.heap.size ≤ k_ ∧ k_ < w62.heap.size) ∧ some k_ = (.slice A68 t58.length c69 : Value).ownBlock ∧ (True)) _ t58 1 t124 t125 w _ HB.out F67.out H126.out).mono ?_
  rintro e_ w123 ⟨rfl, f0_, hb0_, hk_⟩
  have hk2_ : Kept w120 w123 (fun k_ => w50.heap.size ≤ k_ ∧ k_ < w62.heap.size) := Kept.mono hk_ (fun k_ h_ => by first | exact h_ | exact h_.1)
  have HZ128 := Aside0.mk (show w120.heap.size ≤ w123.heap.size from hk2_.1)
  clear HB
  have HB := Aside0.mk hb0_
  have hn_ := Aside0.mk (Kd.R_kept F13.out hk2_ (fun k_ h1_ h2_ => by skip; have := HZ21.out; have := HZ33.out; have := HZ43.out; have := HZ53.out; have h3_ := h1_.1; omega))
  clear F13
  have F13 := hn_
  clear hn_
  have hn_ := Aside0.mk (Kd.S_kept F23.out hk2_ (fun k_ h1_ h2_ => by skip; have := HZ33.out; have := HZ43.out; have := HZ53.out; have h3_ := h1_.1; omega))
  clear F23
  have F23 := hn_
  clear hn_
  have hn_ := Aside0.mk (Kd.R_kept F35.out hk2_ (fun k_ h1_ h2_ => by skip; have := HZ43.out; have := HZ53.out; have h3_ := h1_.1; omega))
  clear F35
  have F35 := hn_
  clear hn_
  have hn_ := Aside0.mk (Kd.R_kept F45.out hk2_ (fun k_ h1_ h2_ => by skip; have := HZ53.out; have h3_ := h1_.1; omega))
  clear F45
  have F45 := hn_
  clear hn_
  have hn_ := Aside0.mk (Kd.S_kept F55.out hk2_ (fun k_ h1_ h2_ => by skip; have h3_ := h1_.1; omega))
  clear F55
  have F55 := hn_
  clear hn_
  have hn_ := Aside0.mk (Kd.R_kept F82.out hk2_ (fun k_ h1_ h2_ => by skip; have := HZ73.out; have h3_ := h1_.1; omega))
  clear F82
  have F82 := hn_
  clear hn_
  have hn_ := Aside0.mk (Kd.S_kept F97.out hk2_ (fun k_ h1_ h2_ => by skip; have := HZ73.out; have := HZ80.out; have := HZ88.out; have h3_ := h1_.1; omega))
  clear F97
  have F97 := hn_
  clear hn_
  have hn_ := Aside0.mk (Lk.markedR rfl f0_ (fun k_ e_ => (show (w50.heap.size ≤ k_ ∧ k_ < w62.heap.size) ∧ some k_ = (.slice A68 t58.length c69 : Value).ownBlock ∧ (True) from (F67.out.1 k_ e_.symm))))
  have F67n := hn_
  clear hn_
  clear F67
  have F67 := F67n
  clear F67n
  clear hk2_ hk_ hb0_ f0_
  have hl129 := (Kd.R_reads' F67.out).1
  have HL129 := Aside0.mk hl129
  clear hl129
  have hn1_ : decide (t124 < 0) = false := decide_eq_false (by have := H127.out; omega)
  have hd130 := hn1_
  clear hn1_
  go_wp2_with fail
  have hc_ := laws_heldPieceS.calls k _ _ t125 1 t124 _ (Lk.Rr F67.out).2 (Lk.Rr F67.out).1 H132.out
  simp only [← HL129.out] at hc_
  refine hc_.mono ?_
  clear hc_
  rintro e_ w133 ⟨rfl, ⟨nd_, hd_⟩⟩
  have hb : Below w123.heap.size w123 w133 := by rw [hd_]; exact pw_below_drewN (Below.refl _ _) nd_
  clear hd_
  have hq_ : Below w123.heap.size w123 w133 := ⟨hb.os, hb.tape, hb.output, hb.size, hb.block⟩
  have HZ134 := Aside0.mk (show w123.heap.size ≤ w133.heap.size from hq_.size)
  replace HB := Aside0.mk (below_then HB.out HB.out.size hq_)
  have HA135 := Aside0.mk (show w.heap.size ≤ w133.heap.size from HB.out.size)
  replace F13 := Aside0.mk (Kd.R_below F13.out hq_)
  replace F23 := Aside0.mk (Kd.S_below F23.out hq_)
  replace F35 := Aside0.mk (Kd.R_below F35.out hq_)
  replace F45 := Aside0.mk (Kd.R_below F45.out hq_)
  replace F55 := Aside0.mk (Kd.S_below F55.out hq_)
  replace F67 := Aside0.mk (Kd.R_below F67.out hq_)
  replace F82 := Aside0.mk (Kd.R_below F82.out hq_)
  replace F97 := Aside0.mk (Kd.S_below F97.out hq_)
  clear hq_
  clear hb
  go_wp2_with fail
  refine (laws_toIntS.calls k _ _ l0 t136 _ (Kd.C_below HR0.out HB.out) HC0.out H137.out).mono ?_
  rintro e_ w138 ⟨v139, rfl, f140, hb⟩
  have hq_ : Below w133.heap.size w133 w138 := ⟨hb.os, hb.tape, hb.output, hb.size, hb.block⟩
  have HZ141 := Aside0.mk (show w133.heap.size ≤ w138.heap.size from hq_.size)
  replace HB := Aside0.mk (below_then HB.out HB.out.size hq_)
  have HA142 := Aside0.mk (show w.heap.size ≤ w138.heap.size from HB.out.size)
  replace F13 := Aside0.mk (Kd.R_below F13.out hq_)
  replace F23 := Aside0.mk (Kd.S_below F23.out hq_)
  replace F35 := Aside0.mk (Kd.R_below F35.out hq_)
  replace F45 := Aside0.mk (Kd.R_below F45.out hq_)
  replace F55 := Aside0.mk (Kd.S_below F55.out hq_)
  replace F67 := Aside0.mk (Kd.R_below F67.out hq_)
  replace F82 := Aside0.mk (Kd.R_below F82.out hq_)
  replace F97 := Aside0.mk (Kd.S_below F97.out hq_)
  clear hq_
  clear hb
  have F143 := Aside0.mk (Lk.newR (b := w133.heap.size) (base := w.heap.size) (Sep := fun k_ => True) rfl f140 (HA135.out) (fun k_ hk_ => hk_))
  clear f140
  obtain ⟨A144, c145, e_⟩ := Kd.R_slice F143.out
  subst e_
  go_wp2_with fail
  refine (laws_toPatternS.calls k _ _ l1 t146 _ (Kd.C_below HR1.out HB.out) HC1.out H147.out).mono ?_
  rintro e_ w148 ⟨v149, rfl, f150, hb⟩
  have hq_ : Below w138.heap.size w138 w148 := ⟨hb.os, hb.tape, hb.output, hb.size, hb.block⟩
  have HZ151 := Aside0.mk (show w138.heap.size ≤ w148.heap.size from hq_.size)
  replace HB := Aside0.mk (below_then HB.out HB.out.size hq_)
  have HA152 := Aside0.mk (show w.heap.size ≤ w148.heap.size from HB.out.size)
  replace F13 := Aside0.mk (Kd.R_below F13.out hq_)
  replace F23 := Aside0.mk (Kd.S_below F23.out hq_)
  replace F35 := Aside0.mk (Kd.R_below F35.out hq_)
  replace F45 := Aside0.mk (Kd.R_below F45.out hq_)
  replace F55 := Aside0.mk (Kd.S_below F55.out hq_)
  replace F67 := Aside0.mk (Kd.R_below F67.out hq_)
  replace F82 := Aside0.mk (Kd.R_below F82.out hq_)
  replace F97 := Aside0.mk (Kd.S_below F97.out hq_)
  replace F143 := Aside0.mk (Kd.R_below F143.out hq_)
  clear hq_
  clear hb
  have F153 := Aside0.mk (Lk.newS (b := w138.heap.size) (base := w.heap.size) (Sep := fun k_ => True) f150 (HA142.out) (fun k_ hk_ => hk_))
  clear f150
  obtain ⟨A154, c155, e_⟩ := Kd.S_slice F153.out
  subst e_
  go_wp2_with fail
  refine (impl_BestCover.calls k _ _ t136 _ _ t146 t156 t27 t28 _ (Lk.Rr F143.out).2 (Lk.Rr F143.out).1 (Lk.Sr F153.out).2 (Lk.Sr F153.out).1 H159.out).mono ?_
  rintro e_ w160 ⟨v161, rfl, f162, hb⟩
  have hq_ : Below w148.heap.size w148 w160 := ⟨hb.os, hb.tape, hb.output, hb.size, hb.block⟩
  have HZ163 := Aside0.mk (show w148.heap.size ≤ w160.heap.size from hq_.size)
  replace HB := Aside0.mk (below_then HB.out HB.out.size hq_)
  have HA164 := Aside0.mk (show w.heap.size ≤ w160.heap.size from HB.out.size)
  replace F13 := Aside0.mk (Kd.R_below F13.out hq_)
  replace F23 := Aside0.mk (Kd.S_below F23.out hq_)
  replace F35 := Aside0.mk (Kd.R_below F35.out hq_)
  replace F45 := Aside0.mk (Kd.R_below F45.out hq_)
  replace F55 := Aside0.mk (Kd.S_below F55.out hq_)
  replace F67 := Aside0.mk (Kd.R_below F67.out hq_)
  replace F82 := Aside0.mk (Kd.R_below F82.out hq_)
  replace F97 := Aside0.mk (Kd.S_below F97.out hq_)
  replace F143 := Aside0.mk (Kd.R_below F143.out hq_)
  replace F153 := Aside0.mk (Kd.S_below F153.out hq_)
  clear hq_
  clear hb
  have F165 := Aside0.mk (Lk.newR (b := w148.heap.size) (base := w.heap.size) (Sep := fun k_ => True) rfl f162 (HA152.out) (fun k_ hk_ => hk_))
  clear f162
  obtain ⟨A166, c167, e_⟩ := Kd.R_slice F165.out
  subst e_
  go_wp2_with fail
  refine (laws_eqPieceS.calls k _ _ t156 _ _ t26 true _ (Lk.Rr F165.out).2 (Lk.Rr F165.out).1 (Lk.Rr F35.out).2 (Lk.Rr F35.out).1 H169.out).mono ?_
  rintro e_ w170 ⟨rfl, hb⟩
  have hq_ : Below w160.heap.size w160 w170 := ⟨hb.os, hb.tape, hb.output, hb.size, hb.block⟩
  have HZ171 := Aside0.mk (show w160.heap.size ≤ w170.heap.size from hq_.size)
  replace HB := Aside0.mk (below_then HB.out HB.out.size hq_)
  have HA172 := Aside0.mk (show w.heap.size ≤ w170.heap.size from HB.out.size)
  replace F13 := Aside0.mk (Kd.R_below F13.out hq_)
  replace F23 := Aside0.mk (Kd.S_below F23.out hq_)
  replace F35 := Aside0.mk (Kd.R_below F35.out hq_)
  replace F45 := Aside0.mk (Kd.R_below F45.out hq_)
  replace F55 := Aside0.mk (Kd.S_below F55.out hq_)
  replace F67 := Aside0.mk (Kd.R_below F67.out hq_)
  replace F82 := Aside0.mk (Kd.R_below F82.out hq_)
  replace F97 := Aside0.mk (Kd.S_below F97.out hq_)
  replace F143 := Aside0.mk (Kd.R_below F143.out hq_)
  replace F153 := Aside0.mk (Kd.S_below F153.out hq_)
  replace F165 := Aside0.mk (Kd.R_below F165.out hq_)
  clear hq_
  clear hb
  go_wp2_with fail
  have hc_ := laws_heldPieceS.calls k _ _ t125 1 t124 _ (Lk.Rr F67.out).2 (Lk.Rr F67.out).1 H174.out
  simp only [← HL129.out] at hc_
  refine hc_.mono ?_
  clear hc_
  rintro e_ w175 ⟨rfl, ⟨nd_, hd_⟩⟩
  have hb : Below w170.heap.size w170 w175 := by rw [hd_]; exact pw_below_drewN (Below.refl _ _) nd_
  clear hd_
  have hq_ : Below w170.heap.size w170 w175 := ⟨hb.os, hb.tape, hb.output, hb.size, hb.block⟩
  have HZ176 := Aside0.mk (show w170.heap.size ≤ w175.heap.size from hq_.size)
  replace HB := Aside0.mk (below_then HB.out HB.out.size hq_)
  have HA177 := Aside0.mk (show w.heap.size ≤ w175.heap.size from HB.out.size)
  replace F13 := Aside0.mk (Kd.R_below F13.out hq_)
  replace F23 := Aside0.mk (Kd.S_below F23.out hq_)
  replace F35 := Aside0.mk (Kd.R_below F35.out hq_)
  replace F45 := Aside0.mk (Kd.R_below F45.out hq_)
  replace F55 := Aside0.mk (Kd.S_below F55.out hq_)
  replace F67 := Aside0.mk (Kd.R_below F67.out hq_)
  replace F82 := Aside0.mk (Kd.R_below F82.out hq_)
  replace F97 := Aside0.mk (Kd.S_below F97.out hq_)
  replace F143 := Aside0.mk (Kd.R_below F143.out hq_)
  replace F153 := Aside0.mk (Kd.S_below F153.out hq_)
  replace F165 := Aside0.mk (Kd.R_below F165.out hq_)
  clear hq_
  clear hb
  go_wp2_with fail
  go_ret
  exact ⟨rfl, HB.out⟩
end Go.Proofs.Ytfdbdbihhgabpaa.Q
