-- Written by the program wip/tools/pr.py of this claim's session, over the kit's print.py.
import Derived.Test.YtpnhlccdhflogaaQx0
import Derived.Test.YtpnhlccdhflogaaQx4
import Derived.Test.YtpnhlccdhflogaaQx5
namespace Go.Proofs.Ytpnhlccdhflogaa.Q
open Go.RowKit Go.Proofs.YtpnhlccdhflogaaW.PrintWords Go.Proofs.YtpnhlccdhflogaaW.PrintLast Go.Proofs.YtpnhlccdhflogaaW.PrintMore
attribute [local go_sem] max2_int min2_int max_two min_two max_three min_three max_four min_four   -- for this text's walks alone
set_option linter.unusedVariables false
set_option linter.unusedSimpArgs false

/-! ### impl_copyFlow: function 78 -/
def impl_copyFlow.l0 : Nat → List (S99) → List (S99) → Int → Int → Option ((List (S99)))
 | 0, _, _, _, _ => none
 | k + 1, x3, x7, x8, x9 => if x9 < x8 then (if 0 ≤ x9 then (if x9 < (x7.length : Int) then ((some (([] : List (S130)) : List (S130))).bind fun y234 => (if y234.length + ((rd_T99 x7 x9).f0).length < 3518437208883 then (if x3.length < 2932031007402 then (impl_copyFlow.l0 k (x3 ++ [(⟨(y234 ++ ((rd_T99 x7 x9).f0)), (rd_T99 x7 x9).f1, (rd_T99 x7 x9).f2, (rd_T99 x7 x9).f3⟩ : S99)]) x7 x8 (wrap64 (x9 + 1))) else (none)) else (none))) else (none)) else (none)) else (some x3)
def impl_copyFlow.f (k : Nat) (l0 : List (S99)) : Option ((List (S99))) := impl_copyFlow.l0 k (([] : List (S99))) l0 (l0.length : Int) 0
theorem impl_copyFlow.mono_l : ∀ k, (∀ y0 y1 y2 y3, LeO (impl_copyFlow.l0 k y0 y1 y2 y3) (impl_copyFlow.l0 (k + 1) y0 y1 y2 y3))
 | 0 => fun _ _ _ _ r h => by simp [impl_copyFlow.l0] at h
 | k + 1 => by
  have ih0 := impl_copyFlow.mono_l k
  ·intro y0 y1 y2 y3
   unfold impl_copyFlow.l0
   repeat' first
   | with_reducible apply ih0
   | (with_reducible exact LeO.refl _)
   | (with_reducible exact LeO.none _)
   | (with_reducible refine LeO.ite ?_ ?_)
   | (with_reducible refine LeO.bind ?_ (fun _ => ?_))
   | apply ih0
   | exact LeO.none _
   | refine LeO.ite ?_ ?_
   | refine LeO.bind ?_ (fun _ => ?_)
theorem impl_copyFlow.mono : ∀ a0 k, LeO (impl_copyFlow.f k a0) (impl_copyFlow.f (k + 1) a0) := by
 intro a0 k
 have ih0 := impl_copyFlow.mono_l k
 unfold impl_copyFlow.f
 repeat' first
   | with_reducible apply ih0
   | (with_reducible exact LeO.refl _)
   | (with_reducible exact LeO.none _)
   | (with_reducible refine LeO.ite ?_ ?_)
   | (with_reducible refine LeO.bind ?_ (fun _ => ?_))
   | apply ih0
   | exact LeO.none _
   | refine LeO.ite ?_ ?_
   | refine LeO.bind ?_ (fun _ => ?_)
set_option maxHeartbeats 8000000 in
set_option maxRecDepth 100000 in
theorem impl_copyFlow.calls (k : Nat) (A0 : Option Addr) (c0 : Nat) (l0 : List (S99)) (r : List (S99)) (w : World) (hr0 : Kd.C k99 w A0 l0.length l0) (hc0 : l0.length ≤ c0) (h : impl_copyFlow.f k l0 = some r) :
  Calls Try.prog 78 #[.slice A0 l0.length c0] w fun e w' => ∃ v0_ : Value, e = .returned (v0_) ∧ Kd.S k99 99 w' w.heap.size (fun _ => True) v0_ r ∧ Below w.heap.size w w' := by
 have hu99 := Try.underlying99
 have HR0 := Aside0.mk hr0
 have HC0 := Aside0.mk hc0
 clear hr0 hc0
 have HB := Aside0.mk (Below.refl w.heap.size w)
 have H : (impl_copyFlow.l0 k (([] : List (S99))) l0 (l0.length : Int) 0) = some r := h
 clear h
 obtain ⟨y229, hy229⟩ : ∃ y_ : List (S99), y_ = (([] : List (S99))) := ⟨_, rfl⟩
 replace H : (impl_copyFlow.l0 k y229 l0 (l0.length : Int) 0) = some r := by first | (rw [hy229]; with_reducible exact H) | (have H2_ := (Option.bind_some _ _).symm.trans H; rw [hy229]; with_reducible exact H2_) | (have H2_ := (Option.bind_some _ _).symm.trans H; with_reducible exact H2_) | with_reducible exact H | (rw [hy229]; exact H) | exact H
 have Ny229 := Aside0.mk hy229
 clear hy229
 have H' := Aside0.mk H
 clear H
 go_enter Try.func78, Try.ntmps78
 go_wp2_with (first | ((with_reducible refine gate_dst (N := 6) rfl ?_); refine Kd.S_lit k99 _ 99 ?hg (N := 6) ?hd (xs := ([] : List (S99))) (inner := []) (ok := fun _ => True) (okp := fun _ => True) ?hr ?hp (fun _ hk => hk) trivial (Below.refl _ _) (Nat.le_refl _) (by simp) ?_; (case hd => rfl); (case hg => rfl); (case hr => first | (go_simp; done) | (go_simp; rfl)); (case hp => exact (Reps.none _ _)); intro v230 w2 ho3 hb hg_ hnew_; clear hg_ hnew_; (first | rw [← Ny229.out] at ho3 | (simp only [Int.reduceToNat] at ho3; rw [← Ny229.out] at ho3)); have n0_ := Aside0.mk (Kd.S_lower ho3 (below_size lB)); have n1_ := Aside0.mk (below_step lB hb); clear HB; have HO231 := n0_; have HB := n1_; clear n0_ n1_; clear hb ho3))
 go_loopg [3, 9] k (fun kq v3 v9 w' => ∃ (x3_1 : List (S99)) (x9_1 : Int), v9 = .int .i64 x9_1 ∧ Aside0 (impl_copyFlow.l0 kq x3_1 l0 (l0.length : Int) x9_1 = some r) ∧ Aside0 (kq ≤ k) ∧ Aside0 (Kd.S k99 99 w' w.heap.size (fun _ => True) v3 x3_1) ∧ Aside0 (Below w.heap.size w w'))
 case atStart => exact ⟨(y229), (0), lF, H', ⟨Nat.le_refl _⟩, ⟨lS HO231.out⟩, ⟨lB⟩⟩
 case round =>
  clear H'
  try clear p2
  obtain ⟨x3_1, x9_1, rfl, HA, HK1, HO_3, HB⟩ := hrel
  cases gk with
  | zero => exact absurd HA.out (by simp [impl_copyFlow.l0])
  | succ k1 =>
   have H := HA.out
   clear HA
   simp only [impl_copyFlow.l0] at H
   by_cases c4 : x9_1 < (l0.length : Int)
   ·rw [if_pos c4] at H
    have c4b0 : decide (x9_1 < (l0.length : Int)) = true := decide_eq_true c4
    clear c4
    by_cases c5 : 0 ≤ x9_1
    ·rw [if_pos c5] at H
     have c5b0 : decide (0 ≤ x9_1) = true := decide_eq_true c5
     clear c5
     by_cases c6 : x9_1 < (l0.length : Int)
     ·rw [if_pos c6] at H
      have c6b0 : decide (x9_1 < (l0.length : Int)) = true := decide_eq_true c6
      clear c6
      obtain ⟨y234, hy234⟩ : ∃ y_ : List (S130), y_ = (([] : List (S130))) := ⟨_, rfl⟩
      replace H : (if y234.length + ((rd_T99 l0 x9_1).f0).length < 3518437208883 then (if x3_1.length < 2932031007402 then (impl_copyFlow.l0 k1 (x3_1 ++ [(⟨(y234 ++ ((rd_T99 l0 x9_1).f0)), (rd_T99 l0 x9_1).f1, (rd_T99 l0 x9_1).f2, (rd_T99 l0 x9_1).f3⟩ : S99)]) l0 (l0.length : Int) (wrap64 (x9_1 + 1))) else (none)) else (none)) = some r := by first | (rw [hy234]; with_reducible exact H) | (have H2_ := (Option.bind_some _ _).symm.trans H; rw [hy234]; with_reducible exact H2_) | (have H2_ := (Option.bind_some _ _).symm.trans H; with_reducible exact H2_) | with_reducible exact H | (rw [hy234]; exact H) | exact H
      have Ny234 := Aside0.mk hy234
      clear hy234
      by_cases c7 : y234.length + ((rd_T99 l0 x9_1).f0).length < 3518437208883
      ·rw [if_pos c7] at H
       have LMc7 := Aside0.mk c7
       clear c7
       obtain ⟨y237, hy237⟩ : ∃ y_ : List (S130), y_ = (y234 ++ ((rd_T99 l0 x9_1).f0)) := ⟨_, rfl⟩
       replace H : (if x3_1.length < 2932031007402 then (impl_copyFlow.l0 k1 (x3_1 ++ [(⟨y237, (rd_T99 l0 x9_1).f1, (rd_T99 l0 x9_1).f2, (rd_T99 l0 x9_1).f3⟩ : S99)]) l0 (l0.length : Int) (wrap64 (x9_1 + 1))) else (none)) = some r := by first | (rw [hy237]; with_reducible exact H) | (have H2_ := (Option.bind_some _ _).symm.trans H; rw [hy237]; with_reducible exact H2_) | (have H2_ := (Option.bind_some _ _).symm.trans H; with_reducible exact H2_) | with_reducible exact H | (rw [hy237]; exact H) | exact H
       have Ny237 := Aside0.mk hy237
       clear hy237
       by_cases c8 : x3_1.length < 2932031007402
       ·rw [if_pos c8] at H
        have LMc8 := Aside0.mk c8
        clear c8
        obtain ⟨y240, hy240⟩ : ∃ y_ : List (S99), y_ = (x3_1 ++ [(⟨y237, (rd_T99 l0 x9_1).f1, (rd_T99 l0 x9_1).f2, (rd_T99 l0 x9_1).f3⟩ : S99)]) := ⟨_, rfl⟩
        replace H : (impl_copyFlow.l0 k1 y240 l0 (l0.length : Int) (wrap64 (x9_1 + 1))) = some r := by first | (rw [hy240]; with_reducible exact H) | (have H2_ := (Option.bind_some _ _).symm.trans H; rw [hy240]; with_reducible exact H2_) | (have H2_ := (Option.bind_some _ _).symm.trans H; with_reducible exact H2_) | with_reducible exact H | (rw [hy240]; exact H) | exact H
        have Ny240 := Aside0.mk hy240
        clear hy240
        have H' := Aside0.mk H
        clear H
        have p232 : 0 ≤ (x9_1 : Int) := lD
        have q232 : x9_1 < (l0.length : Int) := lD
        obtain ⟨ad232, A232_0, c232_0, e232, hx232_0, hx232_1, hx232_2, hx232_3, hl232_0, hi232_0⟩ := at_T99 HR0.out x9_1 p232 q232
        cases e232
        replace hx232_0 := pw_cell_below HB.out hx232_0
        replace hx232_1 := pw_cell_below HB.out hx232_1
        replace hx232_2 := pw_cell_below HB.out hx232_2
        replace hx232_3 := pw_cell_below HB.out hx232_3
        have HR232_0 := Aside0.mk hi232_0
        have HC232_0 := Aside0.mk hl232_0
        clear hi232_0 hl232_0
        replace p232 := eq_true p232
        replace q232 := eq_true q232
        go_wp2_with (first | ((with_reducible refine gate_dst (N := 5) rfl ?_); refine bxe 5 #[.slice none 0 0, .int .i64 0, .int .i64 0, .int .i64 0] 99 ?_; intro gb233 hg w9 hbox hb; have n0_ := Aside0.mk (Kd.S_below (Kd.S_elderB (lS HO_3.out) gb233 (Nat.le_of_eq hg.symm)) hb); have n1_ := Aside0.mk (below_step lB hb); have n2_ := Aside0.mk (hbox); have n3_ := lG w hg; have n4_ := lG w hg; clear HO_3; clear HB; have HO_3 := n0_; have HB := n1_; have BK233 := n2_; have GW233 := n3_; have GE233 := n4_; clear n0_ n1_ n2_ n3_ n4_; clear hb hbox hg; obtain ⟨hcz10_0, hfz10_0, hcz10_1, hfz10_1, hcz10_2, hfz10_2, hcz10_3, hfz10_3⟩ := bk4 BK233.out) | ((with_reducible refine gate_dst (N := 13) rfl ?_); refine Kd.R_lit k130 _ 130 ?hg (N := 13) ?hd (xs := ([] : List (S130))) (inner := []) (ok := fun _ => True) (okp := fun _ => True) ?hr ?hp (fun _ hk => hk) trivial (Below.refl _ _) (Nat.le_refl _) (by simp) ?_; (case hd => rfl); (case hg => rfl); (case hr => first | (go_simp; done) | (go_simp; rfl)); (case hp => exact (Reps.none _ _)); intro v235 w11 ho12 hb hg_ hnew_; clear hg_ hnew_; (first | rw [← Ny234.out] at ho12 | (simp only [Int.reduceToNat] at ho12; rw [← Ny234.out] at ho12)); have n0_ := Aside0.mk (Kd.S_elder' (by (with_reducible repeat (first | apply Kd.S_alloc | apply Kd.S_drewN | apply Kd.S_drew)); exact (Kd.S_mono (Kd.S_far (p := ⟨gb233, 3, none⟩) (Kd.S_far (p := ⟨gb233, 2, none⟩) (Kd.S_far (p := ⟨gb233, 1, none⟩) (Kd.S_far (p := ⟨gb233, 0, none⟩) (Kd.S_mono HO_3.out (fun k_ hk => (⟨hk, hk.2⟩ : _ ∧ k_ ≠ gb233))) (fun _ hk => hk.2) (.slice A232_0 ((rd_T99 l0 x9_1).f0).length c232_0)) (fun _ hk => hk.2) (.int .i64 ((rd_T99 l0 x9_1).f1))) (fun _ hk => hk.2) (.int .i64 ((rd_T99 l0 x9_1).f2))) (fun _ hk => hk.2) (.int .i64 ((rd_T99 l0 x9_1).f3))) (fun _ h_ => h_.1))) (Kd.R_base ho12) hb); have n1_ := Aside0.mk (Kd.R_lower ho12 (below_size lB)); have n2_ := Aside0.mk (blk_below (g := gb233) (o := .cells #[.slice A232_0 ((rd_T99 l0 x9_1).f0).length c232_0, .int .i64 ((rd_T99 l0 x9_1).f1), .int .i64 ((rd_T99 l0 x9_1).f2), .int .i64 ((rd_T99 l0 x9_1).f3)] 99 (0, 0)) (by (with_reducible repeat first | apply bN | apply bD | apply bA); refine blk_put (cs := #[.slice A232_0 ((rd_T99 l0 x9_1).f0).length c232_0, .int .i64 ((rd_T99 l0 x9_1).f1), .int .i64 ((rd_T99 l0 x9_1).f2), .int .i64 0]) ?_ 3 _ rfl; (with_reducible repeat first | apply bN | apply bD | apply bA); refine blk_put (cs := #[.slice A232_0 ((rd_T99 l0 x9_1).f0).length c232_0, .int .i64 ((rd_T99 l0 x9_1).f1), .int .i64 0, .int .i64 0]) ?_ 2 _ rfl; (with_reducible repeat first | apply bN | apply bD | apply bA); refine blk_put (cs := #[.slice A232_0 ((rd_T99 l0 x9_1).f0).length c232_0, .int .i64 0, .int .i64 0, .int .i64 0]) ?_ 1 _ rfl; (with_reducible repeat first | apply bN | apply bD | apply bA); refine blk_put (cs := #[.slice none 0 0, .int .i64 0, .int .i64 0, .int .i64 0]) ?_ 0 _ rfl; (with_reducible repeat first | apply bN | apply bD | apply bA); exact BK233.out) hb); have n3_ := Aside0.mk (below_step lB hb); clear HO_3; clear BK233; clear HB; have HO_3 := n0_; have HO236 := n1_; have BK233 := n2_; have HB := n3_; clear n0_ n1_ n2_ n3_; clear hb ho12; obtain ⟨hcz13_0, hfz13_0, hcz13_1, hfz13_1, hcz13_2, hfz13_2, hcz13_3, hfz13_3⟩ := bk4 BK233.out) | ((with_reducible refine gate_builtin (b := .append) (xs := #[.tmp 13, .tmp 15]) rfl ?_); at_builtin; refine Kd.R_append_rows k130 (w0 := w) w.heap.size rfl (.tmp 13) (.tmp 15) 97 130 (.agg #[(.int .i64 0), (.int .i64 0), (.int .i64 0), (.int .i64 0), (.int .i64 0)]) 40 rfl Try.underlying97 info130 rfl (by decide) (by omega) v235 y234 ((rd_T99 l0 x9_1).f0) _ _ _ (fun _ => True) (fun _ => False) rfl rfl ?aO ?aR (fun _ _ h => h) (fun _ h => h.elim) ?aF ?aB ?aS ?aL ?_; (case aR => exact lC (Kd.C_below HR232_0.out HB.out)); (case aB => exact lB); (case aF => exact (fun _ _ => trivial)); (case aO => exact (lR HO236.out)); (case aS => exact (below_size lB)); (case aL => have := LMc7.out; omega); intro v238 w14 ho hb hg hat; rw [← Ny237.out] at ho; have n0_ := Aside0.mk (Kd.S_after (ok := (fun k_ => k_ ≠ gb233)) (by (with_reducible repeat (first | apply Kd.S_alloc | apply Kd.S_drewN | apply Kd.S_drew)); exact Kd.S_mono HO_3.out (fun _ hk => ⟨hk.1.2, hk.2⟩)) hg hat); have n1_ := Aside0.mk (blk_grown (lK BK233.out) hg (Kd.R_ne HO236.out BK233.out (by decide))); have n2_ := Aside0.mk (hb); have n3_ := Aside0.mk (ho); clear HO_3; clear BK233; clear HB; clear HO236; have HO_3 := n0_; have BK233 := n1_; have HB := n2_; have HO239 := n3_; clear n0_ n1_ n2_ n3_; clear ho hb hg hat; obtain ⟨Ao15, co15, eo15⟩ := Kd.R_slice HO239.out; subst eo15; obtain ⟨hcz16_0, hfz16_0, hcz16_1, hfz16_1, hcz16_2, hfz16_2, hcz16_3, hfz16_3⟩ := bk4 BK233.out) | ((with_reducible refine gate_store (t := 97) (p := 17) rfl ?_); refine store_event (t := 97) (p := 17) (v := ?vo_w17) (w1 := (w14.setCell ⟨gb233, 0, none⟩ (.slice Ao15 y237.length co15))) ?hg ?ho ?hn ?hr ?_; (case ho => rfl); (case hg => rfl); (case hn => rfl); (case hr => first | (go_simp; done) | (go_simp; rfl)); intro w17 hw; have n0_ : Aside0 (Kd.S k99 99 w17 w.heap.size (fun k_ => some k_ ≠ (.slice Ao15 y237.length co15 : Value).ownBlock ∧ k_ ≠ gb233) u3 x3_1) := ⟨(by rw [hw]; exact (by (with_reducible repeat (first | apply Kd.S_alloc | apply Kd.S_drewN | apply Kd.S_drew)); exact Kd.S_mono (Kd.S_far (p := ⟨gb233, 0, none⟩) (Kd.S_mono HO_3.out (fun k_ hk => (⟨hk, hk.1⟩ : _ ∧ k_ ≠ gb233))) (fun _ hk => hk.2) (.slice Ao15 y237.length co15)) (fun _ hk => ⟨hk.1.2, hk.1.1⟩)))⟩; have n1_ : Aside0 (Kd.R k130 130 w17 w.heap.size (fun _ => True) (.slice Ao15 y237.length co15) y237) := ⟨(by rw [hw]; exact (by (with_reducible repeat (first | apply Kd.R_alloc | apply Kd.R_drewN | apply Kd.R_drew)); exact Kd.R_mono (Kd.R_far (p := ⟨gb233, 0, none⟩) (Kd.R_types HO239.out BK233.out (by decide)) (fun _ hk => hk.2) (.slice Ao15 y237.length co15)) (fun _ hk => trivial)))⟩; have n2_ : Aside0 (w17.heap[gb233]? = some (.cells #[.slice Ao15 y237.length co15, .int .i64 ((rd_T99 l0 x9_1).f1), .int .i64 ((rd_T99 l0 x9_1).f2), .int .i64 ((rd_T99 l0 x9_1).f3)] 99 (0, 0))) := ⟨(by rw [hw]; exact (by (with_reducible repeat first | apply bN | apply bD | apply bA); refine blk_put (cs := #[.slice A232_0 ((rd_T99 l0 x9_1).f0).length c232_0, .int .i64 ((rd_T99 l0 x9_1).f1), .int .i64 ((rd_T99 l0 x9_1).f2), .int .i64 ((rd_T99 l0 x9_1).f3)]) ?_ 0 _ rfl; (with_reducible repeat first | apply bN | apply bD | apply bA); exact BK233.out))⟩; have n3_ : Aside0 (Below w.heap.size w w17) := ⟨(by rw [hw]; exact lB)⟩; clear hw; clear HO_3; clear HO239; clear BK233; clear HB; have HO_3 := n0_; have HO239 := n1_; have BK233 := n2_; have HB := n3_; clear n0_ n1_ n2_ n3_; obtain ⟨hcz18_0, hfz18_0, hcz18_1, hfz18_1, hcz18_2, hfz18_2, hcz18_3, hfz18_3⟩ := bk4 BK233.out) | ((with_reducible refine gate_builtin (b := .append) (xs := #[.tmp 18, .tmp 20]) rfl ?_); at_builtin; refine Kd.S_append k99 (w0 := w) w.heap.size rfl (.tmp 18) (.tmp 20) 57 99 (.agg #[(.slice none 0 0), (.int .i64 0), (.int .i64 0), (.int .i64 0)]) 48 rfl Try.underlying57 info99 rfl (by decide) (by omega) u3 x3_1 (⟨y237, (rd_T99 l0 x9_1).f1, (rd_T99 l0 x9_1).f2, (rd_T99 l0 x9_1).f3⟩ : S99) [.slice Ao15 y237.length co15, .int .i64 ((rd_T99 l0 x9_1).f1), .int .i64 ((rd_T99 l0 x9_1).f2), .int .i64 ((rd_T99 l0 x9_1).f3)] (fun k_ => k_ ≠ gb233) (fun k_ => some k_ = (.slice Ao15 y237.length co15 : Value).ownBlock) rfl rfl ?aP (fun k_ hk_ => ((Kd.R_mono (ok' := fun k_ => ((fun k_ => k_ ≠ gb233)) k_ ∧ some k_ ≠ (u3 : Value).ownBlock) (Kd.R_types (Kd.R_apart' (HO239.out) (Kd.S_typed HO_3.out) (by decide)) BK233.out (by decide)) (fun k_ hk => ⟨hk.2, hk.1.2⟩))).1 k_ hk_.symm) ?aF ?aO ?aB ?aS ?aL ?_; (case aP => exact k99_mkM _ _ _ (⟨y237, (rd_T99 l0 x9_1).f1, (rd_T99 l0 x9_1).f2, (rd_T99 l0 x9_1).f3⟩ : S99) (Kd.R_mono (Kd.R_tight rfl (Kd.R_mono (ok' := fun k_ => ((fun k_ => k_ ≠ gb233)) k_ ∧ some k_ ≠ (u3 : Value).ownBlock) (Kd.R_types (Kd.R_apart' (HO239.out) (Kd.S_typed HO_3.out) (by decide)) BK233.out (by decide)) (fun k_ hk => ⟨hk.2, hk.1.2⟩))) (fun _ h_ => h_))); (case aB => exact lB); (case aF => exact (fun k_ hk => Kd.freshB (lK BK233.out) k_ hk)); (case aO => exact (by (with_reducible repeat (first | apply Kd.S_alloc | apply Kd.S_drewN | apply Kd.S_drew)); exact Kd.S_mono HO_3.out (fun k_ hk => ⟨hk.2, fun e_ => hk.1 e_⟩))); (case aS => exact (below_size lB)); (case aL => have := LMc8.out; omega); intro v241 w19 ho hb hg hat; rw [← Ny240.out] at ho; have n0_ := Aside0.mk (blk_grown (lK BK233.out) hg (Kd.S_away HO_3.out (fun _ hk => hk.2))); have n1_ := Aside0.mk (hb); have n2_ := Aside0.mk (ho); clear BK233; clear HB; clear HO_3; clear HO239; have BK233 := n0_; have HB := n1_; have HO242 := n2_; clear n0_ n1_ n2_; clear ho hb hg hat))
        go_roundg k1
        case measure => have := HK1.out; omega
        case rel => exact ⟨(y240), (wrap64 (x9_1 + 1)), lF, H', ⟨by have := HK1.out; omega⟩, ⟨by (with_reducible repeat (first | apply Kd.S_alloc | apply Kd.S_drewN | apply Kd.S_drew)); exact Kd.S_mono HO242.out (fun _ hk => trivial)⟩, ⟨lB⟩⟩
       ·rw [if_neg c8] at H
        exact absurd H (by simp)
      ·rw [if_neg c7] at H
       exact absurd H (by simp)
     ·rw [if_neg c6] at H
      exact absurd H (by simp)
    ·rw [if_neg c5] at H
     exact absurd H (by simp)
   ·rw [if_neg c4] at H
    have c4b0 : decide (x9_1 < (l0.length : Int)) = false := decide_eq_false c4
    clear c4
    obtain rfl := Option.some.inj H
    first | (go_wp2; go_ret; exact ⟨_, lE, lS HO_3.out, lB⟩) | (exfalso; simp only [decide_eq_false_iff_not, decide_eq_true_eq] at *; omega)

/-! ### impl_LayFlow: function 41 -/
mutual
def impl_LayFlow.j0 : Nat → List (S99) → List Int → Bool → Option ((List (S99)) × Bool)
 | 0, _, _, _ => none
 | k + 1, x0, x1, x20 => if x20 = true then (some (([] : List (S99)), false)) else ((impl_copyFlow.f k x0).bind fun t245 => (impl_LayFlow.l0 k x1 t245 (([] : List (S99))) x1 (x1.length : Int) 0))
def impl_LayFlow.l0 : Nat → List Int → List (S99) → List (S99) → List Int → Int → Int → Option ((List (S99)) × Bool)
 | 0, _, _, _, _, _, _ => none
 | k + 1, x1, x6, x7, x24, x25, x26 => if x26 < x25 then (if 0 ≤ x26 then (if x26 < (x24.length : Int) then (if 0 ≤ (rd x24 x26) then (if (rd x24 x26) < (x6.length : Int) then (if ((rd_T99 x6 (rd x24 x26)).f2) ≥ 0 then ((slices_Index_int_int.f k x1 ((rd_T99 x6 (rd x24 x26)).f2)).bind fun t254 => (if ((rd_T99 x6 (rd x24 x26)).f3) ≥ 0 then ((slices_Index_int_int.f k x1 ((rd_T99 x6 (rd x24 x26)).f3)).bind fun t255 => (if x7.length < 2932031007402 then (impl_LayFlow.l0 k x1 x6 (x7 ++ [(⟨(rd_T99 x6 (rd x24 x26)).f0, (rd_T99 x6 (rd x24 x26)).f1, t254, t255⟩ : S99)]) x24 x25 (wrap64 (x26 + 1))) else (none))) else (if x7.length < 2932031007402 then (impl_LayFlow.l0 k x1 x6 (x7 ++ [(⟨(rd_T99 x6 (rd x24 x26)).f0, (rd_T99 x6 (rd x24 x26)).f1, t254, (rd_T99 x6 (rd x24 x26)).f3⟩ : S99)]) x24 x25 (wrap64 (x26 + 1))) else (none)))) else (if ((rd_T99 x6 (rd x24 x26)).f3) ≥ 0 then ((slices_Index_int_int.f k x1 ((rd_T99 x6 (rd x24 x26)).f3)).bind fun t262 => (if x7.length < 2932031007402 then (impl_LayFlow.l0 k x1 x6 (x7 ++ [(⟨(rd_T99 x6 (rd x24 x26)).f0, (rd_T99 x6 (rd x24 x26)).f1, (rd_T99 x6 (rd x24 x26)).f2, t262⟩ : S99)]) x24 x25 (wrap64 (x26 + 1))) else (none))) else (if x7.length < 2932031007402 then (impl_LayFlow.l0 k x1 x6 (x7 ++ [(⟨(rd_T99 x6 (rd x24 x26)).f0, (rd_T99 x6 (rd x24 x26)).f1, (rd_T99 x6 (rd x24 x26)).f2, (rd_T99 x6 (rd x24 x26)).f3⟩ : S99)]) x24 x25 (wrap64 (x26 + 1))) else (none)))) else (none)) else (none)) else (none)) else (none)) else (if x1.Nodup ∧ ∀ i ∈ x1, 0 ≤ i ∧ i < (x6.length : Int) then (some (x7, true)) else none)
end
def impl_LayFlow.f (k : Nat) (l0 : List (S99)) (l1 : List Int) : Option ((List (S99)) × Bool) := (impl_isFlow.f k l0).bind fun t243 => (if t243 = true then ((impl_isLayout.f k (l0.length : Int) l1).bind fun t244 => (impl_LayFlow.j0 k l0 l1 (!t244))) else (impl_LayFlow.j0 k l0 l1 true))
theorem impl_LayFlow.mono_l : ∀ k, (∀ y0 y1 y2, LeO (impl_LayFlow.j0 k y0 y1 y2) (impl_LayFlow.j0 (k + 1) y0 y1 y2)) ∧ (∀ y0 y1 y2 y3 y4 y5, LeO (impl_LayFlow.l0 k y0 y1 y2 y3 y4 y5) (impl_LayFlow.l0 (k + 1) y0 y1 y2 y3 y4 y5))
 | 0 => ⟨fun _ _ _ r h => by simp [impl_LayFlow.j0] at h, fun _ _ _ _ _ _ r h => by simp [impl_LayFlow.l0] at h⟩
 | k + 1 => by
  obtain ⟨ih0, ih1⟩ := impl_LayFlow.mono_l k
  refine ⟨?_, ?_⟩
  ·intro y0 y1 y2
   unfold impl_LayFlow.j0
   repeat' first
   | with_reducible apply ih0
   | with_reducible apply ih1
   | with_reducible apply impl_copyFlow.mono
   | with_reducible apply impl_isFlow.mono
   | with_reducible apply impl_isLayout.mono
   | with_reducible apply slices_Index_int_int.mono
   | (with_reducible exact LeO.refl _)
   | (with_reducible exact LeO.none _)
   | (with_reducible refine LeO.ite ?_ ?_)
   | (with_reducible refine LeO.bind ?_ (fun _ => ?_))
   | apply ih0
   | apply ih1
   | apply impl_copyFlow.mono
   | apply impl_isFlow.mono
   | apply impl_isLayout.mono
   | apply slices_Index_int_int.mono
   | exact LeO.none _
   | refine LeO.ite ?_ ?_
   | refine LeO.bind ?_ (fun _ => ?_)
  ·intro y0 y1 y2 y3 y4 y5
   unfold impl_LayFlow.l0
   repeat' first
   | with_reducible apply ih0
   | with_reducible apply ih1
   | with_reducible apply impl_copyFlow.mono
   | with_reducible apply impl_isFlow.mono
   | with_reducible apply impl_isLayout.mono
   | with_reducible apply slices_Index_int_int.mono
   | (with_reducible exact LeO.refl _)
   | (with_reducible exact LeO.none _)
   | (with_reducible refine LeO.ite ?_ ?_)
   | (with_reducible refine LeO.bind ?_ (fun _ => ?_))
   | apply ih0
   | apply ih1
   | apply impl_copyFlow.mono
   | apply impl_isFlow.mono
   | apply impl_isLayout.mono
   | apply slices_Index_int_int.mono
   | exact LeO.none _
   | refine LeO.ite ?_ ?_
   | refine LeO.bind ?_ (fun _ => ?_)
theorem impl_LayFlow.mono : ∀ a0 a1 k, LeO (impl_LayFlow.f k a0 a1) (impl_LayFlow.f (k + 1) a0 a1) := by
 intro a0 a1 k
 obtain ⟨ih0, ih1⟩ := impl_LayFlow.mono_l k
 unfold impl_LayFlow.f
 repeat' first
   | with_reducible apply ih0
   | with_reducible apply ih1
   | with_reducible apply impl_copyFlow.mono
   | with_reducible apply impl_isFlow.mono
   | with_reducible apply impl_isLayout.mono
   | with_reducible apply slices_Index_int_int.mono
   | (with_reducible exact LeO.refl _)
   | (with_reducible exact LeO.none _)
   | (with_reducible refine LeO.ite ?_ ?_)
   | (with_reducible refine LeO.bind ?_ (fun _ => ?_))
   | apply ih0
   | apply ih1
   | apply impl_copyFlow.mono
   | apply impl_isFlow.mono
   | apply impl_isLayout.mono
   | apply slices_Index_int_int.mono
   | exact LeO.none _
   | refine LeO.ite ?_ ?_
   | refine LeO.bind ?_ (fun _ => ?_)
theorem impl_LayFlow.openF {W : World} {ok : Nat → Prop} {x : S99} {cs : List Value} (h : Kd.FK k99 W ok x cs) : ∃ A0 c0, cs = [.slice A0 x.f0.length c0, .int .i64 x.f1, .int .i64 x.f2, .int .i64 x.f3] ∧ x.f0.length ≤ c0 ∧ Kd.F k130 W ok A0 x.f0.length x.f0 := by
  obtain ⟨A0, c0, rfl, l0, _⟩ := k99_open (Kd.FK_now h)
  exact ⟨A0, c0, rfl, l0, (fun W' hW => by obtain ⟨A0_, c0_, he, l0_, g0_⟩ := k99_open (h W' hW); injection (Option.some.inj (show some (Value.slice A0 x.f0.length c0) = some (Value.slice A0_ x.f0.length c0_) from congrArg (fun l => l[0]?) he)) with ha_ _ _; rw [ha_]; exact g0_)⟩
def impl_LayFlow.dv : Value := .slice none 0 0
def impl_LayFlow.g (vs : List Value) (i : Int) : Value := vs.getD i.toNat impl_LayFlow.dv
/-- A block with its code's value: all that it leads to is that. -/
def impl_LayFlow.kt : Kd (S99 × Value) where
  sz := 4
  E := [130]
  K := fun w x cs => cs[0]? = some x.2 ∧ k99.M w 0 (fun k => some k = x.2.ownBlock) x.1 cs
  M := fun _ _ _ _ _ => False
  K_len := fun h => k99.K_len (k99.K_of_M h.2)
  K_one := fun h => k99.K_one (k99.K_of_M h.2)
  K_below := fun hb h => ⟨h.1, k99.M_mono (fun _ hk => hk.1) (k99.M_move (fun k hk => hb.block k hk.2.2.1) (k99.M_bound h.2))⟩
  K_of_M := fun h => h.elim
  M_mono := fun _ h => h
  M_bound := fun h => h
  M_move := fun _ h => h
  M_lower := fun _ h => h
theorem impl_LayFlow.raise130 {w : World} {B : Nat} {ok : Nat → Prop} {x : S130} {cs : List Value} (h : k130.M w 0 ok x cs) : k130.M w B ok x cs := by
  obtain rfl := k130_openM h
  exact k130_mkM w B ok x
theorem impl_LayFlow.raiseR {w : World} {B : Nat} {ok : Nat → Prop} {v : Value} {xs : List S130} (h : k130.R 130 w 0 ok v xs) (hB : ∀ k, v.ownBlock = some k → B ≤ k) : k130.R 130 w B ok v xs := by
  obtain ⟨h0, inner, ⟨hl, ho⟩, hr⟩ := h
  refine ⟨h0, inner, ⟨hl, ?_⟩, hr.imp_ (fun p c hp => impl_LayFlow.raise130 hp)⟩
  rcases ho with ho | ⟨g, cap, cur, hv, hg, r⟩
  · exact .inl ho
  · exact .inr ⟨g, cap, cur, hv, hB g (by rw [hv]; rfl), r⟩
theorem impl_LayFlow.raise {w : World} {B : Nat} {ok : Nat → Prop} {x : S99} {cs : List Value} (h : k99.M w 0 ok x cs) (hB : ∀ k, ok k → B ≤ k) : k99.M w B ok x cs := by
  obtain ⟨v0, rfl, hr⟩ := k99_openM h
  exact k99_mkM w B ok x (impl_LayFlow.raiseR hr (fun k hk => hB k (hr.1 k hk)))
theorem impl_LayFlow.kt_fst {w : World} {ok : Nat → Prop} {x : S99 × Value} {c : List Value} (h : Kd.FK impl_LayFlow.kt w ok x c) : Kd.FK k99 w ok x.1 c := fun W' hW => k99.K_of_M (h W' hW).2
theorem impl_LayFlow.fst {w : World} {base : Nat} {ok : Nat → Prop} {v : Value} {xs : List S99} {vs : List Value} (hl : vs.length = xs.length) (h : Kd.N impl_LayFlow.kt 99 w base ok v (xs.zip vs)) : Kd.N k99 99 w base ok v xs := by
  obtain ⟨h0, rows, hn, hR, hf⟩ := h
  refine ⟨h0, rows, by rw [hn]; simp [hl], hR, fun j x c hx hc => ?_⟩
  have hj : j < xs.length := (List.getElem?_eq_some_iff.1 hx).1
  have hz : (xs.zip vs)[j]? = some (x, vs[j]'(by omega)) := by
    rw [List.getElem?_zip_eq_some]
    exact ⟨hx, List.getElem?_eq_getElem (by omega)⟩
  exact impl_LayFlow.kt_fst (hf j _ c hz hc)
/-- The values of the codes of rows that lie apart. -/
theorem impl_LayFlow.tell {w : World} {base : Nat} {ok : Nat → Prop} {v : Value} {xs : List S99} (h : Kd.S k99 99 w base ok v xs) :
    ∃ vs : List Value, vs.length = xs.length ∧ (∀ u ∈ vs, ∀ k, u.ownBlock = some k → base ≤ k) ∧ (∀ (i j : Nat) (u u' : Value) (k : Nat), vs[i]? = some u → vs[j]? = some u' → u.ownBlock = some k → u'.ownBlock = some k → i = j) ∧ Kd.N impl_LayFlow.kt 99 w base ok v (xs.zip vs) := by
  obtain ⟨f, h0, inner, ho, hr⟩ := h
  rw [List.length_zipIdx] at ho
  have hrl : inner.length = xs.length * 4 := by have := hr.1; rw [List.length_zipIdx] at this; exact this
  have hM : ∀ j (hj : j < xs.length), ∃ v0, (inner.drop (j * 4)).take 4 = [v0, .int .i64 xs[j].f1, .int .i64 xs[j].f2, .int .i64 xs[j].f3] ∧ k130.R 130 w base (fun k => (ok k ∧ some k ≠ v.ownBlock) ∧ f k = j) v0 xs[j].f0 := fun j hj => by
    have := hr.2 j (xs[j], j) (Kd.zip_at (List.getElem?_eq_getElem hj))
    exact k99_openM this
  have hcell : ∀ j (hj : j < xs.length), inner[j * 4]? = ((inner.drop (j * 4)).take 4)[0]? := fun j hj => by
    rw [List.getElem?_take_of_lt (by omega), List.getElem?_drop]; rfl
  refine ⟨(List.range xs.length).map (fun j => (inner[j * 4]?).getD impl_LayFlow.dv), by simp, ?_, ?_, ?_⟩
  · intro u hu k hk
    obtain ⟨j, hj, rfl⟩ := List.mem_map.1 hu
    have hj := List.mem_range.1 hj
    obtain ⟨v0, hv, hR⟩ := hM j hj
    rw [hcell j hj, hv] at hk
    exact Kd.R_base hR k hk
  · intro i j u u' k hi hj hk hk'
    have hil : i < xs.length := by have := (List.getElem?_eq_some_iff.1 hi).1; simpa using this
    have hjl : j < xs.length := by have := (List.getElem?_eq_some_iff.1 hj).1; simpa using this
    simp only [List.getElem?_map, List.getElem?_range hil, List.getElem?_range hjl, Option.map_some, Option.some.injEq] at hi hj
    obtain ⟨v0, hv, hR⟩ := hM i hil
    obtain ⟨v1, hv', hR'⟩ := hM j hjl
    rw [hcell i hil, hv] at hi
    rw [hcell j hjl, hv'] at hj
    subst hi hj
    have a := (hR.1 k hk).2
    have b := (hR'.1 k hk').2
    omega
  · refine ⟨h0, Kd.chunks 4 xs.length inner, by rw [Kd.chunks_length]; simp, ⟨fun k hk => hk.symm, inner, by rw [Kd.chunks_length]; exact ho, by
      have := Kd.reps_raw (Rr := fun (x : S99 × Nat) cs => (Kd.tag f k99).M w base (fun k => ok k ∧ some k ≠ v.ownBlock) x cs) hr (fun x c hp => ⟨k99.K_len (k99.K_of_M hp), k99.K_one (k99.K_of_M hp)⟩)
      rw [List.length_zipIdx] at this
      exact this⟩, fun j x c hx hc => ?_⟩
    rw [Kd.chunks_get hc]
    rw [List.getElem?_zip_eq_some] at hx
    obtain ⟨hx1, hx2⟩ := hx
    have hj : j < xs.length := (List.getElem?_eq_some_iff.1 hx1).1
    obtain ⟨v0, hv, hR⟩ := hM j hj
    simp only [List.getElem?_map, List.getElem?_range hj, Option.map_some, Option.some.injEq] at hx2
    rw [hcell j hj, hv] at hx2
    have e1 : xs[j] = x.1 := by rw [List.getElem?_eq_getElem hj] at hx1; exact Option.some.inj hx1
    have e2 : v0 = x.2 := hx2
    intro W' hW
    refine ⟨by rw [hv, e2]; rfl, ?_⟩
    have hR2 : k130.R 130 w base (fun k => some k = v0.ownBlock) v0 xs[j].f0 := Kd.R_tight rfl hR
    have hR3 : k130.R 130 W' base (fun k => some k = v0.ownBlock) v0 xs[j].f0 := Kd.R_step hR2 (fun k hk hlt => hW k (hR.1 k hk.symm).1 hlt)
    rw [hv]
    rw [e2, e1] at hR3 
    rw [e1, e2]
    exact k99_mkM W' 0 _ x.1 (Kd.R_lower hR3 (Nat.zero_le _))
theorem impl_LayFlow.get {w : World} {base : Nat} {ok : Nat → Prop} {ad : Addr} {n c : Nat} {xs : List S99} {vs : List Value} (hl : vs.length = xs.length) (h : Kd.N impl_LayFlow.kt 99 w base ok (.slice (some ad) n c) (xs.zip vs)) (i : Int) (h0 : 0 ≤ i) (h1 : i < xs.length) :
    ∃ cs, cs.length = 4 ∧ Kd.FK impl_LayFlow.kt w (fun k => ok k ∧ some k ≠ (Value.slice (some ad) n c).ownBlock) (rd_T99 xs i, impl_LayFlow.g vs i) cs ∧ ∀ j u, cs[j]? = some u → w.cell? (ad.add (i.toNat * 4 + j)) = some u := by
  have hn := (Kd.N_reads' h).1
  obtain ⟨cs, hc, hK, hcc⟩ := Kd.N_get h (z99, impl_LayFlow.dv) i h0 (by rw [hn]; simp [hl]; omega)
  refine ⟨cs, hc, ?_, hcc⟩
  have e : (xs.zip vs).getD i.toNat (z99, impl_LayFlow.dv) = (rd_T99 xs i, impl_LayFlow.g vs i) := by
    have hi : i.toNat < xs.length := by omega
    have hi' : i.toNat < vs.length := by omega
    have hz : (xs.zip vs)[i.toNat]? = some (xs[i.toNat], vs[i.toNat]) := by
      rw [List.getElem?_zip_eq_some]
      exact ⟨List.getElem?_eq_getElem hi, List.getElem?_eq_getElem hi'⟩
    simp [List.getD, rd_T99, impl_LayFlow.g, hi, hi', hz]
  rw [← e]
  exact hK
theorem impl_LayFlow.same {w : World} {base : Nat} {ok : Nat → Prop} {ad : Addr} {n c : Nat} {xs : List S99} {vs : List Value} (hl : vs.length = xs.length) (h : Kd.N impl_LayFlow.kt 99 w base ok (.slice (some ad) n c) (xs.zip vs)) (i : Int) (h0 : 0 ≤ i) (h1 : i < xs.length) {u : Value} (hu : w.cell? (ad.add (i.toNat * 4)) = some u) : u = impl_LayFlow.g vs i := by
  obtain ⟨cs, hc, hK, hcc⟩ := impl_LayFlow.get hl h i h0 h1
  have h2 := (Kd.FK_now hK).1
  have := hcc 0 _ h2
  rw [Nat.add_zero, hu] at this
  exact Option.some.inj this
theorem impl_LayFlow.put {w : World} {base : Nat} {ok okp : Nat → Prop} {ad : Addr} {n c : Nat} {xs : List S99} {vs : List Value} (hl : vs.length = xs.length) (i : Int) (h0 : 0 ≤ i) (h1 : i < xs.length) {u : Value} (hu : u = impl_LayFlow.g vs i) (a b : Int) (h : Kd.N impl_LayFlow.kt 99 w base ok (.slice (some ad) n c) (xs.zip vs)) (hok : ∀ k, ok k ∧ some k ≠ (Value.slice (some ad) n c).ownBlock → okp k) :
    Kd.FK impl_LayFlow.kt w okp ((⟨(rd_T99 xs i).f0, (rd_T99 xs i).f1, a, b⟩ : S99), impl_LayFlow.g vs i) [u, .int .i64 (rd_T99 xs i).f1, .int .i64 a, .int .i64 b] := by
  obtain ⟨cs, hc, hK, hcc⟩ := impl_LayFlow.get hl h i h0 h1
  intro W' hW
  obtain ⟨k1, k2⟩ := hK W' (fun k hk hlt => hW k (hok k hk) hlt)
  obtain ⟨v0, rfl, hR⟩ := k99_openM k2
  have e : v0 = u := by rw [hu]; exact Option.some.inj k1
  subst e
  exact ⟨by rw [hu]; rfl, k99_mkM W' 0 _ (⟨(rd_T99 xs i).f0, (rd_T99 xs i).f1, a, b⟩ : S99) hR⟩
def impl_LayFlow.zt (vs : List Value) (xs : List S99) (l : List Int) : List (S99 × Value) := xs.zip ((l.take xs.length).map (impl_LayFlow.g vs))
theorem impl_LayFlow.zt_nil (vs : List Value) (l : List Int) : impl_LayFlow.zt vs [] l = [] := rfl
theorem impl_LayFlow.zt_len (vs : List Value) (xs : List S99) (l : List Int) : (impl_LayFlow.zt vs xs l).length ≤ xs.length := by
  unfold impl_LayFlow.zt; rw [List.length_zip]; exact Nat.min_le_left _ _
theorem impl_LayFlow.zt_snoc (vs : List Value) (xs : List S99) (l : List Int) (p : S99) {i : Int} (h : (xs.length : Int) = i ∧ i ≤ l.length) (h1 : i < l.length) : impl_LayFlow.zt vs xs l ++ [(p, impl_LayFlow.g vs (rd l i))] = impl_LayFlow.zt vs (xs ++ [p]) l := by
  have hx : xs.length < l.length := by omega
  have hr : rd l i = l[xs.length] := by
    rw [← h.1]; simp [rd, List.getD, hx]
  unfold impl_LayFlow.zt
  rw [hr, List.length_append, List.length_singleton, List.take_succ_eq_append_getElem hx, List.map_append, List.map_singleton, List.zip_append (by simp; omega)]
  rfl
theorem impl_LayFlow.apart {w : World} {base : Nat} {ok : Nat → Prop} {v : Value} {xs ys : List S99} {vs : List Value} {l : List Int} {i : Int} (hl : vs.length = ys.length) (hb : ∀ u ∈ vs, ∀ k, u.ownBlock = some k → base ≤ k)
    (hd : ∀ (i j : Nat) (u u' : Value) (k : Nat), vs[i]? = some u → vs[j]? = some u' → u.ownBlock = some k → u'.ownBlock = some k → i = j)
    (hn : l.Nodup ∧ ∀ i ∈ l, 0 ≤ i ∧ i < (ys.length : Int)) (hi : (xs.length : Int) = i ∧ i ≤ l.length) (h : Kd.N impl_LayFlow.kt 99 w base ok v (impl_LayFlow.zt vs xs l)) (hok : ∀ k, ok k → base ≤ k) : Kd.S k99 99 w base (fun k => base ≤ k) v xs := by
  obtain ⟨h0, rows, hr, hR, hf⟩ := h
  have hxl : xs.length ≤ l.length := by omega
  have hzl : (impl_LayFlow.zt vs xs l).length = xs.length := by unfold impl_LayFlow.zt; simp; omega
  have hz : ∀ j (hj : j < xs.length), (impl_LayFlow.zt vs xs l)[j]? = some (xs[j], impl_LayFlow.g vs (l[j]'(by omega))) := fun j hj => by
    unfold impl_LayFlow.zt
    rw [List.getElem?_zip_eq_some]
    refine ⟨List.getElem?_eq_getElem hj, ?_⟩
    rw [List.getElem?_map, List.getElem?_take_of_lt (by omega), List.getElem?_eq_getElem (by omega)]
    rfl
  have hg : ∀ j (hj : j < xs.length), vs[(l[j]'(by omega)).toNat]? = some (impl_LayFlow.g vs (l[j]'(by omega))) := fun j hj => by
    have := hn.2 (l[j]'(by omega)) (List.getElem_mem _)
    have h3 : (l[j]'(by omega)).toNat < vs.length := by omega
    unfold impl_LayFlow.g
    rw [List.getD_eq_getElem?_getD, List.getElem?_eq_getElem h3]
    rfl
  have inj : ∀ (j j' : Nat) (hj : j < xs.length) (hj' : j' < xs.length) (k : Nat), (impl_LayFlow.g vs (l[j]'(by omega))).ownBlock = some k → (impl_LayFlow.g vs (l[j']'(by omega))).ownBlock = some k → j = j' := fun j j' hj hj' k hk hk' => by
    have e := hd _ _ _ _ k (hg j hj) (hg j' hj') hk hk'
    have a := hn.2 (l[j]'(by omega)) (List.getElem_mem _)
    have b := hn.2 (l[j']'(by omega)) (List.getElem_mem _)
    have hpw := List.pairwise_iff_getElem.1 hn.1
    rcases Nat.lt_trichotomy j j' with h1 | h1 | h1
    · exact absurd (by omega) (hpw j j' (by omega) (by omega) h1)
    · exact h1
    · exact absurd (by omega) (hpw j' j (by omega) (by omega) h1)
  let f : Nat → Nat := fun k => (List.range xs.length).findIdx (fun j => decide ((impl_LayFlow.g vs (l.getD j 0)).ownBlock = some k))
  have hfk : ∀ (j : Nat) (hj : j < xs.length) (k : Nat), (impl_LayFlow.g vs (l[j]'(by omega))).ownBlock = some k → f k = j := fun j hj k hk => by
    have hjl : j < (List.range xs.length).length := by simpa using hj
    have e : ∀ q (hq : q < xs.length), l.getD q 0 = l[q]'(by omega) := fun q hq => by
      rw [List.getD_eq_getElem?_getD, List.getElem?_eq_getElem (by omega)]; rfl
    show (List.range xs.length).findIdx _ = j
    rw [List.findIdx_eq hjl]
    refine ⟨by simp only [List.getElem_range, decide_eq_true_eq]; rw [e j hj]; exact hk, fun q hq => ?_⟩
    have hql : q < xs.length := by omega
    simp only [List.getElem_range, decide_eq_false_iff_not]
    rw [e q hql]
    intro hc
    have := inj q j hql hj k hc hk
    omega
  obtain ⟨_, inner, ho, hrr⟩ := hR
  have hrl : rows.length = xs.length := by omega
  rw [hrl] at ho
  refine ⟨f, fun k hk => hok k (h0 k hk), inner, by rw [List.length_zipIdx]; exact ho, by rw [List.length_zipIdx]; have := hrr.1; rw [hrl] at this; exact this, fun j p hj => ?_⟩
  have hjl : j < xs.length := by have := (List.getElem?_eq_some_iff.1 hj).1; simpa using this
  have ep : p = (xs[j], j) := by
    have := Kd.zip_at (List.getElem?_eq_getElem hjl)
    rw [hj] at this; exact Option.some.inj this
  subst ep
  have hc := hrr.2 j (rows[j]'(by omega)) (List.getElem?_eq_getElem (by omega))
  have hK := Kd.FK_now (hf j _ _ (hz j hjl) (List.getElem?_eq_getElem (by omega)))
  have hM := hK.2
  have hce : (inner.drop (j * (Kd.raw impl_LayFlow.kt.sz).sz)).take (Kd.raw impl_LayFlow.kt.sz).sz = rows[j]'(by omega) := hc.1
  show k99.M w base (fun k => (base ≤ k ∧ some k ≠ v.ownBlock) ∧ f k = j) xs[j] ((inner.drop (j * 4)).take 4)
  have hce' : (inner.drop (j * 4)).take 4 = rows[j]'(by omega) := hce
  rw [hce']
  have hbk : ∀ k, some k = (impl_LayFlow.g vs (l[j]'(by omega))).ownBlock → base ≤ k := fun k hk => hb _ (List.mem_of_getElem? (hg j hjl)) k hk.symm
  have hM2 := impl_LayFlow.raise hM hbk
  have hty : ∀ k, v.ownBlock = some k → ∃ cells, w.heap[k]? = some (.cells cells 99 (0, 0)) := fun k hk => own_typed ho k hk
  refine k99.M_mono (fun k hk => ?_) (k99.M_bound hM2)
  obtain ⟨hk1, hk2, hk3, q, hq, cells, hcl⟩ := hk
  refine ⟨⟨hk2, fun he => ?_⟩, hfk j hjl k hk1.symm⟩
  obtain ⟨cells', hcl'⟩ := hty k he.symm
  rw [hcl] at hcl'
  injection hcl' with hcl'
  injection hcl' with _ hq'
  rw [hq'] at hq
  exact absurd hq (by decide)
theorem impl_LayFlow.nextI {xs ys : List S99} {p : S99} {l : List Int} {i : Int} (h : (xs.length : Int) = i ∧ i ≤ (l.length : Int)) (h1 : i < (l.length : Int)) (hy : ys = xs ++ [p]) (hl : xs.length < 2932031007402) : (ys.length : Int) = wrap64 (i + 1) ∧ wrap64 (i + 1) ≤ (l.length : Int) := by
  subst hy
  have : wrap64 (i + 1) = i + 1 := by unfold wrap64; omega
  rw [this, List.length_append, List.length_singleton]
  omega
set_option maxHeartbeats 8000000 in
set_option maxRecDepth 100000 in
theorem impl_LayFlow.calls (k : Nat) (A0 : Option Addr) (c0 : Nat) (l0 : List (S99)) (A1 : Option Addr) (c1 : Nat) (l1 : List Int) (r1 : List (S99)) (r2 : Bool) (w : World) (hr0 : Kd.C k99 w A0 l0.length l0) (hc0 : l0.length ≤ c0) (hr1 : Kd.C (Kd.int .i64) w A1 l1.length l1) (hc1 : l1.length ≤ c1) (h : impl_LayFlow.f k l0 l1 = some (r1, r2)) :
  Calls Try.prog 41 #[.slice A0 l0.length c0, .slice A1 l1.length c1] w fun e w' => ∃ v0_ : Value, e = .returned (.tuple #[v0_, .bool r2]) ∧ Kd.S k99 99 w' w.heap.size (fun _ => True) v0_ r1 ∧ Below w.heap.size w w' := by
 have hu99 := Try.underlying99
 have HR0 := Aside0.mk hr0
 have HC0 := Aside0.mk hc0
 clear hr0 hc0
 have HR1 := Aside0.mk hr1
 have HC1 := Aside0.mk hc1
 clear hr1 hc1
 have HB := Aside0.mk (Below.refl w.heap.size w)
 have H : ((impl_isFlow.f k l0).bind fun t243 => (if t243 = true then ((impl_isLayout.f k (l0.length : Int) l1).bind fun t244 => (impl_LayFlow.j0 k l0 l1 (!t244))) else (impl_LayFlow.j0 k l0 l1 true))) = some (r1, r2) := h
 clear h
 have HC3 := Aside0.mk H
 clear H
 go_enter Try.func41, Try.ntmps41
 go_upto_region 1 with (fail)
 go_cut [20] (fun v20 wc => ∃ (kq : Nat) (x20_2 : Bool), v20 = .bool x20_2 ∧ Aside0 (impl_LayFlow.j0 kq l0 l1 x20_2 = some (r1, r2)) ∧ Aside0 (kq ≤ k) ∧ Aside0 (Below w.heap.size w wc))
 case first =>
  have H := HC3.out
  clear HC3
  replace H := lO H
  obtain ⟨t243, A4, H⟩ := H
  by_cases c5 : t243 = true
  ·subst c5
   rw [if_pos rfl] at H
   replace H := lO H
   obtain ⟨t244, A6, H⟩ := H
   have H' := Aside0.mk H
   clear H
   go_wp2_with (first | ((with_reducible refine gate_callee (f := 77) rfl ?_); refine gl_ (some 12) (Try.func77) #[.slice A0 l0.length c0] ?_; (with_reducible refine (impl_isFlow.calls k _ _ l0 true _ ?side1 ?side2 A4.out).mono ?_); (case side1 => exact lC (Kd.C_below HR0.out HB.out)); (case side2 => exact HC0.out); rintro e w7 ⟨rfl, hb⟩; refine ⟨_, rfl, ?_⟩; have n0_ := Aside0.mk (below_step lB hb); clear HB; have HB := n0_; clear n0_; (try clear hb); (try clear hb2); (try clear hk); (try clear hi)) | (go_at_call 66; (with_reducible refine (impl_isLayout.calls k (l0.length : Int) _ _ l1 t244 _ ?side1 ?side2 A6.out).mono ?_); (case side1 => exact lC (Kd.C_below HR1.out HB.out)); (case side2 => exact HC1.out); rintro e w' ⟨rfl, ⟨nd, rfl⟩⟩))
   go_meet
   case rel => exact ⟨_, (!t244), lF, H', ⟨lN⟩, ⟨lB⟩⟩
  ·replace c5 := Bool.eq_false_iff.mpr c5
   subst c5
   rw [if_neg (show ¬ (false = true) by decide)] at H
   have H' := Aside0.mk H
   clear H
   go_wp2_with (first | ((with_reducible refine gate_callee (f := 77) rfl ?_); refine gl_ (some 12) (Try.func77) #[.slice A0 l0.length c0] ?_; (with_reducible refine (impl_isFlow.calls k _ _ l0 false _ ?side1 ?side2 A4.out).mono ?_); (case side1 => exact lC (Kd.C_below HR0.out HB.out)); (case side2 => exact HC0.out); rintro e w8 ⟨rfl, hb⟩; refine ⟨_, rfl, ?_⟩; have n0_ := Aside0.mk (below_step lB hb); clear HB; have HB := n0_; clear n0_; (try clear hb); (try clear hb2); (try clear hk); (try clear hi)))
   go_meet
   case rel => exact ⟨_, (true), lF, H', ⟨lN⟩, ⟨lB⟩⟩
 case rest =>
  clear HC3
  try clear c1
  try clear p2
  try clear c4
  try clear c5
  try clear c7
  obtain ⟨kq, x20_2, rfl, HA, HJ2, HB⟩ := hcut
  cases kq with
  | zero => exact absurd HA.out (by simp [impl_LayFlow.j0])
  | succ kj2 =>
   have H := HA.out
   clear HA
   simp only [impl_LayFlow.j0] at H
   by_cases c9 : x20_2 = true
   ·subst c9
    rw [if_pos rfl] at H
    simp only [Option.some.injEq, Prod.mk.injEq] at H
    obtain ⟨rfl, rfl⟩ := H
    go_wp2
    go_ret2
    exact ⟨_, lE, by first | exact Kd.S_nil _ _ _ _ _ | exact Kd.N_nil _ _ _ _ _ | exact Kd.V_nil _ _ _ _ _ | exact Kd.Q_nil _ _ _ _ _ | exact Kd.R_nil _ _ _ _ _, lB⟩
   ·replace c9 := Bool.eq_false_iff.mpr c9
    subst c9
    rw [if_neg (show ¬ (false = true) by decide)] at H
    replace H := lO H
    obtain ⟨t245, A10, H⟩ := H
    obtain ⟨y248, hy248⟩ : ∃ y_ : List (S99), y_ = (([] : List (S99))) := ⟨_, rfl⟩
    replace H : (impl_LayFlow.l0 kj2 l1 t245 y248 l1 (l1.length : Int) 0) = some (r1, r2) := by first | (rw [hy248]; with_reducible exact H) | (have H2_ := (Option.bind_some _ _).symm.trans H; rw [hy248]; with_reducible exact H2_) | (have H2_ := (Option.bind_some _ _).symm.trans H; with_reducible exact H2_) | with_reducible exact H | (rw [hy248]; exact H) | exact H
    have Ny248 := Aside0.mk hy248
    clear hy248
    have H' := Aside0.mk H
    clear H
    go_wp2_with (first | ((with_reducible refine gate_callee (f := 78) rfl ?_); refine gl_ (some 22) (Try.func78) #[.slice A0 l0.length c0] ?_; (with_reducible refine (impl_copyFlow.calls kj2 _ _ l0 t245 _ ?side1 ?side2 A10.out).mono ?_); (case side1 => exact lC (Kd.C_below HR0.out HB.out)); (case side2 => exact HC0.out); rintro e w11 ⟨v246, rfl, ho0, hb⟩; refine ⟨_, rfl, ?_⟩; obtain ⟨vs, hvl_, hvb_, hvd_, hvn_⟩ := impl_LayFlow.tell (Kd.S_bound ho0); have HVL := Aside0.mk hvl_; have HVB := Aside0.mk (fun u hu k hk => Nat.le_trans (below_size HB.out) (hvb_ u hu k hk)); have HVD := Aside0.mk hvd_; clear hvl_ hvb_ hvd_; have n0_ := Aside0.mk (Kd.N_lower (Kd.N_mono (ok' := fun k_ => (w.heap.size ≤ k_)) (hvn_) (fun k_ hk_ => (Nat.le_trans (below_size lB) hk_.2.1))) (below_size lB)); have n1_ := Aside0.mk (below_step lB hb); clear HB; have HO247 := n0_; have HB := n1_; clear n0_ n1_; (try clear hb); (try clear hb2); (try clear hk); (try clear hi); (try clear ho0)) | ((with_reducible refine gate_dst (N := 23) rfl ?_); (try (refine gate_guard (by rfl) ?_; dsimp only)); refine Kd.N_lit impl_LayFlow.kt _ 99 ?hg (N' := 23) ?hd (xs := ([] : List (S99 × Value))) (inner := []) (ok := (fun k_ => (w.heap.size ≤ k_) ∧ some k_ ≠ (v246 : Value).ownBlock)) (okp := (fun k_ => (w.heap.size ≤ k_) ∧ some k_ ≠ (v246 : Value).ownBlock)) ?hr ?hp (fun _ hk => hk) ((show ∀ k_, w11.heap.size ≤ k_ → (fun k_ => (w.heap.size ≤ k_) ∧ some k_ ≠ (v246 : Value).ownBlock) k_ from fun k_ hk => ⟨(Nat.le_trans (below_size lB) hk), Kd.fresh' (Kd.N_lt (by (with_reducible repeat (first | apply Kd.N_alloc | apply Kd.N_drewN | apply Kd.N_drew)); exact HO247.out)) k_ hk⟩) _ (Nat.le_refl _)) (Below.refl _ _) (Nat.le_refl _) (by simp) ?_; (case hd => rfl); (case hg => rfl); (case hr => first | (go_simp; done) | (go_simp; rfl)); (case hp => exact (Reps.none _ _)); intro v249 w12 ho13 hb hg_ hnew_; clear hg_ hnew_; have n0_ := Aside0.mk (Kd.N_elder' (by (with_reducible repeat (first | apply Kd.N_alloc | apply Kd.N_drewN | apply Kd.N_drew)); exact HO247.out) (Kd.N_base ho13) hb); have n1_ := Aside0.mk (Kd.N_lower ho13 (below_size lB)); have n2_ := Aside0.mk (below_step lB hb); clear HO247; clear HB; have HO247 := n0_; have HO250 := n1_; have HB := n2_; clear n0_ n1_ n2_; clear hb ho13))
    go_loopg [7, 26] kj2 (fun kq v7 v26 w' => ∃ (x7_2 : List (S99)) (x26_2 : Int), v26 = .int .i64 x26_2 ∧ Aside0 (impl_LayFlow.l0 kq l1 t245 x7_2 l1 (l1.length : Int) x26_2 = some (r1, r2)) ∧ Aside0 (kq ≤ kj2) ∧ Aside0 (Kd.N impl_LayFlow.kt 99 w' w.heap.size (fun k_ => (w.heap.size ≤ k_) ∧ some k_ ≠ (v7 : Value).ownBlock) v246 (t245.zip vs)) ∧ Aside0 (Kd.N impl_LayFlow.kt 99 w' w.heap.size (fun k_ => (w.heap.size ≤ k_) ∧ some k_ ≠ (v246 : Value).ownBlock) v7 (impl_LayFlow.zt vs x7_2 l1)) ∧ Aside0 ((x7_2.length : Int) = x26_2 ∧ x26_2 ≤ (l1.length : Int)) ∧ Aside0 (Below w.heap.size w w'))
    case atStart => exact ⟨(y248), (0), lF, H', ⟨Nat.le_refl _⟩, ⟨by (with_reducible repeat (first | apply Kd.N_alloc | apply Kd.N_drewN | apply Kd.N_drew)); exact HO247.out⟩, ⟨by rw [Ny248.out, impl_LayFlow.zt_nil]; (with_reducible repeat (first | apply Kd.N_alloc | apply Kd.N_drewN | apply Kd.N_drew)); exact HO250.out⟩, ⟨by rw [Ny248.out]; exact ⟨rfl, Int.natCast_nonneg _⟩⟩, ⟨lB⟩⟩
    case round =>
     clear H'
     try clear c1
     try clear p2
     try clear c4
     try clear c5
     try clear c7
     try clear c9
     try clear p2
     obtain ⟨x7_2, x26_2, rfl, HA, HK2, HO_6, HO_7, HLN, HB⟩ := hrel
     cases gk with
     | zero => exact absurd HA.out (by simp [impl_LayFlow.l0])
     | succ k2 =>
      have H := HA.out
      clear HA
      simp only [impl_LayFlow.l0] at H
      by_cases c14 : x26_2 < (l1.length : Int)
      ·rw [if_pos c14] at H
       have c14b0 : decide (x26_2 < (l1.length : Int)) = true := decide_eq_true c14
       clear c14
       by_cases c15 : 0 ≤ x26_2
       ·rw [if_pos c15] at H
        have c15b0 : decide (0 ≤ x26_2) = true := decide_eq_true c15
        clear c15
        by_cases c16 : x26_2 < (l1.length : Int)
        ·rw [if_pos c16] at H
         have c16b0 : decide (x26_2 < (l1.length : Int)) = true := decide_eq_true c16
         clear c16
         by_cases c17 : 0 ≤ (rd l1 x26_2)
         ·rw [if_pos c17] at H
          have c17b0 : decide (0 ≤ (rd l1 x26_2)) = true := decide_eq_true c17
          clear c17
          by_cases c18 : (rd l1 x26_2) < (t245.length : Int)
          ·rw [if_pos c18] at H
           have c18b0 : decide ((rd l1 x26_2) < (t245.length : Int)) = true := decide_eq_true c18
           clear c18
           by_cases c19 : ((rd_T99 t245 (rd l1 x26_2)).f2) ≥ 0
           ·rw [if_pos c19] at H
            have c19b0 : decide (0 ≤ ((rd_T99 t245 (rd l1 x26_2)).f2)) = true := decide_eq_true c19
            clear c19
            replace H := lO H
            obtain ⟨t254, A20, H⟩ := H
            by_cases c21 : ((rd_T99 t245 (rd l1 x26_2)).f3) ≥ 0
            ·rw [if_pos c21] at H
             have c21b0 : decide (0 ≤ ((rd_T99 t245 (rd l1 x26_2)).f3)) = true := decide_eq_true c21
             clear c21
             replace H := lO H
             obtain ⟨t255, A22, H⟩ := H
             by_cases c23 : x7_2.length < 2932031007402
             ·rw [if_pos c23] at H
              have LMc23 := Aside0.mk c23
              clear c23
              obtain ⟨y256, hy256⟩ : ∃ y_ : List (S99), y_ = (x7_2 ++ [(⟨(rd_T99 t245 (rd l1 x26_2)).f0, (rd_T99 t245 (rd l1 x26_2)).f1, t254, t255⟩ : S99)]) := ⟨_, rfl⟩
              replace H : (impl_LayFlow.l0 k2 l1 t245 y256 l1 (l1.length : Int) (wrap64 (x26_2 + 1))) = some (r1, r2) := by first | (rw [hy256]; with_reducible exact H) | (have H2_ := (Option.bind_some _ _).symm.trans H; rw [hy256]; with_reducible exact H2_) | (have H2_ := (Option.bind_some _ _).symm.trans H; with_reducible exact H2_) | with_reducible exact H | (rw [hy256]; exact H) | exact H
              have Ny256 := Aside0.mk hy256
              clear hy256
              have H' := Aside0.mk H
              clear H
              have p251 : 0 ≤ (x26_2 : Int) := lD
              have q251 : x26_2 < (l1.length : Int) := lD
              obtain ⟨ad251, e251, hx251_0⟩ := Kd.at_int HR1.out x26_2 p251 q251
              cases e251
              replace hx251_0 := pw_cell_below HB.out hx251_0
              replace p251 := eq_true p251
              replace q251 := eq_true q251
              obtain ⟨Ao24, co24, eo24⟩ := Kd.N_slice (impl_LayFlow.fst HVL.out HO_6.out)
              subst eo24
              have p252 : 0 ≤ ((rd l1 x26_2) : Int) := lD
              have q252 : (rd l1 x26_2) < (t245.length : Int) := lD
              obtain ⟨ad252, A252_0, c252_0, e252, hx252_0, hx252_1, hx252_2, hx252_3, hl252_0, hi252_0⟩ := at_T99 (Kd.N_reads' (impl_LayFlow.fst HVL.out HO_6.out)).2.2 (rd l1 x26_2) p252 q252
              cases e252
              have HVS := Aside0.mk (impl_LayFlow.same HVL.out HO_6.out (rd l1 x26_2) p252 q252 hx252_0)
              have HPI := Aside0.mk (And.intro p252 q252)
              obtain ⟨ce252, hce252, hMe252, hcc252⟩ := Kd.N_get (impl_LayFlow.fst HVL.out HO_6.out) z99 (rd l1 x26_2) p252 (by first | exact q252 | exact lD | (have e_ := (Kd.N_reads' (impl_LayFlow.fst HVL.out HO_6.out)).1; omega))
              obtain ⟨ua252_0, uc252_0, rfl, ul252_0, ge252_0⟩ := impl_LayFlow.openF hMe252
              have hv252_0 := hcc252 0 _ rfl
              rw [Nat.add_zero] at hv252_0
              replace hv252_0 := Option.some.inj (hv252_0.symm.trans hx252_0)
              injection hv252_0 with hva_ hvn_ hvc_
              rw [hva_] at ge252_0
              rw [hvc_] at ul252_0
              have HL252_0 := Aside0.mk (show Kd.V k130 130 _ w.heap.size _ _ ((rd_T99 t245 (rd l1 x26_2)).f0) from Kd.V_mk ul252_0 ge252_0)
              clear hva_ hvn_ hvc_ ge252_0 ul252_0
              clear hcc252 hce252
              have HR252_0 := Aside0.mk hi252_0
              have HC252_0 := Aside0.mk hl252_0
              clear hi252_0 hl252_0
              replace p252 := eq_true p252
              replace q252 := eq_true q252
              go_wp2_with (first | ((with_reducible refine gate_dst (N := 10) rfl ?_); (try (refine gate_guard (by rfl) ?_; dsimp only)); refine bxe 10 #[.slice none 0 0, .int .i64 0, .int .i64 0, .int .i64 0] 99 ?_; intro gb253 hg w25 hbox hb; have n0_ := Aside0.mk (Kd.N_below (Kd.N_elderB (by (with_reducible repeat (first | apply Kd.N_alloc | apply Kd.N_drewN | apply Kd.N_drew)); exact HO_6.out) gb253 (Nat.le_of_eq hg.symm)) hb); have n1_ := Aside0.mk (Kd.N_below (Kd.N_elderB (by (with_reducible repeat (first | apply Kd.N_alloc | apply Kd.N_drewN | apply Kd.N_drew)); exact HO_7.out) gb253 (Nat.le_of_eq hg.symm)) hb); have n2_ := Aside0.mk (Kd.V_below (Kd.V_elderB (by (with_reducible repeat (first | apply Kd.V_alloc | apply Kd.V_drewN | apply Kd.V_drew)); exact HL252_0.out) gb253 (Nat.le_of_eq hg.symm)) hb); have n3_ := Aside0.mk (Kd.C_below (by repeat (first | (with_reducible exact HR252_0.out) | (with_reducible refine Kd.C_alloc ?_ _) | (with_reducible refine Kd.C_drewN ?_ _) | (with_reducible refine Kd.C_drew ?_) | exact HR252_0.out | exact (Kd.V_reads' HL252_0.out).2.2)) hb); have n4_ := Aside0.mk (below_step lB hb); have n5_ := Aside0.mk (hbox); have n6_ := lG w hg; have n7_ := lG w hg; clear HO_6; clear HO_7; clear HL252_0; clear HR252_0; clear HB; have HO_6 := n0_; have HO_7 := n1_; have HL252_0 := n2_; have HR252_0 := n3_; have HB := n4_; have BK253 := n5_; have GW253 := n6_; have GE253 := n7_; clear n0_ n1_ n2_ n3_ n4_ n5_ n6_ n7_; clear hb hbox hg; obtain ⟨hcz26_0, hfz26_0, hcz26_1, hfz26_1, hcz26_2, hfz26_2, hcz26_3, hfz26_3⟩ := bk4 BK253.out) | ((with_reducible refine gate_store (t := 99) (p := 10) rfl ?_); refine store_event (t := 99) (p := 10) (v := ?vo_w27) (w1 := ((((w25.setCell ⟨gb253, 0, none⟩ (.slice A252_0 ((rd_T99 t245 (rd l1 x26_2)).f0).length c252_0)).setCell ⟨gb253, 1, none⟩ (.int .i64 ((rd_T99 t245 (rd l1 x26_2)).f1))).setCell ⟨gb253, 2, none⟩ (.int .i64 ((rd_T99 t245 (rd l1 x26_2)).f2))).setCell ⟨gb253, 3, none⟩ (.int .i64 ((rd_T99 t245 (rd l1 x26_2)).f3)))) ?hg ?ho ?hn ?hr ?_; (case ho => rfl); (case hg => rfl); (case hn => rfl); (case hr => first | (go_simp; done) | (go_simp; rfl)); intro w27 hw; have n0_ : Aside0 (Kd.N impl_LayFlow.kt 99 w27 w.heap.size (fun k_ => (w.heap.size ≤ k_) ∧ some k_ ≠ (u7 : Value).ownBlock ∧ k_ ≠ gb253) (.slice (some ad252) t245.length co24) (t245.zip vs)) := ⟨(by rw [hw]; exact (by (with_reducible repeat (first | apply Kd.N_alloc | apply Kd.N_drewN | apply Kd.N_drew)); exact Kd.N_mono (Kd.N_far (p := ⟨gb253, 3, none⟩) (Kd.N_far (p := ⟨gb253, 2, none⟩) (Kd.N_far (p := ⟨gb253, 1, none⟩) (Kd.N_far (p := ⟨gb253, 0, none⟩) (Kd.N_mono HO_6.out (fun k_ hk => (⟨hk, hk.2⟩ : _ ∧ k_ ≠ gb253))) (fun _ hk => hk.2) (.slice A252_0 ((rd_T99 t245 (rd l1 x26_2)).f0).length c252_0)) (fun _ hk => hk.2) (.int .i64 ((rd_T99 t245 (rd l1 x26_2)).f1))) (fun _ hk => hk.2) (.int .i64 ((rd_T99 t245 (rd l1 x26_2)).f2))) (fun _ hk => hk.2) (.int .i64 ((rd_T99 t245 (rd l1 x26_2)).f3))) (fun _ hk => ⟨hk.1.1.1, ⟨hk.1.1.2, hk.1.2⟩⟩)))⟩; have n1_ : Aside0 (Kd.N impl_LayFlow.kt 99 w27 w.heap.size (fun k_ => (w.heap.size ≤ k_) ∧ some k_ ≠ (.slice (some ad252) t245.length co24 : Value).ownBlock ∧ k_ ≠ gb253) u7 (impl_LayFlow.zt vs x7_2 l1)) := ⟨(by rw [hw]; exact (by (with_reducible repeat (first | apply Kd.N_alloc | apply Kd.N_drewN | apply Kd.N_drew)); exact Kd.N_mono (Kd.N_far (p := ⟨gb253, 3, none⟩) (Kd.N_far (p := ⟨gb253, 2, none⟩) (Kd.N_far (p := ⟨gb253, 1, none⟩) (Kd.N_far (p := ⟨gb253, 0, none⟩) (Kd.N_mono HO_7.out (fun k_ hk => (⟨hk, hk.2⟩ : _ ∧ k_ ≠ gb253))) (fun _ hk => hk.2) (.slice A252_0 ((rd_T99 t245 (rd l1 x26_2)).f0).length c252_0)) (fun _ hk => hk.2) (.int .i64 ((rd_T99 t245 (rd l1 x26_2)).f1))) (fun _ hk => hk.2) (.int .i64 ((rd_T99 t245 (rd l1 x26_2)).f2))) (fun _ hk => hk.2) (.int .i64 ((rd_T99 t245 (rd l1 x26_2)).f3))) (fun _ hk => ⟨hk.1.1.1, ⟨hk.1.1.2, hk.1.2⟩⟩)))⟩; have n2_ : Aside0 (Kd.V k130 130 w27 w.heap.size (fun k_ => (w.heap.size ≤ k_) ∧ some k_ ≠ (.slice (some ad252) t245.length co24 : Value).ownBlock ∧ some k_ ≠ (u7 : Value).ownBlock ∧ k_ ≠ gb253) (.slice A252_0 ((rd_T99 t245 (rd l1 x26_2)).f0).length c252_0) ((rd_T99 t245 (rd l1 x26_2)).f0)) := ⟨(by rw [hw]; exact (by (with_reducible repeat (first | apply Kd.V_alloc | apply Kd.V_drewN | apply Kd.V_drew)); exact Kd.V_mono (Kd.V_far (p := ⟨gb253, 3, none⟩) (Kd.V_far (p := ⟨gb253, 2, none⟩) (Kd.V_far (p := ⟨gb253, 1, none⟩) (Kd.V_far (p := ⟨gb253, 0, none⟩) (Kd.V_mono HL252_0.out (fun k_ hk => (⟨hk, hk.2⟩ : _ ∧ k_ ≠ gb253))) (fun _ hk => hk.2) (.slice A252_0 ((rd_T99 t245 (rd l1 x26_2)).f0).length c252_0)) (fun _ hk => hk.2) (.int .i64 ((rd_T99 t245 (rd l1 x26_2)).f1))) (fun _ hk => hk.2) (.int .i64 ((rd_T99 t245 (rd l1 x26_2)).f2))) (fun _ hk => hk.2) (.int .i64 ((rd_T99 t245 (rd l1 x26_2)).f3))) (fun _ hk => ⟨hk.1.1.1.1, ⟨hk.1.1.2, ⟨hk.1.1.1.2, hk.1.2⟩⟩⟩)))⟩; have n3_ : Aside0 (w27.heap[gb253]? = some (.cells #[.slice A252_0 ((rd_T99 t245 (rd l1 x26_2)).f0).length c252_0, .int .i64 ((rd_T99 t245 (rd l1 x26_2)).f1), .int .i64 ((rd_T99 t245 (rd l1 x26_2)).f2), .int .i64 ((rd_T99 t245 (rd l1 x26_2)).f3)] 99 (0, 0))) := ⟨(by rw [hw]; exact (by (with_reducible repeat first | apply bN | apply bD | apply bA); refine blk_put (cs := #[.slice A252_0 ((rd_T99 t245 (rd l1 x26_2)).f0).length c252_0, .int .i64 ((rd_T99 t245 (rd l1 x26_2)).f1), .int .i64 ((rd_T99 t245 (rd l1 x26_2)).f2), .int .i64 0]) ?_ 3 _ rfl; (with_reducible repeat first | apply bN | apply bD | apply bA); refine blk_put (cs := #[.slice A252_0 ((rd_T99 t245 (rd l1 x26_2)).f0).length c252_0, .int .i64 ((rd_T99 t245 (rd l1 x26_2)).f1), .int .i64 0, .int .i64 0]) ?_ 2 _ rfl; (with_reducible repeat first | apply bN | apply bD | apply bA); refine blk_put (cs := #[.slice A252_0 ((rd_T99 t245 (rd l1 x26_2)).f0).length c252_0, .int .i64 0, .int .i64 0, .int .i64 0]) ?_ 1 _ rfl; (with_reducible repeat first | apply bN | apply bD | apply bA); refine blk_put (cs := #[.slice none 0 0, .int .i64 0, .int .i64 0, .int .i64 0]) ?_ 0 _ rfl; (with_reducible repeat first | apply bN | apply bD | apply bA); exact BK253.out))⟩; have n4_ : Aside0 (Below w.heap.size w w27) := ⟨(by rw [hw]; exact lB)⟩; clear hw; clear HO_6; clear HO_7; clear HL252_0; clear BK253; clear HB; have HO_6 := n0_; have HO_7 := n1_; have HL252_0 := n2_; have BK253 := n3_; have HB := n4_; clear n0_ n1_ n2_ n3_ n4_; obtain ⟨hcz28_0, hfz28_0, hcz28_1, hfz28_1, hcz28_2, hfz28_2, hcz28_3, hfz28_3⟩ := bk4 BK253.out) | ((with_reducible refine gate_callee (f := 79) rfl ?_); refine gl_ (some 40) (Try.func79) #[.slice (some ad251) l1.length c1, .int .i64 ((rd_T99 t245 (rd l1 x26_2)).f2)] ?_; (with_reducible refine (slices_Index_int_int.calls k2 _ _ l1 ((rd_T99 t245 (rd l1 x26_2)).f2) t254 _ ?side1 ?side2 A20.out).mono ?_); (case side1 => exact lC (Kd.C_below HR1.out HB.out)); (case side2 => exact HC1.out); rintro e w' ⟨rfl, ⟨nd, rfl⟩⟩; refine ⟨_, rfl, ?_⟩; (try (rw [drewN_self w27]; generalize hq_ : World.drewN w27 _ = w27; have n0_ : Aside0 (Kd.V k130 130 w27 w.heap.size (fun k_ => (w.heap.size ≤ k_) ∧ some k_ ≠ (.slice (some ad252) t245.length co24 : Value).ownBlock ∧ some k_ ≠ (u7 : Value).ownBlock ∧ k_ ≠ gb253) (.slice A252_0 ((rd_T99 t245 (rd l1 x26_2)).f0).length c252_0) ((rd_T99 t245 (rd l1 x26_2)).f0)) := ⟨by rw [← hq_]; exact (by (with_reducible repeat (first | apply Kd.V_alloc | apply Kd.V_drewN | apply Kd.V_drew)); exact HL252_0.out)⟩; have n1_ : Aside0 (Kd.N impl_LayFlow.kt 99 w27 w.heap.size (fun k_ => (w.heap.size ≤ k_) ∧ some k_ ≠ (u7 : Value).ownBlock ∧ k_ ≠ gb253) (.slice (some ad252) t245.length co24) (t245.zip vs)) := ⟨by rw [← hq_]; exact (by (with_reducible repeat (first | apply Kd.N_alloc | apply Kd.N_drewN | apply Kd.N_drew)); exact HO_6.out)⟩; have n2_ : Aside0 (Kd.N impl_LayFlow.kt 99 w27 w.heap.size (fun k_ => (w.heap.size ≤ k_) ∧ some k_ ≠ (.slice (some ad252) t245.length co24 : Value).ownBlock ∧ k_ ≠ gb253) u7 (impl_LayFlow.zt vs x7_2 l1)) := ⟨by rw [← hq_]; exact (by (with_reducible repeat (first | apply Kd.N_alloc | apply Kd.N_drewN | apply Kd.N_drew)); exact HO_7.out)⟩; have n3_ : Aside0 (w27.heap[gb253]? = some (.cells #[.slice A252_0 ((rd_T99 t245 (rd l1 x26_2)).f0).length c252_0, .int .i64 ((rd_T99 t245 (rd l1 x26_2)).f1), .int .i64 ((rd_T99 t245 (rd l1 x26_2)).f2), .int .i64 ((rd_T99 t245 (rd l1 x26_2)).f3)] 99 (0, 0))) := ⟨by rw [← hq_]; exact (lK BK253.out)⟩; have n4_ : Aside0 (Below w.heap.size w w27) := ⟨by rw [← hq_]; exact lB⟩; have n5_ : Aside0 (Kd.C k130 w27 A252_0 ((rd_T99 t245 (rd l1 x26_2)).f0).length ((rd_T99 t245 (rd l1 x26_2)).f0)) := ⟨by rw [← hq_]; exact (by repeat (first | (with_reducible exact HR252_0.out) | (with_reducible refine Kd.C_alloc ?_ _) | (with_reducible refine Kd.C_drewN ?_ _) | (with_reducible refine Kd.C_drew ?_) | exact HR252_0.out | exact (Kd.V_reads' HL252_0.out).2.2))⟩; clear HL252_0 HO_6 HO_7 BK253 HB HR252_0 hq_; have HL252_0 := n0_; have HO_6 := n1_; have HO_7 := n2_; have BK253 := n3_; have HB := n4_; have HR252_0 := n5_; clear n0_ n1_ n2_ n3_ n4_ n5_)); (try (obtain ⟨hcy253_0, hfy253_0, hcy253_1, hfy253_1, hcy253_2, hfy253_2, hcy253_3, hfy253_3⟩ := bk4 BK253.out))) | ((with_reducible refine gate_store (t := 3) (p := 41) rfl ?_); refine store_event (t := 3) (p := 41) (v := ?vo_w29) (w1 := (w27.setCell ⟨gb253, 2, none⟩ (.int .i64 t254))) ?hg ?ho ?hn ?hr ?_; (case ho => rfl); (case hg => rfl); (case hn => rfl); (case hr => first | (go_simp; done) | (go_simp; rfl)); intro w29 hw; have n0_ : Aside0 (Kd.N impl_LayFlow.kt 99 w29 w.heap.size (fun k_ => (w.heap.size ≤ k_) ∧ some k_ ≠ (u7 : Value).ownBlock ∧ k_ ≠ gb253) (.slice (some ad252) t245.length co24) (t245.zip vs)) := ⟨(by rw [hw]; exact (by (with_reducible repeat (first | apply Kd.N_alloc | apply Kd.N_drewN | apply Kd.N_drew)); exact Kd.N_mono (Kd.N_far (p := ⟨gb253, 2, none⟩) (Kd.N_mono HO_6.out (fun k_ hk => (⟨hk, hk.2.2⟩ : _ ∧ k_ ≠ gb253))) (fun _ hk => hk.2) (.int .i64 t254)) (fun _ hk => ⟨hk.1.1, ⟨hk.1.2.1, hk.1.2.2⟩⟩)))⟩; have n1_ : Aside0 (Kd.N impl_LayFlow.kt 99 w29 w.heap.size (fun k_ => (w.heap.size ≤ k_) ∧ some k_ ≠ (.slice (some ad252) t245.length co24 : Value).ownBlock ∧ k_ ≠ gb253) u7 (impl_LayFlow.zt vs x7_2 l1)) := ⟨(by rw [hw]; exact (by (with_reducible repeat (first | apply Kd.N_alloc | apply Kd.N_drewN | apply Kd.N_drew)); exact Kd.N_mono (Kd.N_far (p := ⟨gb253, 2, none⟩) (Kd.N_mono HO_7.out (fun k_ hk => (⟨hk, hk.2.2⟩ : _ ∧ k_ ≠ gb253))) (fun _ hk => hk.2) (.int .i64 t254)) (fun _ hk => ⟨hk.1.1, ⟨hk.1.2.1, hk.1.2.2⟩⟩)))⟩; have n2_ : Aside0 (Kd.V k130 130 w29 w.heap.size (fun k_ => (w.heap.size ≤ k_) ∧ some k_ ≠ (.slice (some ad252) t245.length co24 : Value).ownBlock ∧ some k_ ≠ (u7 : Value).ownBlock ∧ k_ ≠ gb253) (.slice A252_0 ((rd_T99 t245 (rd l1 x26_2)).f0).length c252_0) ((rd_T99 t245 (rd l1 x26_2)).f0)) := ⟨(by rw [hw]; exact (by (with_reducible repeat (first | apply Kd.V_alloc | apply Kd.V_drewN | apply Kd.V_drew)); exact Kd.V_mono (Kd.V_far (p := ⟨gb253, 2, none⟩) (Kd.V_mono HL252_0.out (fun k_ hk => (⟨hk, hk.2.2.2⟩ : _ ∧ k_ ≠ gb253))) (fun _ hk => hk.2) (.int .i64 t254)) (fun _ hk => ⟨hk.1.1, ⟨hk.1.2.1, ⟨hk.1.2.2.1, hk.1.2.2.2⟩⟩⟩)))⟩; have n3_ : Aside0 (w29.heap[gb253]? = some (.cells #[.slice A252_0 ((rd_T99 t245 (rd l1 x26_2)).f0).length c252_0, .int .i64 ((rd_T99 t245 (rd l1 x26_2)).f1), .int .i64 t254, .int .i64 ((rd_T99 t245 (rd l1 x26_2)).f3)] 99 (0, 0))) := ⟨(by rw [hw]; exact (by (with_reducible repeat first | apply bN | apply bD | apply bA); refine blk_put (cs := #[.slice A252_0 ((rd_T99 t245 (rd l1 x26_2)).f0).length c252_0, .int .i64 ((rd_T99 t245 (rd l1 x26_2)).f1), .int .i64 ((rd_T99 t245 (rd l1 x26_2)).f2), .int .i64 ((rd_T99 t245 (rd l1 x26_2)).f3)]) ?_ 2 _ rfl; (with_reducible repeat first | apply bN | apply bD | apply bA); exact BK253.out))⟩; have n4_ : Aside0 (Below w.heap.size w w29) := ⟨(by rw [hw]; exact lB)⟩; clear hw; clear HO_6; clear HO_7; clear HL252_0; clear BK253; clear HB; have HO_6 := n0_; have HO_7 := n1_; have HL252_0 := n2_; have BK253 := n3_; have HB := n4_; clear n0_ n1_ n2_ n3_ n4_; obtain ⟨hcz30_0, hfz30_0, hcz30_1, hfz30_1, hcz30_2, hfz30_2, hcz30_3, hfz30_3⟩ := bk4 BK253.out) | ((with_reducible refine gate_callee (f := 79) rfl ?_); refine gl_ (some 48) (Try.func79) #[.slice (some ad251) l1.length c1, .int .i64 ((rd_T99 t245 (rd l1 x26_2)).f3)] ?_; (with_reducible refine (slices_Index_int_int.calls k2 _ _ l1 ((rd_T99 t245 (rd l1 x26_2)).f3) t255 _ ?side1 ?side2 A22.out).mono ?_); (case side1 => exact lC (Kd.C_below HR1.out HB.out)); (case side2 => exact HC1.out); rintro e w' ⟨rfl, ⟨nd, rfl⟩⟩; refine ⟨_, rfl, ?_⟩; (try (rw [drewN_self w29]; generalize hq_ : World.drewN w29 _ = w29; have n0_ : Aside0 (Kd.V k130 130 w29 w.heap.size (fun k_ => (w.heap.size ≤ k_) ∧ some k_ ≠ (.slice (some ad252) t245.length co24 : Value).ownBlock ∧ some k_ ≠ (u7 : Value).ownBlock ∧ k_ ≠ gb253) (.slice A252_0 ((rd_T99 t245 (rd l1 x26_2)).f0).length c252_0) ((rd_T99 t245 (rd l1 x26_2)).f0)) := ⟨by rw [← hq_]; exact (by (with_reducible repeat (first | apply Kd.V_alloc | apply Kd.V_drewN | apply Kd.V_drew)); exact HL252_0.out)⟩; have n1_ : Aside0 (Kd.N impl_LayFlow.kt 99 w29 w.heap.size (fun k_ => (w.heap.size ≤ k_) ∧ some k_ ≠ (u7 : Value).ownBlock ∧ k_ ≠ gb253) (.slice (some ad252) t245.length co24) (t245.zip vs)) := ⟨by rw [← hq_]; exact (by (with_reducible repeat (first | apply Kd.N_alloc | apply Kd.N_drewN | apply Kd.N_drew)); exact HO_6.out)⟩; have n2_ : Aside0 (Kd.N impl_LayFlow.kt 99 w29 w.heap.size (fun k_ => (w.heap.size ≤ k_) ∧ some k_ ≠ (.slice (some ad252) t245.length co24 : Value).ownBlock ∧ k_ ≠ gb253) u7 (impl_LayFlow.zt vs x7_2 l1)) := ⟨by rw [← hq_]; exact (by (with_reducible repeat (first | apply Kd.N_alloc | apply Kd.N_drewN | apply Kd.N_drew)); exact HO_7.out)⟩; have n3_ : Aside0 (w29.heap[gb253]? = some (.cells #[.slice A252_0 ((rd_T99 t245 (rd l1 x26_2)).f0).length c252_0, .int .i64 ((rd_T99 t245 (rd l1 x26_2)).f1), .int .i64 t254, .int .i64 ((rd_T99 t245 (rd l1 x26_2)).f3)] 99 (0, 0))) := ⟨by rw [← hq_]; exact (lK BK253.out)⟩; have n4_ : Aside0 (Below w.heap.size w w29) := ⟨by rw [← hq_]; exact lB⟩; have n5_ : Aside0 (Kd.C k130 w29 A252_0 ((rd_T99 t245 (rd l1 x26_2)).f0).length ((rd_T99 t245 (rd l1 x26_2)).f0)) := ⟨by rw [← hq_]; exact (by repeat (first | (with_reducible exact HR252_0.out) | (with_reducible refine Kd.C_alloc ?_ _) | (with_reducible refine Kd.C_drewN ?_ _) | (with_reducible refine Kd.C_drew ?_) | exact HR252_0.out | exact (Kd.V_reads' HL252_0.out).2.2))⟩; clear HL252_0 HO_6 HO_7 BK253 HB HR252_0 hq_; have HL252_0 := n0_; have HO_6 := n1_; have HO_7 := n2_; have BK253 := n3_; have HB := n4_; have HR252_0 := n5_; clear n0_ n1_ n2_ n3_ n4_ n5_)); (try (obtain ⟨hcy253_0, hfy253_0, hcy253_1, hfy253_1, hcy253_2, hfy253_2, hcy253_3, hfy253_3⟩ := bk4 BK253.out))) | ((with_reducible refine gate_store (t := 3) (p := 49) rfl ?_); refine store_event (t := 3) (p := 49) (v := ?vo_w31) (w1 := (w29.setCell ⟨gb253, 3, none⟩ (.int .i64 t255))) ?hg ?ho ?hn ?hr ?_; (case ho => rfl); (case hg => rfl); (case hn => rfl); (case hr => first | (go_simp; done) | (go_simp; rfl)); intro w31 hw; have n0_ : Aside0 (Kd.N impl_LayFlow.kt 99 w31 w.heap.size (fun k_ => (w.heap.size ≤ k_) ∧ some k_ ≠ (u7 : Value).ownBlock ∧ k_ ≠ gb253) (.slice (some ad252) t245.length co24) (t245.zip vs)) := ⟨(by rw [hw]; exact (by (with_reducible repeat (first | apply Kd.N_alloc | apply Kd.N_drewN | apply Kd.N_drew)); exact Kd.N_mono (Kd.N_far (p := ⟨gb253, 3, none⟩) (Kd.N_mono HO_6.out (fun k_ hk => (⟨hk, hk.2.2⟩ : _ ∧ k_ ≠ gb253))) (fun _ hk => hk.2) (.int .i64 t255)) (fun _ hk => ⟨hk.1.1, ⟨hk.1.2.1, hk.1.2.2⟩⟩)))⟩; have n1_ : Aside0 (Kd.N impl_LayFlow.kt 99 w31 w.heap.size (fun k_ => (w.heap.size ≤ k_) ∧ some k_ ≠ (.slice (some ad252) t245.length co24 : Value).ownBlock ∧ k_ ≠ gb253) u7 (impl_LayFlow.zt vs x7_2 l1)) := ⟨(by rw [hw]; exact (by (with_reducible repeat (first | apply Kd.N_alloc | apply Kd.N_drewN | apply Kd.N_drew)); exact Kd.N_mono (Kd.N_far (p := ⟨gb253, 3, none⟩) (Kd.N_mono HO_7.out (fun k_ hk => (⟨hk, hk.2.2⟩ : _ ∧ k_ ≠ gb253))) (fun _ hk => hk.2) (.int .i64 t255)) (fun _ hk => ⟨hk.1.1, ⟨hk.1.2.1, hk.1.2.2⟩⟩)))⟩; have n2_ : Aside0 (Kd.V k130 130 w31 w.heap.size (fun k_ => (w.heap.size ≤ k_) ∧ some k_ ≠ (.slice (some ad252) t245.length co24 : Value).ownBlock ∧ some k_ ≠ (u7 : Value).ownBlock ∧ k_ ≠ gb253) (.slice A252_0 ((rd_T99 t245 (rd l1 x26_2)).f0).length c252_0) ((rd_T99 t245 (rd l1 x26_2)).f0)) := ⟨(by rw [hw]; exact (by (with_reducible repeat (first | apply Kd.V_alloc | apply Kd.V_drewN | apply Kd.V_drew)); exact Kd.V_mono (Kd.V_far (p := ⟨gb253, 3, none⟩) (Kd.V_mono HL252_0.out (fun k_ hk => (⟨hk, hk.2.2.2⟩ : _ ∧ k_ ≠ gb253))) (fun _ hk => hk.2) (.int .i64 t255)) (fun _ hk => ⟨hk.1.1, ⟨hk.1.2.1, ⟨hk.1.2.2.1, hk.1.2.2.2⟩⟩⟩)))⟩; have n3_ : Aside0 (w31.heap[gb253]? = some (.cells #[.slice A252_0 ((rd_T99 t245 (rd l1 x26_2)).f0).length c252_0, .int .i64 ((rd_T99 t245 (rd l1 x26_2)).f1), .int .i64 t254, .int .i64 t255] 99 (0, 0))) := ⟨(by rw [hw]; exact (by (with_reducible repeat first | apply bN | apply bD | apply bA); refine blk_put (cs := #[.slice A252_0 ((rd_T99 t245 (rd l1 x26_2)).f0).length c252_0, .int .i64 ((rd_T99 t245 (rd l1 x26_2)).f1), .int .i64 t254, .int .i64 ((rd_T99 t245 (rd l1 x26_2)).f3)]) ?_ 3 _ rfl; (with_reducible repeat first | apply bN | apply bD | apply bA); exact BK253.out))⟩; have n4_ : Aside0 (Below w.heap.size w w31) := ⟨(by rw [hw]; exact lB)⟩; clear hw; clear HO_6; clear HO_7; clear HL252_0; clear BK253; clear HB; have HO_6 := n0_; have HO_7 := n1_; have HL252_0 := n2_; have BK253 := n3_; have HB := n4_; clear n0_ n1_ n2_ n3_ n4_; obtain ⟨hcz32_0, hfz32_0, hcz32_1, hfz32_1, hcz32_2, hfz32_2, hcz32_3, hfz32_3⟩ := bk4 BK253.out) | ((with_reducible refine gate_builtin (b := .append) (xs := #[.tmp 50, .tmp 52]) rfl ?_); (try (refine gate_guard (by rfl) ?_; dsimp only)); at_builtin; refine Kd.N_append impl_LayFlow.kt (w0 := w) w.heap.size rfl (.tmp 50) (.tmp 52) 57 99 (.agg #[(.slice none 0 0), (.int .i64 0), (.int .i64 0), (.int .i64 0)]) 48 rfl Try.underlying57 info99 rfl (by decide) (by omega) u7 (impl_LayFlow.zt vs x7_2 l1) ((⟨(rd_T99 t245 (rd l1 x26_2)).f0, (rd_T99 t245 (rd l1 x26_2)).f1, t254, t255⟩ : S99), impl_LayFlow.g vs (rd l1 x26_2)) [.slice A252_0 ((rd_T99 t245 (rd l1 x26_2)).f0).length c252_0, .int .i64 ((rd_T99 t245 (rd l1 x26_2)).f1), .int .i64 t254, .int .i64 t255] (fun k_ => (w.heap.size ≤ k_) ∧ some k_ ≠ (.slice (some ad252) t245.length co24 : Value).ownBlock ∧ k_ ≠ gb253) (fun k_ => ((fun k_ => (w.heap.size ≤ k_) ∧ some k_ ≠ (.slice (some ad252) t245.length co24 : Value).ownBlock ∧ k_ ≠ gb253)) k_ ∧ some k_ ≠ (u7 : Value).ownBlock) rfl rfl ?aP (fun _ hk => hk) ?aF ?aO ?aB ?aS ?aL ?_; (case aP => exact impl_LayFlow.put (ok := fun k_ => (w.heap.size ≤ k_) ∧ some k_ ≠ (u7 : Value).ownBlock ∧ k_ ≠ gb253) HVL.out (rd l1 x26_2) HPI.out.1 HPI.out.2 HVS.out _ _ (by (with_reducible repeat (first | apply Kd.N_alloc | apply Kd.N_drewN | apply Kd.N_drew)); exact HO_6.out) (fun k hk => ⟨⟨hk.1.1, hk.2, hk.1.2.2⟩, hk.1.2.1⟩)); (case aB => exact lB); (case aF => exact (fun k_ hk => ⟨(Nat.le_trans (below_size lB) hk), Kd.fresh' (Kd.N_lt (by (with_reducible repeat (first | apply Kd.N_alloc | apply Kd.N_drewN | apply Kd.N_drew)); exact HO_6.out)) k_ hk, Kd.freshB (lK BK253.out) k_ hk⟩)); (case aO => exact (by (with_reducible repeat (first | apply Kd.N_alloc | apply Kd.N_drewN | apply Kd.N_drew)); exact HO_7.out)); (case aS => exact (below_size lB)); (case aL => have := LMc23.out; have := impl_LayFlow.zt_len vs x7_2 l1; omega); intro v257 w33 ho hb hg hat; rw [impl_LayFlow.zt_snoc _ _ _ _ HLN.out (of_decide_eq_true c14b0), ← Ny256.out] at ho; have n0_ := Aside0.mk (Kd.N_afterv (ok := (fun k_ => (w.heap.size ≤ k_) ∧ k_ ≠ gb253)) (by (with_reducible repeat (first | apply Kd.N_alloc | apply Kd.N_drewN | apply Kd.N_drew)); exact Kd.N_mono HO_6.out (fun _ hk => ⟨⟨hk.1, hk.2.2⟩, hk.2.1⟩)) hg hat); have n1_ := Aside0.mk (Kd.V_afterv (ok := (fun k_ => (w.heap.size ≤ k_) ∧ some k_ ≠ (.slice (some ad252) t245.length co24 : Value).ownBlock ∧ k_ ≠ gb253)) (by (with_reducible repeat (first | apply Kd.V_alloc | apply Kd.V_drewN | apply Kd.V_drew)); exact Kd.V_mono HL252_0.out (fun _ hk => ⟨⟨hk.1, ⟨hk.2.1, hk.2.2.2⟩⟩, hk.2.2.1⟩)) hg hat); have n2_ := Aside0.mk (blk_grown (lK BK253.out) hg (Kd.N_away HO_7.out (fun _ hk => hk.2.2))); have n3_ := Aside0.mk (hb); have n4_ := Aside0.mk (ho); clear HO_6; clear HL252_0; clear BK253; clear HB; clear HO_7; have HO_6 := n0_; have HL252_0 := n1_; have BK253 := n2_; have HB := n3_; have HO258 := n4_; clear n0_ n1_ n2_ n3_ n4_; clear ho hb hg hat))
              go_roundg k2
              case measure => have := HJ2.out; have := HK2.out; omega
              case rel => exact ⟨(y256), (wrap64 (x26_2 + 1)), lF, H', ⟨by have := HJ2.out; have := HK2.out; omega⟩, ⟨by (with_reducible repeat (first | apply Kd.N_alloc | apply Kd.N_drewN | apply Kd.N_drew)); exact Kd.N_mono HO_6.out (fun _ hk => ⟨hk.1.1, hk.2⟩)⟩, ⟨by (with_reducible repeat (first | apply Kd.N_alloc | apply Kd.N_drewN | apply Kd.N_drew)); exact Kd.N_mono HO258.out (fun _ hk => ⟨hk.1, hk.2.1⟩)⟩, ⟨impl_LayFlow.nextI HLN.out (of_decide_eq_true c14b0) Ny256.out LMc23.out⟩, ⟨lB⟩⟩
             ·rw [if_neg c23] at H
              exact absurd H (by simp)
            ·rw [if_neg c21] at H
             have c21b0 : decide (0 ≤ ((rd_T99 t245 (rd l1 x26_2)).f3)) = false := decide_eq_false c21
             clear c21
             by_cases c34 : x7_2.length < 2932031007402
             ·rw [if_pos c34] at H
              have LMc34 := Aside0.mk c34
              clear c34
              obtain ⟨y259, hy259⟩ : ∃ y_ : List (S99), y_ = (x7_2 ++ [(⟨(rd_T99 t245 (rd l1 x26_2)).f0, (rd_T99 t245 (rd l1 x26_2)).f1, t254, (rd_T99 t245 (rd l1 x26_2)).f3⟩ : S99)]) := ⟨_, rfl⟩
              replace H : (impl_LayFlow.l0 k2 l1 t245 y259 l1 (l1.length : Int) (wrap64 (x26_2 + 1))) = some (r1, r2) := by first | (rw [hy259]; with_reducible exact H) | (have H2_ := (Option.bind_some _ _).symm.trans H; rw [hy259]; with_reducible exact H2_) | (have H2_ := (Option.bind_some _ _).symm.trans H; with_reducible exact H2_) | with_reducible exact H | (rw [hy259]; exact H) | exact H
              have Ny259 := Aside0.mk hy259
              clear hy259
              have H' := Aside0.mk H
              clear H
              have p251 : 0 ≤ (x26_2 : Int) := lD
              have q251 : x26_2 < (l1.length : Int) := lD
              obtain ⟨ad251, e251, hx251_0⟩ := Kd.at_int HR1.out x26_2 p251 q251
              cases e251
              replace hx251_0 := pw_cell_below HB.out hx251_0
              replace p251 := eq_true p251
              replace q251 := eq_true q251
              obtain ⟨Ao35, co35, eo35⟩ := Kd.N_slice (impl_LayFlow.fst HVL.out HO_6.out)
              subst eo35
              have p252 : 0 ≤ ((rd l1 x26_2) : Int) := lD
              have q252 : (rd l1 x26_2) < (t245.length : Int) := lD
              obtain ⟨ad252, A252_0, c252_0, e252, hx252_0, hx252_1, hx252_2, hx252_3, hl252_0, hi252_0⟩ := at_T99 (Kd.N_reads' (impl_LayFlow.fst HVL.out HO_6.out)).2.2 (rd l1 x26_2) p252 q252
              cases e252
              have HVS := Aside0.mk (impl_LayFlow.same HVL.out HO_6.out (rd l1 x26_2) p252 q252 hx252_0)
              have HPI := Aside0.mk (And.intro p252 q252)
              obtain ⟨ce252, hce252, hMe252, hcc252⟩ := Kd.N_get (impl_LayFlow.fst HVL.out HO_6.out) z99 (rd l1 x26_2) p252 (by first | exact q252 | exact lD | (have e_ := (Kd.N_reads' (impl_LayFlow.fst HVL.out HO_6.out)).1; omega))
              obtain ⟨ua252_0, uc252_0, rfl, ul252_0, ge252_0⟩ := impl_LayFlow.openF hMe252
              have hv252_0 := hcc252 0 _ rfl
              rw [Nat.add_zero] at hv252_0
              replace hv252_0 := Option.some.inj (hv252_0.symm.trans hx252_0)
              injection hv252_0 with hva_ hvn_ hvc_
              rw [hva_] at ge252_0
              rw [hvc_] at ul252_0
              have HL252_0 := Aside0.mk (show Kd.V k130 130 _ w.heap.size _ _ ((rd_T99 t245 (rd l1 x26_2)).f0) from Kd.V_mk ul252_0 ge252_0)
              clear hva_ hvn_ hvc_ ge252_0 ul252_0
              clear hcc252 hce252
              have HR252_0 := Aside0.mk hi252_0
              have HC252_0 := Aside0.mk hl252_0
              clear hi252_0 hl252_0
              replace p252 := eq_true p252
              replace q252 := eq_true q252
              go_wp2_with (first | ((with_reducible refine gate_dst (N := 10) rfl ?_); (try (refine gate_guard (by rfl) ?_; dsimp only)); refine bxe 10 #[.slice none 0 0, .int .i64 0, .int .i64 0, .int .i64 0] 99 ?_; intro gb253 hg w36 hbox hb; have n0_ := Aside0.mk (Kd.N_below (Kd.N_elderB (by (with_reducible repeat (first | apply Kd.N_alloc | apply Kd.N_drewN | apply Kd.N_drew)); exact HO_6.out) gb253 (Nat.le_of_eq hg.symm)) hb); have n1_ := Aside0.mk (Kd.N_below (Kd.N_elderB (by (with_reducible repeat (first | apply Kd.N_alloc | apply Kd.N_drewN | apply Kd.N_drew)); exact HO_7.out) gb253 (Nat.le_of_eq hg.symm)) hb); have n2_ := Aside0.mk (Kd.V_below (Kd.V_elderB (by (with_reducible repeat (first | apply Kd.V_alloc | apply Kd.V_drewN | apply Kd.V_drew)); exact HL252_0.out) gb253 (Nat.le_of_eq hg.symm)) hb); have n3_ := Aside0.mk (Kd.C_below (by repeat (first | (with_reducible exact HR252_0.out) | (with_reducible refine Kd.C_alloc ?_ _) | (with_reducible refine Kd.C_drewN ?_ _) | (with_reducible refine Kd.C_drew ?_) | exact HR252_0.out | exact (Kd.V_reads' HL252_0.out).2.2)) hb); have n4_ := Aside0.mk (below_step lB hb); have n5_ := Aside0.mk (hbox); have n6_ := lG w hg; have n7_ := lG w hg; clear HO_6; clear HO_7; clear HL252_0; clear HR252_0; clear HB; have HO_6 := n0_; have HO_7 := n1_; have HL252_0 := n2_; have HR252_0 := n3_; have HB := n4_; have BK253 := n5_; have GW253 := n6_; have GE253 := n7_; clear n0_ n1_ n2_ n3_ n4_ n5_ n6_ n7_; clear hb hbox hg; obtain ⟨hcz37_0, hfz37_0, hcz37_1, hfz37_1, hcz37_2, hfz37_2, hcz37_3, hfz37_3⟩ := bk4 BK253.out) | ((with_reducible refine gate_store (t := 99) (p := 10) rfl ?_); refine store_event (t := 99) (p := 10) (v := ?vo_w38) (w1 := ((((w36.setCell ⟨gb253, 0, none⟩ (.slice A252_0 ((rd_T99 t245 (rd l1 x26_2)).f0).length c252_0)).setCell ⟨gb253, 1, none⟩ (.int .i64 ((rd_T99 t245 (rd l1 x26_2)).f1))).setCell ⟨gb253, 2, none⟩ (.int .i64 ((rd_T99 t245 (rd l1 x26_2)).f2))).setCell ⟨gb253, 3, none⟩ (.int .i64 ((rd_T99 t245 (rd l1 x26_2)).f3)))) ?hg ?ho ?hn ?hr ?_; (case ho => rfl); (case hg => rfl); (case hn => rfl); (case hr => first | (go_simp; done) | (go_simp; rfl)); intro w38 hw; have n0_ : Aside0 (Kd.N impl_LayFlow.kt 99 w38 w.heap.size (fun k_ => (w.heap.size ≤ k_) ∧ some k_ ≠ (u7 : Value).ownBlock ∧ k_ ≠ gb253) (.slice (some ad252) t245.length co35) (t245.zip vs)) := ⟨(by rw [hw]; exact (by (with_reducible repeat (first | apply Kd.N_alloc | apply Kd.N_drewN | apply Kd.N_drew)); exact Kd.N_mono (Kd.N_far (p := ⟨gb253, 3, none⟩) (Kd.N_far (p := ⟨gb253, 2, none⟩) (Kd.N_far (p := ⟨gb253, 1, none⟩) (Kd.N_far (p := ⟨gb253, 0, none⟩) (Kd.N_mono HO_6.out (fun k_ hk => (⟨hk, hk.2⟩ : _ ∧ k_ ≠ gb253))) (fun _ hk => hk.2) (.slice A252_0 ((rd_T99 t245 (rd l1 x26_2)).f0).length c252_0)) (fun _ hk => hk.2) (.int .i64 ((rd_T99 t245 (rd l1 x26_2)).f1))) (fun _ hk => hk.2) (.int .i64 ((rd_T99 t245 (rd l1 x26_2)).f2))) (fun _ hk => hk.2) (.int .i64 ((rd_T99 t245 (rd l1 x26_2)).f3))) (fun _ hk => ⟨hk.1.1.1, ⟨hk.1.1.2, hk.1.2⟩⟩)))⟩; have n1_ : Aside0 (Kd.N impl_LayFlow.kt 99 w38 w.heap.size (fun k_ => (w.heap.size ≤ k_) ∧ some k_ ≠ (.slice (some ad252) t245.length co35 : Value).ownBlock ∧ k_ ≠ gb253) u7 (impl_LayFlow.zt vs x7_2 l1)) := ⟨(by rw [hw]; exact (by (with_reducible repeat (first | apply Kd.N_alloc | apply Kd.N_drewN | apply Kd.N_drew)); exact Kd.N_mono (Kd.N_far (p := ⟨gb253, 3, none⟩) (Kd.N_far (p := ⟨gb253, 2, none⟩) (Kd.N_far (p := ⟨gb253, 1, none⟩) (Kd.N_far (p := ⟨gb253, 0, none⟩) (Kd.N_mono HO_7.out (fun k_ hk => (⟨hk, hk.2⟩ : _ ∧ k_ ≠ gb253))) (fun _ hk => hk.2) (.slice A252_0 ((rd_T99 t245 (rd l1 x26_2)).f0).length c252_0)) (fun _ hk => hk.2) (.int .i64 ((rd_T99 t245 (rd l1 x26_2)).f1))) (fun _ hk => hk.2) (.int .i64 ((rd_T99 t245 (rd l1 x26_2)).f2))) (fun _ hk => hk.2) (.int .i64 ((rd_T99 t245 (rd l1 x26_2)).f3))) (fun _ hk => ⟨hk.1.1.1, ⟨hk.1.1.2, hk.1.2⟩⟩)))⟩; have n2_ : Aside0 (Kd.V k130 130 w38 w.heap.size (fun k_ => (w.heap.size ≤ k_) ∧ some k_ ≠ (.slice (some ad252) t245.length co35 : Value).ownBlock ∧ some k_ ≠ (u7 : Value).ownBlock ∧ k_ ≠ gb253) (.slice A252_0 ((rd_T99 t245 (rd l1 x26_2)).f0).length c252_0) ((rd_T99 t245 (rd l1 x26_2)).f0)) := ⟨(by rw [hw]; exact (by (with_reducible repeat (first | apply Kd.V_alloc | apply Kd.V_drewN | apply Kd.V_drew)); exact Kd.V_mono (Kd.V_far (p := ⟨gb253, 3, none⟩) (Kd.V_far (p := ⟨gb253, 2, none⟩) (Kd.V_far (p := ⟨gb253, 1, none⟩) (Kd.V_far (p := ⟨gb253, 0, none⟩) (Kd.V_mono HL252_0.out (fun k_ hk => (⟨hk, hk.2⟩ : _ ∧ k_ ≠ gb253))) (fun _ hk => hk.2) (.slice A252_0 ((rd_T99 t245 (rd l1 x26_2)).f0).length c252_0)) (fun _ hk => hk.2) (.int .i64 ((rd_T99 t245 (rd l1 x26_2)).f1))) (fun _ hk => hk.2) (.int .i64 ((rd_T99 t245 (rd l1 x26_2)).f2))) (fun _ hk => hk.2) (.int .i64 ((rd_T99 t245 (rd l1 x26_2)).f3))) (fun _ hk => ⟨hk.1.1.1.1, ⟨hk.1.1.2, ⟨hk.1.1.1.2, hk.1.2⟩⟩⟩)))⟩; have n3_ : Aside0 (w38.heap[gb253]? = some (.cells #[.slice A252_0 ((rd_T99 t245 (rd l1 x26_2)).f0).length c252_0, .int .i64 ((rd_T99 t245 (rd l1 x26_2)).f1), .int .i64 ((rd_T99 t245 (rd l1 x26_2)).f2), .int .i64 ((rd_T99 t245 (rd l1 x26_2)).f3)] 99 (0, 0))) := ⟨(by rw [hw]; exact (by (with_reducible repeat first | apply bN | apply bD | apply bA); refine blk_put (cs := #[.slice A252_0 ((rd_T99 t245 (rd l1 x26_2)).f0).length c252_0, .int .i64 ((rd_T99 t245 (rd l1 x26_2)).f1), .int .i64 ((rd_T99 t245 (rd l1 x26_2)).f2), .int .i64 0]) ?_ 3 _ rfl; (with_reducible repeat first | apply bN | apply bD | apply bA); refine blk_put (cs := #[.slice A252_0 ((rd_T99 t245 (rd l1 x26_2)).f0).length c252_0, .int .i64 ((rd_T99 t245 (rd l1 x26_2)).f1), .int .i64 0, .int .i64 0]) ?_ 2 _ rfl; (with_reducible repeat first | apply bN | apply bD | apply bA); refine blk_put (cs := #[.slice A252_0 ((rd_T99 t245 (rd l1 x26_2)).f0).length c252_0, .int .i64 0, .int .i64 0, .int .i64 0]) ?_ 1 _ rfl; (with_reducible repeat first | apply bN | apply bD | apply bA); refine blk_put (cs := #[.slice none 0 0, .int .i64 0, .int .i64 0, .int .i64 0]) ?_ 0 _ rfl; (with_reducible repeat first | apply bN | apply bD | apply bA); exact BK253.out))⟩; have n4_ : Aside0 (Below w.heap.size w w38) := ⟨(by rw [hw]; exact lB)⟩; clear hw; clear HO_6; clear HO_7; clear HL252_0; clear BK253; clear HB; have HO_6 := n0_; have HO_7 := n1_; have HL252_0 := n2_; have BK253 := n3_; have HB := n4_; clear n0_ n1_ n2_ n3_ n4_; obtain ⟨hcz39_0, hfz39_0, hcz39_1, hfz39_1, hcz39_2, hfz39_2, hcz39_3, hfz39_3⟩ := bk4 BK253.out) | ((with_reducible refine gate_callee (f := 79) rfl ?_); refine gl_ (some 40) (Try.func79) #[.slice (some ad251) l1.length c1, .int .i64 ((rd_T99 t245 (rd l1 x26_2)).f2)] ?_; (with_reducible refine (slices_Index_int_int.calls k2 _ _ l1 ((rd_T99 t245 (rd l1 x26_2)).f2) t254 _ ?side1 ?side2 A20.out).mono ?_); (case side1 => exact lC (Kd.C_below HR1.out HB.out)); (case side2 => exact HC1.out); rintro e w' ⟨rfl, ⟨nd, rfl⟩⟩; refine ⟨_, rfl, ?_⟩; (try (rw [drewN_self w38]; generalize hq_ : World.drewN w38 _ = w38; have n0_ : Aside0 (Kd.V k130 130 w38 w.heap.size (fun k_ => (w.heap.size ≤ k_) ∧ some k_ ≠ (.slice (some ad252) t245.length co35 : Value).ownBlock ∧ some k_ ≠ (u7 : Value).ownBlock ∧ k_ ≠ gb253) (.slice A252_0 ((rd_T99 t245 (rd l1 x26_2)).f0).length c252_0) ((rd_T99 t245 (rd l1 x26_2)).f0)) := ⟨by rw [← hq_]; exact (by (with_reducible repeat (first | apply Kd.V_alloc | apply Kd.V_drewN | apply Kd.V_drew)); exact HL252_0.out)⟩; have n1_ : Aside0 (Kd.N impl_LayFlow.kt 99 w38 w.heap.size (fun k_ => (w.heap.size ≤ k_) ∧ some k_ ≠ (u7 : Value).ownBlock ∧ k_ ≠ gb253) (.slice (some ad252) t245.length co35) (t245.zip vs)) := ⟨by rw [← hq_]; exact (by (with_reducible repeat (first | apply Kd.N_alloc | apply Kd.N_drewN | apply Kd.N_drew)); exact HO_6.out)⟩; have n2_ : Aside0 (Kd.N impl_LayFlow.kt 99 w38 w.heap.size (fun k_ => (w.heap.size ≤ k_) ∧ some k_ ≠ (.slice (some ad252) t245.length co35 : Value).ownBlock ∧ k_ ≠ gb253) u7 (impl_LayFlow.zt vs x7_2 l1)) := ⟨by rw [← hq_]; exact (by (with_reducible repeat (first | apply Kd.N_alloc | apply Kd.N_drewN | apply Kd.N_drew)); exact HO_7.out)⟩; have n3_ : Aside0 (w38.heap[gb253]? = some (.cells #[.slice A252_0 ((rd_T99 t245 (rd l1 x26_2)).f0).length c252_0, .int .i64 ((rd_T99 t245 (rd l1 x26_2)).f1), .int .i64 ((rd_T99 t245 (rd l1 x26_2)).f2), .int .i64 ((rd_T99 t245 (rd l1 x26_2)).f3)] 99 (0, 0))) := ⟨by rw [← hq_]; exact (lK BK253.out)⟩; have n4_ : Aside0 (Below w.heap.size w w38) := ⟨by rw [← hq_]; exact lB⟩; have n5_ : Aside0 (Kd.C k130 w38 A252_0 ((rd_T99 t245 (rd l1 x26_2)).f0).length ((rd_T99 t245 (rd l1 x26_2)).f0)) := ⟨by rw [← hq_]; exact (by repeat (first | (with_reducible exact HR252_0.out) | (with_reducible refine Kd.C_alloc ?_ _) | (with_reducible refine Kd.C_drewN ?_ _) | (with_reducible refine Kd.C_drew ?_) | exact HR252_0.out | exact (Kd.V_reads' HL252_0.out).2.2))⟩; clear HL252_0 HO_6 HO_7 BK253 HB HR252_0 hq_; have HL252_0 := n0_; have HO_6 := n1_; have HO_7 := n2_; have BK253 := n3_; have HB := n4_; have HR252_0 := n5_; clear n0_ n1_ n2_ n3_ n4_ n5_)); (try (obtain ⟨hcy253_0, hfy253_0, hcy253_1, hfy253_1, hcy253_2, hfy253_2, hcy253_3, hfy253_3⟩ := bk4 BK253.out))) | ((with_reducible refine gate_store (t := 3) (p := 41) rfl ?_); refine store_event (t := 3) (p := 41) (v := ?vo_w40) (w1 := (w38.setCell ⟨gb253, 2, none⟩ (.int .i64 t254))) ?hg ?ho ?hn ?hr ?_; (case ho => rfl); (case hg => rfl); (case hn => rfl); (case hr => first | (go_simp; done) | (go_simp; rfl)); intro w40 hw; have n0_ : Aside0 (Kd.N impl_LayFlow.kt 99 w40 w.heap.size (fun k_ => (w.heap.size ≤ k_) ∧ some k_ ≠ (u7 : Value).ownBlock ∧ k_ ≠ gb253) (.slice (some ad252) t245.length co35) (t245.zip vs)) := ⟨(by rw [hw]; exact (by (with_reducible repeat (first | apply Kd.N_alloc | apply Kd.N_drewN | apply Kd.N_drew)); exact Kd.N_mono (Kd.N_far (p := ⟨gb253, 2, none⟩) (Kd.N_mono HO_6.out (fun k_ hk => (⟨hk, hk.2.2⟩ : _ ∧ k_ ≠ gb253))) (fun _ hk => hk.2) (.int .i64 t254)) (fun _ hk => ⟨hk.1.1, ⟨hk.1.2.1, hk.1.2.2⟩⟩)))⟩; have n1_ : Aside0 (Kd.N impl_LayFlow.kt 99 w40 w.heap.size (fun k_ => (w.heap.size ≤ k_) ∧ some k_ ≠ (.slice (some ad252) t245.length co35 : Value).ownBlock ∧ k_ ≠ gb253) u7 (impl_LayFlow.zt vs x7_2 l1)) := ⟨(by rw [hw]; exact (by (with_reducible repeat (first | apply Kd.N_alloc | apply Kd.N_drewN | apply Kd.N_drew)); exact Kd.N_mono (Kd.N_far (p := ⟨gb253, 2, none⟩) (Kd.N_mono HO_7.out (fun k_ hk => (⟨hk, hk.2.2⟩ : _ ∧ k_ ≠ gb253))) (fun _ hk => hk.2) (.int .i64 t254)) (fun _ hk => ⟨hk.1.1, ⟨hk.1.2.1, hk.1.2.2⟩⟩)))⟩; have n2_ : Aside0 (Kd.V k130 130 w40 w.heap.size (fun k_ => (w.heap.size ≤ k_) ∧ some k_ ≠ (.slice (some ad252) t245.length co35 : Value).ownBlock ∧ some k_ ≠ (u7 : Value).ownBlock ∧ k_ ≠ gb253) (.slice A252_0 ((rd_T99 t245 (rd l1 x26_2)).f0).length c252_0) ((rd_T99 t245 (rd l1 x26_2)).f0)) := ⟨(by rw [hw]; exact (by (with_reducible repeat (first | apply Kd.V_alloc | apply Kd.V_drewN | apply Kd.V_drew)); exact Kd.V_mono (Kd.V_far (p := ⟨gb253, 2, none⟩) (Kd.V_mono HL252_0.out (fun k_ hk => (⟨hk, hk.2.2.2⟩ : _ ∧ k_ ≠ gb253))) (fun _ hk => hk.2) (.int .i64 t254)) (fun _ hk => ⟨hk.1.1, ⟨hk.1.2.1, ⟨hk.1.2.2.1, hk.1.2.2.2⟩⟩⟩)))⟩; have n3_ : Aside0 (w40.heap[gb253]? = some (.cells #[.slice A252_0 ((rd_T99 t245 (rd l1 x26_2)).f0).length c252_0, .int .i64 ((rd_T99 t245 (rd l1 x26_2)).f1), .int .i64 t254, .int .i64 ((rd_T99 t245 (rd l1 x26_2)).f3)] 99 (0, 0))) := ⟨(by rw [hw]; exact (by (with_reducible repeat first | apply bN | apply bD | apply bA); refine blk_put (cs := #[.slice A252_0 ((rd_T99 t245 (rd l1 x26_2)).f0).length c252_0, .int .i64 ((rd_T99 t245 (rd l1 x26_2)).f1), .int .i64 ((rd_T99 t245 (rd l1 x26_2)).f2), .int .i64 ((rd_T99 t245 (rd l1 x26_2)).f3)]) ?_ 2 _ rfl; (with_reducible repeat first | apply bN | apply bD | apply bA); exact BK253.out))⟩; have n4_ : Aside0 (Below w.heap.size w w40) := ⟨(by rw [hw]; exact lB)⟩; clear hw; clear HO_6; clear HO_7; clear HL252_0; clear BK253; clear HB; have HO_6 := n0_; have HO_7 := n1_; have HL252_0 := n2_; have BK253 := n3_; have HB := n4_; clear n0_ n1_ n2_ n3_ n4_; obtain ⟨hcz41_0, hfz41_0, hcz41_1, hfz41_1, hcz41_2, hfz41_2, hcz41_3, hfz41_3⟩ := bk4 BK253.out) | ((with_reducible refine gate_builtin (b := .append) (xs := #[.tmp 50, .tmp 52]) rfl ?_); (try (refine gate_guard (by rfl) ?_; dsimp only)); at_builtin; refine Kd.N_append impl_LayFlow.kt (w0 := w) w.heap.size rfl (.tmp 50) (.tmp 52) 57 99 (.agg #[(.slice none 0 0), (.int .i64 0), (.int .i64 0), (.int .i64 0)]) 48 rfl Try.underlying57 info99 rfl (by decide) (by omega) u7 (impl_LayFlow.zt vs x7_2 l1) ((⟨(rd_T99 t245 (rd l1 x26_2)).f0, (rd_T99 t245 (rd l1 x26_2)).f1, t254, (rd_T99 t245 (rd l1 x26_2)).f3⟩ : S99), impl_LayFlow.g vs (rd l1 x26_2)) [.slice A252_0 ((rd_T99 t245 (rd l1 x26_2)).f0).length c252_0, .int .i64 ((rd_T99 t245 (rd l1 x26_2)).f1), .int .i64 t254, .int .i64 ((rd_T99 t245 (rd l1 x26_2)).f3)] (fun k_ => (w.heap.size ≤ k_) ∧ some k_ ≠ (.slice (some ad252) t245.length co35 : Value).ownBlock ∧ k_ ≠ gb253) (fun k_ => ((fun k_ => (w.heap.size ≤ k_) ∧ some k_ ≠ (.slice (some ad252) t245.length co35 : Value).ownBlock ∧ k_ ≠ gb253)) k_ ∧ some k_ ≠ (u7 : Value).ownBlock) rfl rfl ?aP (fun _ hk => hk) ?aF ?aO ?aB ?aS ?aL ?_; (case aP => exact impl_LayFlow.put (ok := fun k_ => (w.heap.size ≤ k_) ∧ some k_ ≠ (u7 : Value).ownBlock ∧ k_ ≠ gb253) HVL.out (rd l1 x26_2) HPI.out.1 HPI.out.2 HVS.out _ _ (by (with_reducible repeat (first | apply Kd.N_alloc | apply Kd.N_drewN | apply Kd.N_drew)); exact HO_6.out) (fun k hk => ⟨⟨hk.1.1, hk.2, hk.1.2.2⟩, hk.1.2.1⟩)); (case aB => exact lB); (case aF => exact (fun k_ hk => ⟨(Nat.le_trans (below_size lB) hk), Kd.fresh' (Kd.N_lt (by (with_reducible repeat (first | apply Kd.N_alloc | apply Kd.N_drewN | apply Kd.N_drew)); exact HO_6.out)) k_ hk, Kd.freshB (lK BK253.out) k_ hk⟩)); (case aO => exact (by (with_reducible repeat (first | apply Kd.N_alloc | apply Kd.N_drewN | apply Kd.N_drew)); exact HO_7.out)); (case aS => exact (below_size lB)); (case aL => have := LMc34.out; have := impl_LayFlow.zt_len vs x7_2 l1; omega); intro v260 w42 ho hb hg hat; rw [impl_LayFlow.zt_snoc _ _ _ _ HLN.out (of_decide_eq_true c14b0), ← Ny259.out] at ho; have n0_ := Aside0.mk (Kd.N_afterv (ok := (fun k_ => (w.heap.size ≤ k_) ∧ k_ ≠ gb253)) (by (with_reducible repeat (first | apply Kd.N_alloc | apply Kd.N_drewN | apply Kd.N_drew)); exact Kd.N_mono HO_6.out (fun _ hk => ⟨⟨hk.1, hk.2.2⟩, hk.2.1⟩)) hg hat); have n1_ := Aside0.mk (Kd.V_afterv (ok := (fun k_ => (w.heap.size ≤ k_) ∧ some k_ ≠ (.slice (some ad252) t245.length co35 : Value).ownBlock ∧ k_ ≠ gb253)) (by (with_reducible repeat (first | apply Kd.V_alloc | apply Kd.V_drewN | apply Kd.V_drew)); exact Kd.V_mono HL252_0.out (fun _ hk => ⟨⟨hk.1, ⟨hk.2.1, hk.2.2.2⟩⟩, hk.2.2.1⟩)) hg hat); have n2_ := Aside0.mk (blk_grown (lK BK253.out) hg (Kd.N_away HO_7.out (fun _ hk => hk.2.2))); have n3_ := Aside0.mk (hb); have n4_ := Aside0.mk (ho); clear HO_6; clear HL252_0; clear BK253; clear HB; clear HO_7; have HO_6 := n0_; have HL252_0 := n1_; have BK253 := n2_; have HB := n3_; have HO261 := n4_; clear n0_ n1_ n2_ n3_ n4_; clear ho hb hg hat))
              go_roundg k2
              case measure => have := HJ2.out; have := HK2.out; omega
              case rel => exact ⟨(y259), (wrap64 (x26_2 + 1)), lF, H', ⟨by have := HJ2.out; have := HK2.out; omega⟩, ⟨by (with_reducible repeat (first | apply Kd.N_alloc | apply Kd.N_drewN | apply Kd.N_drew)); exact Kd.N_mono HO_6.out (fun _ hk => ⟨hk.1.1, hk.2⟩)⟩, ⟨by (with_reducible repeat (first | apply Kd.N_alloc | apply Kd.N_drewN | apply Kd.N_drew)); exact Kd.N_mono HO261.out (fun _ hk => ⟨hk.1, hk.2.1⟩)⟩, ⟨impl_LayFlow.nextI HLN.out (of_decide_eq_true c14b0) Ny259.out LMc34.out⟩, ⟨lB⟩⟩
             ·rw [if_neg c34] at H
              exact absurd H (by simp)
           ·rw [if_neg c19] at H
            have c19b0 : decide (0 ≤ ((rd_T99 t245 (rd l1 x26_2)).f2)) = false := decide_eq_false c19
            clear c19
            by_cases c43 : ((rd_T99 t245 (rd l1 x26_2)).f3) ≥ 0
            ·rw [if_pos c43] at H
             have c43b0 : decide (0 ≤ ((rd_T99 t245 (rd l1 x26_2)).f3)) = true := decide_eq_true c43
             clear c43
             replace H := lO H
             obtain ⟨t262, A44, H⟩ := H
             by_cases c45 : x7_2.length < 2932031007402
             ·rw [if_pos c45] at H
              have LMc45 := Aside0.mk c45
              clear c45
              obtain ⟨y263, hy263⟩ : ∃ y_ : List (S99), y_ = (x7_2 ++ [(⟨(rd_T99 t245 (rd l1 x26_2)).f0, (rd_T99 t245 (rd l1 x26_2)).f1, (rd_T99 t245 (rd l1 x26_2)).f2, t262⟩ : S99)]) := ⟨_, rfl⟩
              replace H : (impl_LayFlow.l0 k2 l1 t245 y263 l1 (l1.length : Int) (wrap64 (x26_2 + 1))) = some (r1, r2) := by first | (rw [hy263]; with_reducible exact H) | (have H2_ := (Option.bind_some _ _).symm.trans H; rw [hy263]; with_reducible exact H2_) | (have H2_ := (Option.bind_some _ _).symm.trans H; with_reducible exact H2_) | with_reducible exact H | (rw [hy263]; exact H) | exact H
              have Ny263 := Aside0.mk hy263
              clear hy263
              have H' := Aside0.mk H
              clear H
              have p251 : 0 ≤ (x26_2 : Int) := lD
              have q251 : x26_2 < (l1.length : Int) := lD
              obtain ⟨ad251, e251, hx251_0⟩ := Kd.at_int HR1.out x26_2 p251 q251
              cases e251
              replace hx251_0 := pw_cell_below HB.out hx251_0
              replace p251 := eq_true p251
              replace q251 := eq_true q251
              obtain ⟨Ao46, co46, eo46⟩ := Kd.N_slice (impl_LayFlow.fst HVL.out HO_6.out)
              subst eo46
              have p252 : 0 ≤ ((rd l1 x26_2) : Int) := lD
              have q252 : (rd l1 x26_2) < (t245.length : Int) := lD
              obtain ⟨ad252, A252_0, c252_0, e252, hx252_0, hx252_1, hx252_2, hx252_3, hl252_0, hi252_0⟩ := at_T99 (Kd.N_reads' (impl_LayFlow.fst HVL.out HO_6.out)).2.2 (rd l1 x26_2) p252 q252
              cases e252
              have HVS := Aside0.mk (impl_LayFlow.same HVL.out HO_6.out (rd l1 x26_2) p252 q252 hx252_0)
              have HPI := Aside0.mk (And.intro p252 q252)
              obtain ⟨ce252, hce252, hMe252, hcc252⟩ := Kd.N_get (impl_LayFlow.fst HVL.out HO_6.out) z99 (rd l1 x26_2) p252 (by first | exact q252 | exact lD | (have e_ := (Kd.N_reads' (impl_LayFlow.fst HVL.out HO_6.out)).1; omega))
              obtain ⟨ua252_0, uc252_0, rfl, ul252_0, ge252_0⟩ := impl_LayFlow.openF hMe252
              have hv252_0 := hcc252 0 _ rfl
              rw [Nat.add_zero] at hv252_0
              replace hv252_0 := Option.some.inj (hv252_0.symm.trans hx252_0)
              injection hv252_0 with hva_ hvn_ hvc_
              rw [hva_] at ge252_0
              rw [hvc_] at ul252_0
              have HL252_0 := Aside0.mk (show Kd.V k130 130 _ w.heap.size _ _ ((rd_T99 t245 (rd l1 x26_2)).f0) from Kd.V_mk ul252_0 ge252_0)
              clear hva_ hvn_ hvc_ ge252_0 ul252_0
              clear hcc252 hce252
              have HR252_0 := Aside0.mk hi252_0
              have HC252_0 := Aside0.mk hl252_0
              clear hi252_0 hl252_0
              replace p252 := eq_true p252
              replace q252 := eq_true q252
              go_wp2_with (first | ((with_reducible refine gate_dst (N := 10) rfl ?_); (try (refine gate_guard (by rfl) ?_; dsimp only)); refine bxe 10 #[.slice none 0 0, .int .i64 0, .int .i64 0, .int .i64 0] 99 ?_; intro gb253 hg w47 hbox hb; have n0_ := Aside0.mk (Kd.N_below (Kd.N_elderB (by (with_reducible repeat (first | apply Kd.N_alloc | apply Kd.N_drewN | apply Kd.N_drew)); exact HO_6.out) gb253 (Nat.le_of_eq hg.symm)) hb); have n1_ := Aside0.mk (Kd.N_below (Kd.N_elderB (by (with_reducible repeat (first | apply Kd.N_alloc | apply Kd.N_drewN | apply Kd.N_drew)); exact HO_7.out) gb253 (Nat.le_of_eq hg.symm)) hb); have n2_ := Aside0.mk (Kd.V_below (Kd.V_elderB (by (with_reducible repeat (first | apply Kd.V_alloc | apply Kd.V_drewN | apply Kd.V_drew)); exact HL252_0.out) gb253 (Nat.le_of_eq hg.symm)) hb); have n3_ := Aside0.mk (Kd.C_below (by repeat (first | (with_reducible exact HR252_0.out) | (with_reducible refine Kd.C_alloc ?_ _) | (with_reducible refine Kd.C_drewN ?_ _) | (with_reducible refine Kd.C_drew ?_) | exact HR252_0.out | exact (Kd.V_reads' HL252_0.out).2.2)) hb); have n4_ := Aside0.mk (below_step lB hb); have n5_ := Aside0.mk (hbox); have n6_ := lG w hg; have n7_ := lG w hg; clear HO_6; clear HO_7; clear HL252_0; clear HR252_0; clear HB; have HO_6 := n0_; have HO_7 := n1_; have HL252_0 := n2_; have HR252_0 := n3_; have HB := n4_; have BK253 := n5_; have GW253 := n6_; have GE253 := n7_; clear n0_ n1_ n2_ n3_ n4_ n5_ n6_ n7_; clear hb hbox hg; obtain ⟨hcz48_0, hfz48_0, hcz48_1, hfz48_1, hcz48_2, hfz48_2, hcz48_3, hfz48_3⟩ := bk4 BK253.out) | ((with_reducible refine gate_store (t := 99) (p := 10) rfl ?_); refine store_event (t := 99) (p := 10) (v := ?vo_w49) (w1 := ((((w47.setCell ⟨gb253, 0, none⟩ (.slice A252_0 ((rd_T99 t245 (rd l1 x26_2)).f0).length c252_0)).setCell ⟨gb253, 1, none⟩ (.int .i64 ((rd_T99 t245 (rd l1 x26_2)).f1))).setCell ⟨gb253, 2, none⟩ (.int .i64 ((rd_T99 t245 (rd l1 x26_2)).f2))).setCell ⟨gb253, 3, none⟩ (.int .i64 ((rd_T99 t245 (rd l1 x26_2)).f3)))) ?hg ?ho ?hn ?hr ?_; (case ho => rfl); (case hg => rfl); (case hn => rfl); (case hr => first | (go_simp; done) | (go_simp; rfl)); intro w49 hw; have n0_ : Aside0 (Kd.N impl_LayFlow.kt 99 w49 w.heap.size (fun k_ => (w.heap.size ≤ k_) ∧ some k_ ≠ (u7 : Value).ownBlock ∧ k_ ≠ gb253) (.slice (some ad252) t245.length co46) (t245.zip vs)) := ⟨(by rw [hw]; exact (by (with_reducible repeat (first | apply Kd.N_alloc | apply Kd.N_drewN | apply Kd.N_drew)); exact Kd.N_mono (Kd.N_far (p := ⟨gb253, 3, none⟩) (Kd.N_far (p := ⟨gb253, 2, none⟩) (Kd.N_far (p := ⟨gb253, 1, none⟩) (Kd.N_far (p := ⟨gb253, 0, none⟩) (Kd.N_mono HO_6.out (fun k_ hk => (⟨hk, hk.2⟩ : _ ∧ k_ ≠ gb253))) (fun _ hk => hk.2) (.slice A252_0 ((rd_T99 t245 (rd l1 x26_2)).f0).length c252_0)) (fun _ hk => hk.2) (.int .i64 ((rd_T99 t245 (rd l1 x26_2)).f1))) (fun _ hk => hk.2) (.int .i64 ((rd_T99 t245 (rd l1 x26_2)).f2))) (fun _ hk => hk.2) (.int .i64 ((rd_T99 t245 (rd l1 x26_2)).f3))) (fun _ hk => ⟨hk.1.1.1, ⟨hk.1.1.2, hk.1.2⟩⟩)))⟩; have n1_ : Aside0 (Kd.N impl_LayFlow.kt 99 w49 w.heap.size (fun k_ => (w.heap.size ≤ k_) ∧ some k_ ≠ (.slice (some ad252) t245.length co46 : Value).ownBlock ∧ k_ ≠ gb253) u7 (impl_LayFlow.zt vs x7_2 l1)) := ⟨(by rw [hw]; exact (by (with_reducible repeat (first | apply Kd.N_alloc | apply Kd.N_drewN | apply Kd.N_drew)); exact Kd.N_mono (Kd.N_far (p := ⟨gb253, 3, none⟩) (Kd.N_far (p := ⟨gb253, 2, none⟩) (Kd.N_far (p := ⟨gb253, 1, none⟩) (Kd.N_far (p := ⟨gb253, 0, none⟩) (Kd.N_mono HO_7.out (fun k_ hk => (⟨hk, hk.2⟩ : _ ∧ k_ ≠ gb253))) (fun _ hk => hk.2) (.slice A252_0 ((rd_T99 t245 (rd l1 x26_2)).f0).length c252_0)) (fun _ hk => hk.2) (.int .i64 ((rd_T99 t245 (rd l1 x26_2)).f1))) (fun _ hk => hk.2) (.int .i64 ((rd_T99 t245 (rd l1 x26_2)).f2))) (fun _ hk => hk.2) (.int .i64 ((rd_T99 t245 (rd l1 x26_2)).f3))) (fun _ hk => ⟨hk.1.1.1, ⟨hk.1.1.2, hk.1.2⟩⟩)))⟩; have n2_ : Aside0 (Kd.V k130 130 w49 w.heap.size (fun k_ => (w.heap.size ≤ k_) ∧ some k_ ≠ (.slice (some ad252) t245.length co46 : Value).ownBlock ∧ some k_ ≠ (u7 : Value).ownBlock ∧ k_ ≠ gb253) (.slice A252_0 ((rd_T99 t245 (rd l1 x26_2)).f0).length c252_0) ((rd_T99 t245 (rd l1 x26_2)).f0)) := ⟨(by rw [hw]; exact (by (with_reducible repeat (first | apply Kd.V_alloc | apply Kd.V_drewN | apply Kd.V_drew)); exact Kd.V_mono (Kd.V_far (p := ⟨gb253, 3, none⟩) (Kd.V_far (p := ⟨gb253, 2, none⟩) (Kd.V_far (p := ⟨gb253, 1, none⟩) (Kd.V_far (p := ⟨gb253, 0, none⟩) (Kd.V_mono HL252_0.out (fun k_ hk => (⟨hk, hk.2⟩ : _ ∧ k_ ≠ gb253))) (fun _ hk => hk.2) (.slice A252_0 ((rd_T99 t245 (rd l1 x26_2)).f0).length c252_0)) (fun _ hk => hk.2) (.int .i64 ((rd_T99 t245 (rd l1 x26_2)).f1))) (fun _ hk => hk.2) (.int .i64 ((rd_T99 t245 (rd l1 x26_2)).f2))) (fun _ hk => hk.2) (.int .i64 ((rd_T99 t245 (rd l1 x26_2)).f3))) (fun _ hk => ⟨hk.1.1.1.1, ⟨hk.1.1.2, ⟨hk.1.1.1.2, hk.1.2⟩⟩⟩)))⟩; have n3_ : Aside0 (w49.heap[gb253]? = some (.cells #[.slice A252_0 ((rd_T99 t245 (rd l1 x26_2)).f0).length c252_0, .int .i64 ((rd_T99 t245 (rd l1 x26_2)).f1), .int .i64 ((rd_T99 t245 (rd l1 x26_2)).f2), .int .i64 ((rd_T99 t245 (rd l1 x26_2)).f3)] 99 (0, 0))) := ⟨(by rw [hw]; exact (by (with_reducible repeat first | apply bN | apply bD | apply bA); refine blk_put (cs := #[.slice A252_0 ((rd_T99 t245 (rd l1 x26_2)).f0).length c252_0, .int .i64 ((rd_T99 t245 (rd l1 x26_2)).f1), .int .i64 ((rd_T99 t245 (rd l1 x26_2)).f2), .int .i64 0]) ?_ 3 _ rfl; (with_reducible repeat first | apply bN | apply bD | apply bA); refine blk_put (cs := #[.slice A252_0 ((rd_T99 t245 (rd l1 x26_2)).f0).length c252_0, .int .i64 ((rd_T99 t245 (rd l1 x26_2)).f1), .int .i64 0, .int .i64 0]) ?_ 2 _ rfl; (with_reducible repeat first | apply bN | apply bD | apply bA); refine blk_put (cs := #[.slice A252_0 ((rd_T99 t245 (rd l1 x26_2)).f0).length c252_0, .int .i64 0, .int .i64 0, .int .i64 0]) ?_ 1 _ rfl; (with_reducible repeat first | apply bN | apply bD | apply bA); refine blk_put (cs := #[.slice none 0 0, .int .i64 0, .int .i64 0, .int .i64 0]) ?_ 0 _ rfl; (with_reducible repeat first | apply bN | apply bD | apply bA); exact BK253.out))⟩; have n4_ : Aside0 (Below w.heap.size w w49) := ⟨(by rw [hw]; exact lB)⟩; clear hw; clear HO_6; clear HO_7; clear HL252_0; clear BK253; clear HB; have HO_6 := n0_; have HO_7 := n1_; have HL252_0 := n2_; have BK253 := n3_; have HB := n4_; clear n0_ n1_ n2_ n3_ n4_; obtain ⟨hcz50_0, hfz50_0, hcz50_1, hfz50_1, hcz50_2, hfz50_2, hcz50_3, hfz50_3⟩ := bk4 BK253.out) | ((with_reducible refine gate_callee (f := 79) rfl ?_); refine gl_ (some 48) (Try.func79) #[.slice (some ad251) l1.length c1, .int .i64 ((rd_T99 t245 (rd l1 x26_2)).f3)] ?_; (with_reducible refine (slices_Index_int_int.calls k2 _ _ l1 ((rd_T99 t245 (rd l1 x26_2)).f3) t262 _ ?side1 ?side2 A44.out).mono ?_); (case side1 => exact lC (Kd.C_below HR1.out HB.out)); (case side2 => exact HC1.out); rintro e w' ⟨rfl, ⟨nd, rfl⟩⟩; refine ⟨_, rfl, ?_⟩; (try (rw [drewN_self w49]; generalize hq_ : World.drewN w49 _ = w49; have n0_ : Aside0 (Kd.V k130 130 w49 w.heap.size (fun k_ => (w.heap.size ≤ k_) ∧ some k_ ≠ (.slice (some ad252) t245.length co46 : Value).ownBlock ∧ some k_ ≠ (u7 : Value).ownBlock ∧ k_ ≠ gb253) (.slice A252_0 ((rd_T99 t245 (rd l1 x26_2)).f0).length c252_0) ((rd_T99 t245 (rd l1 x26_2)).f0)) := ⟨by rw [← hq_]; exact (by (with_reducible repeat (first | apply Kd.V_alloc | apply Kd.V_drewN | apply Kd.V_drew)); exact HL252_0.out)⟩; have n1_ : Aside0 (Kd.N impl_LayFlow.kt 99 w49 w.heap.size (fun k_ => (w.heap.size ≤ k_) ∧ some k_ ≠ (u7 : Value).ownBlock ∧ k_ ≠ gb253) (.slice (some ad252) t245.length co46) (t245.zip vs)) := ⟨by rw [← hq_]; exact (by (with_reducible repeat (first | apply Kd.N_alloc | apply Kd.N_drewN | apply Kd.N_drew)); exact HO_6.out)⟩; have n2_ : Aside0 (Kd.N impl_LayFlow.kt 99 w49 w.heap.size (fun k_ => (w.heap.size ≤ k_) ∧ some k_ ≠ (.slice (some ad252) t245.length co46 : Value).ownBlock ∧ k_ ≠ gb253) u7 (impl_LayFlow.zt vs x7_2 l1)) := ⟨by rw [← hq_]; exact (by (with_reducible repeat (first | apply Kd.N_alloc | apply Kd.N_drewN | apply Kd.N_drew)); exact HO_7.out)⟩; have n3_ : Aside0 (w49.heap[gb253]? = some (.cells #[.slice A252_0 ((rd_T99 t245 (rd l1 x26_2)).f0).length c252_0, .int .i64 ((rd_T99 t245 (rd l1 x26_2)).f1), .int .i64 ((rd_T99 t245 (rd l1 x26_2)).f2), .int .i64 ((rd_T99 t245 (rd l1 x26_2)).f3)] 99 (0, 0))) := ⟨by rw [← hq_]; exact (lK BK253.out)⟩; have n4_ : Aside0 (Below w.heap.size w w49) := ⟨by rw [← hq_]; exact lB⟩; have n5_ : Aside0 (Kd.C k130 w49 A252_0 ((rd_T99 t245 (rd l1 x26_2)).f0).length ((rd_T99 t245 (rd l1 x26_2)).f0)) := ⟨by rw [← hq_]; exact (by repeat (first | (with_reducible exact HR252_0.out) | (with_reducible refine Kd.C_alloc ?_ _) | (with_reducible refine Kd.C_drewN ?_ _) | (with_reducible refine Kd.C_drew ?_) | exact HR252_0.out | exact (Kd.V_reads' HL252_0.out).2.2))⟩; clear HL252_0 HO_6 HO_7 BK253 HB HR252_0 hq_; have HL252_0 := n0_; have HO_6 := n1_; have HO_7 := n2_; have BK253 := n3_; have HB := n4_; have HR252_0 := n5_; clear n0_ n1_ n2_ n3_ n4_ n5_)); (try (obtain ⟨hcy253_0, hfy253_0, hcy253_1, hfy253_1, hcy253_2, hfy253_2, hcy253_3, hfy253_3⟩ := bk4 BK253.out))) | ((with_reducible refine gate_store (t := 3) (p := 49) rfl ?_); refine store_event (t := 3) (p := 49) (v := ?vo_w51) (w1 := (w49.setCell ⟨gb253, 3, none⟩ (.int .i64 t262))) ?hg ?ho ?hn ?hr ?_; (case ho => rfl); (case hg => rfl); (case hn => rfl); (case hr => first | (go_simp; done) | (go_simp; rfl)); intro w51 hw; have n0_ : Aside0 (Kd.N impl_LayFlow.kt 99 w51 w.heap.size (fun k_ => (w.heap.size ≤ k_) ∧ some k_ ≠ (u7 : Value).ownBlock ∧ k_ ≠ gb253) (.slice (some ad252) t245.length co46) (t245.zip vs)) := ⟨(by rw [hw]; exact (by (with_reducible repeat (first | apply Kd.N_alloc | apply Kd.N_drewN | apply Kd.N_drew)); exact Kd.N_mono (Kd.N_far (p := ⟨gb253, 3, none⟩) (Kd.N_mono HO_6.out (fun k_ hk => (⟨hk, hk.2.2⟩ : _ ∧ k_ ≠ gb253))) (fun _ hk => hk.2) (.int .i64 t262)) (fun _ hk => ⟨hk.1.1, ⟨hk.1.2.1, hk.1.2.2⟩⟩)))⟩; have n1_ : Aside0 (Kd.N impl_LayFlow.kt 99 w51 w.heap.size (fun k_ => (w.heap.size ≤ k_) ∧ some k_ ≠ (.slice (some ad252) t245.length co46 : Value).ownBlock ∧ k_ ≠ gb253) u7 (impl_LayFlow.zt vs x7_2 l1)) := ⟨(by rw [hw]; exact (by (with_reducible repeat (first | apply Kd.N_alloc | apply Kd.N_drewN | apply Kd.N_drew)); exact Kd.N_mono (Kd.N_far (p := ⟨gb253, 3, none⟩) (Kd.N_mono HO_7.out (fun k_ hk => (⟨hk, hk.2.2⟩ : _ ∧ k_ ≠ gb253))) (fun _ hk => hk.2) (.int .i64 t262)) (fun _ hk => ⟨hk.1.1, ⟨hk.1.2.1, hk.1.2.2⟩⟩)))⟩; have n2_ : Aside0 (Kd.V k130 130 w51 w.heap.size (fun k_ => (w.heap.size ≤ k_) ∧ some k_ ≠ (.slice (some ad252) t245.length co46 : Value).ownBlock ∧ some k_ ≠ (u7 : Value).ownBlock ∧ k_ ≠ gb253) (.slice A252_0 ((rd_T99 t245 (rd l1 x26_2)).f0).length c252_0) ((rd_T99 t245 (rd l1 x26_2)).f0)) := ⟨(by rw [hw]; exact (by (with_reducible repeat (first | apply Kd.V_alloc | apply Kd.V_drewN | apply Kd.V_drew)); exact Kd.V_mono (Kd.V_far (p := ⟨gb253, 3, none⟩) (Kd.V_mono HL252_0.out (fun k_ hk => (⟨hk, hk.2.2.2⟩ : _ ∧ k_ ≠ gb253))) (fun _ hk => hk.2) (.int .i64 t262)) (fun _ hk => ⟨hk.1.1, ⟨hk.1.2.1, ⟨hk.1.2.2.1, hk.1.2.2.2⟩⟩⟩)))⟩; have n3_ : Aside0 (w51.heap[gb253]? = some (.cells #[.slice A252_0 ((rd_T99 t245 (rd l1 x26_2)).f0).length c252_0, .int .i64 ((rd_T99 t245 (rd l1 x26_2)).f1), .int .i64 ((rd_T99 t245 (rd l1 x26_2)).f2), .int .i64 t262] 99 (0, 0))) := ⟨(by rw [hw]; exact (by (with_reducible repeat first | apply bN | apply bD | apply bA); refine blk_put (cs := #[.slice A252_0 ((rd_T99 t245 (rd l1 x26_2)).f0).length c252_0, .int .i64 ((rd_T99 t245 (rd l1 x26_2)).f1), .int .i64 ((rd_T99 t245 (rd l1 x26_2)).f2), .int .i64 ((rd_T99 t245 (rd l1 x26_2)).f3)]) ?_ 3 _ rfl; (with_reducible repeat first | apply bN | apply bD | apply bA); exact BK253.out))⟩; have n4_ : Aside0 (Below w.heap.size w w51) := ⟨(by rw [hw]; exact lB)⟩; clear hw; clear HO_6; clear HO_7; clear HL252_0; clear BK253; clear HB; have HO_6 := n0_; have HO_7 := n1_; have HL252_0 := n2_; have BK253 := n3_; have HB := n4_; clear n0_ n1_ n2_ n3_ n4_; obtain ⟨hcz52_0, hfz52_0, hcz52_1, hfz52_1, hcz52_2, hfz52_2, hcz52_3, hfz52_3⟩ := bk4 BK253.out) | ((with_reducible refine gate_builtin (b := .append) (xs := #[.tmp 50, .tmp 52]) rfl ?_); (try (refine gate_guard (by rfl) ?_; dsimp only)); at_builtin; refine Kd.N_append impl_LayFlow.kt (w0 := w) w.heap.size rfl (.tmp 50) (.tmp 52) 57 99 (.agg #[(.slice none 0 0), (.int .i64 0), (.int .i64 0), (.int .i64 0)]) 48 rfl Try.underlying57 info99 rfl (by decide) (by omega) u7 (impl_LayFlow.zt vs x7_2 l1) ((⟨(rd_T99 t245 (rd l1 x26_2)).f0, (rd_T99 t245 (rd l1 x26_2)).f1, (rd_T99 t245 (rd l1 x26_2)).f2, t262⟩ : S99), impl_LayFlow.g vs (rd l1 x26_2)) [.slice A252_0 ((rd_T99 t245 (rd l1 x26_2)).f0).length c252_0, .int .i64 ((rd_T99 t245 (rd l1 x26_2)).f1), .int .i64 ((rd_T99 t245 (rd l1 x26_2)).f2), .int .i64 t262] (fun k_ => (w.heap.size ≤ k_) ∧ some k_ ≠ (.slice (some ad252) t245.length co46 : Value).ownBlock ∧ k_ ≠ gb253) (fun k_ => ((fun k_ => (w.heap.size ≤ k_) ∧ some k_ ≠ (.slice (some ad252) t245.length co46 : Value).ownBlock ∧ k_ ≠ gb253)) k_ ∧ some k_ ≠ (u7 : Value).ownBlock) rfl rfl ?aP (fun _ hk => hk) ?aF ?aO ?aB ?aS ?aL ?_; (case aP => exact impl_LayFlow.put (ok := fun k_ => (w.heap.size ≤ k_) ∧ some k_ ≠ (u7 : Value).ownBlock ∧ k_ ≠ gb253) HVL.out (rd l1 x26_2) HPI.out.1 HPI.out.2 HVS.out _ _ (by (with_reducible repeat (first | apply Kd.N_alloc | apply Kd.N_drewN | apply Kd.N_drew)); exact HO_6.out) (fun k hk => ⟨⟨hk.1.1, hk.2, hk.1.2.2⟩, hk.1.2.1⟩)); (case aB => exact lB); (case aF => exact (fun k_ hk => ⟨(Nat.le_trans (below_size lB) hk), Kd.fresh' (Kd.N_lt (by (with_reducible repeat (first | apply Kd.N_alloc | apply Kd.N_drewN | apply Kd.N_drew)); exact HO_6.out)) k_ hk, Kd.freshB (lK BK253.out) k_ hk⟩)); (case aO => exact (by (with_reducible repeat (first | apply Kd.N_alloc | apply Kd.N_drewN | apply Kd.N_drew)); exact HO_7.out)); (case aS => exact (below_size lB)); (case aL => have := LMc45.out; have := impl_LayFlow.zt_len vs x7_2 l1; omega); intro v264 w53 ho hb hg hat; rw [impl_LayFlow.zt_snoc _ _ _ _ HLN.out (of_decide_eq_true c14b0), ← Ny263.out] at ho; have n0_ := Aside0.mk (Kd.N_afterv (ok := (fun k_ => (w.heap.size ≤ k_) ∧ k_ ≠ gb253)) (by (with_reducible repeat (first | apply Kd.N_alloc | apply Kd.N_drewN | apply Kd.N_drew)); exact Kd.N_mono HO_6.out (fun _ hk => ⟨⟨hk.1, hk.2.2⟩, hk.2.1⟩)) hg hat); have n1_ := Aside0.mk (Kd.V_afterv (ok := (fun k_ => (w.heap.size ≤ k_) ∧ some k_ ≠ (.slice (some ad252) t245.length co46 : Value).ownBlock ∧ k_ ≠ gb253)) (by (with_reducible repeat (first | apply Kd.V_alloc | apply Kd.V_drewN | apply Kd.V_drew)); exact Kd.V_mono HL252_0.out (fun _ hk => ⟨⟨hk.1, ⟨hk.2.1, hk.2.2.2⟩⟩, hk.2.2.1⟩)) hg hat); have n2_ := Aside0.mk (blk_grown (lK BK253.out) hg (Kd.N_away HO_7.out (fun _ hk => hk.2.2))); have n3_ := Aside0.mk (hb); have n4_ := Aside0.mk (ho); clear HO_6; clear HL252_0; clear BK253; clear HB; clear HO_7; have HO_6 := n0_; have HL252_0 := n1_; have BK253 := n2_; have HB := n3_; have HO265 := n4_; clear n0_ n1_ n2_ n3_ n4_; clear ho hb hg hat))
              go_roundg k2
              case measure => have := HJ2.out; have := HK2.out; omega
              case rel => exact ⟨(y263), (wrap64 (x26_2 + 1)), lF, H', ⟨by have := HJ2.out; have := HK2.out; omega⟩, ⟨by (with_reducible repeat (first | apply Kd.N_alloc | apply Kd.N_drewN | apply Kd.N_drew)); exact Kd.N_mono HO_6.out (fun _ hk => ⟨hk.1.1, hk.2⟩)⟩, ⟨by (with_reducible repeat (first | apply Kd.N_alloc | apply Kd.N_drewN | apply Kd.N_drew)); exact Kd.N_mono HO265.out (fun _ hk => ⟨hk.1, hk.2.1⟩)⟩, ⟨impl_LayFlow.nextI HLN.out (of_decide_eq_true c14b0) Ny263.out LMc45.out⟩, ⟨lB⟩⟩
             ·rw [if_neg c45] at H
              exact absurd H (by simp)
            ·rw [if_neg c43] at H
             have c43b0 : decide (0 ≤ ((rd_T99 t245 (rd l1 x26_2)).f3)) = false := decide_eq_false c43
             clear c43
             by_cases c54 : x7_2.length < 2932031007402
             ·rw [if_pos c54] at H
              have LMc54 := Aside0.mk c54
              clear c54
              obtain ⟨y266, hy266⟩ : ∃ y_ : List (S99), y_ = (x7_2 ++ [(⟨(rd_T99 t245 (rd l1 x26_2)).f0, (rd_T99 t245 (rd l1 x26_2)).f1, (rd_T99 t245 (rd l1 x26_2)).f2, (rd_T99 t245 (rd l1 x26_2)).f3⟩ : S99)]) := ⟨_, rfl⟩
              replace H : (impl_LayFlow.l0 k2 l1 t245 y266 l1 (l1.length : Int) (wrap64 (x26_2 + 1))) = some (r1, r2) := by first | (rw [hy266]; with_reducible exact H) | (have H2_ := (Option.bind_some _ _).symm.trans H; rw [hy266]; with_reducible exact H2_) | (have H2_ := (Option.bind_some _ _).symm.trans H; with_reducible exact H2_) | with_reducible exact H | (rw [hy266]; exact H) | exact H
              have Ny266 := Aside0.mk hy266
              clear hy266
              have H' := Aside0.mk H
              clear H
              have p251 : 0 ≤ (x26_2 : Int) := lD
              have q251 : x26_2 < (l1.length : Int) := lD
              obtain ⟨ad251, e251, hx251_0⟩ := Kd.at_int HR1.out x26_2 p251 q251
              cases e251
              replace hx251_0 := pw_cell_below HB.out hx251_0
              replace p251 := eq_true p251
              replace q251 := eq_true q251
              obtain ⟨Ao55, co55, eo55⟩ := Kd.N_slice (impl_LayFlow.fst HVL.out HO_6.out)
              subst eo55
              have p252 : 0 ≤ ((rd l1 x26_2) : Int) := lD
              have q252 : (rd l1 x26_2) < (t245.length : Int) := lD
              obtain ⟨ad252, A252_0, c252_0, e252, hx252_0, hx252_1, hx252_2, hx252_3, hl252_0, hi252_0⟩ := at_T99 (Kd.N_reads' (impl_LayFlow.fst HVL.out HO_6.out)).2.2 (rd l1 x26_2) p252 q252
              cases e252
              have HVS := Aside0.mk (impl_LayFlow.same HVL.out HO_6.out (rd l1 x26_2) p252 q252 hx252_0)
              have HPI := Aside0.mk (And.intro p252 q252)
              obtain ⟨ce252, hce252, hMe252, hcc252⟩ := Kd.N_get (impl_LayFlow.fst HVL.out HO_6.out) z99 (rd l1 x26_2) p252 (by first | exact q252 | exact lD | (have e_ := (Kd.N_reads' (impl_LayFlow.fst HVL.out HO_6.out)).1; omega))
              obtain ⟨ua252_0, uc252_0, rfl, ul252_0, ge252_0⟩ := impl_LayFlow.openF hMe252
              have hv252_0 := hcc252 0 _ rfl
              rw [Nat.add_zero] at hv252_0
              replace hv252_0 := Option.some.inj (hv252_0.symm.trans hx252_0)
              injection hv252_0 with hva_ hvn_ hvc_
              rw [hva_] at ge252_0
              rw [hvc_] at ul252_0
              have HL252_0 := Aside0.mk (show Kd.V k130 130 _ w.heap.size _ _ ((rd_T99 t245 (rd l1 x26_2)).f0) from Kd.V_mk ul252_0 ge252_0)
              clear hva_ hvn_ hvc_ ge252_0 ul252_0
              clear hcc252 hce252
              have HR252_0 := Aside0.mk hi252_0
              have HC252_0 := Aside0.mk hl252_0
              clear hi252_0 hl252_0
              replace p252 := eq_true p252
              replace q252 := eq_true q252
              go_wp2_with (first | ((with_reducible refine gate_dst (N := 10) rfl ?_); (try (refine gate_guard (by rfl) ?_; dsimp only)); refine bxe 10 #[.slice none 0 0, .int .i64 0, .int .i64 0, .int .i64 0] 99 ?_; intro gb253 hg w56 hbox hb; have n0_ := Aside0.mk (Kd.N_below (Kd.N_elderB (by (with_reducible repeat (first | apply Kd.N_alloc | apply Kd.N_drewN | apply Kd.N_drew)); exact HO_6.out) gb253 (Nat.le_of_eq hg.symm)) hb); have n1_ := Aside0.mk (Kd.N_below (Kd.N_elderB (by (with_reducible repeat (first | apply Kd.N_alloc | apply Kd.N_drewN | apply Kd.N_drew)); exact HO_7.out) gb253 (Nat.le_of_eq hg.symm)) hb); have n2_ := Aside0.mk (Kd.V_below (Kd.V_elderB (by (with_reducible repeat (first | apply Kd.V_alloc | apply Kd.V_drewN | apply Kd.V_drew)); exact HL252_0.out) gb253 (Nat.le_of_eq hg.symm)) hb); have n3_ := Aside0.mk (Kd.C_below (by repeat (first | (with_reducible exact HR252_0.out) | (with_reducible refine Kd.C_alloc ?_ _) | (with_reducible refine Kd.C_drewN ?_ _) | (with_reducible refine Kd.C_drew ?_) | exact HR252_0.out | exact (Kd.V_reads' HL252_0.out).2.2)) hb); have n4_ := Aside0.mk (below_step lB hb); have n5_ := Aside0.mk (hbox); have n6_ := lG w hg; have n7_ := lG w hg; clear HO_6; clear HO_7; clear HL252_0; clear HR252_0; clear HB; have HO_6 := n0_; have HO_7 := n1_; have HL252_0 := n2_; have HR252_0 := n3_; have HB := n4_; have BK253 := n5_; have GW253 := n6_; have GE253 := n7_; clear n0_ n1_ n2_ n3_ n4_ n5_ n6_ n7_; clear hb hbox hg; obtain ⟨hcz57_0, hfz57_0, hcz57_1, hfz57_1, hcz57_2, hfz57_2, hcz57_3, hfz57_3⟩ := bk4 BK253.out) | ((with_reducible refine gate_store (t := 99) (p := 10) rfl ?_); refine store_event (t := 99) (p := 10) (v := ?vo_w58) (w1 := ((((w56.setCell ⟨gb253, 0, none⟩ (.slice A252_0 ((rd_T99 t245 (rd l1 x26_2)).f0).length c252_0)).setCell ⟨gb253, 1, none⟩ (.int .i64 ((rd_T99 t245 (rd l1 x26_2)).f1))).setCell ⟨gb253, 2, none⟩ (.int .i64 ((rd_T99 t245 (rd l1 x26_2)).f2))).setCell ⟨gb253, 3, none⟩ (.int .i64 ((rd_T99 t245 (rd l1 x26_2)).f3)))) ?hg ?ho ?hn ?hr ?_; (case ho => rfl); (case hg => rfl); (case hn => rfl); (case hr => first | (go_simp; done) | (go_simp; rfl)); intro w58 hw; have n0_ : Aside0 (Kd.N impl_LayFlow.kt 99 w58 w.heap.size (fun k_ => (w.heap.size ≤ k_) ∧ some k_ ≠ (u7 : Value).ownBlock ∧ k_ ≠ gb253) (.slice (some ad252) t245.length co55) (t245.zip vs)) := ⟨(by rw [hw]; exact (by (with_reducible repeat (first | apply Kd.N_alloc | apply Kd.N_drewN | apply Kd.N_drew)); exact Kd.N_mono (Kd.N_far (p := ⟨gb253, 3, none⟩) (Kd.N_far (p := ⟨gb253, 2, none⟩) (Kd.N_far (p := ⟨gb253, 1, none⟩) (Kd.N_far (p := ⟨gb253, 0, none⟩) (Kd.N_mono HO_6.out (fun k_ hk => (⟨hk, hk.2⟩ : _ ∧ k_ ≠ gb253))) (fun _ hk => hk.2) (.slice A252_0 ((rd_T99 t245 (rd l1 x26_2)).f0).length c252_0)) (fun _ hk => hk.2) (.int .i64 ((rd_T99 t245 (rd l1 x26_2)).f1))) (fun _ hk => hk.2) (.int .i64 ((rd_T99 t245 (rd l1 x26_2)).f2))) (fun _ hk => hk.2) (.int .i64 ((rd_T99 t245 (rd l1 x26_2)).f3))) (fun _ hk => ⟨hk.1.1.1, ⟨hk.1.1.2, hk.1.2⟩⟩)))⟩; have n1_ : Aside0 (Kd.N impl_LayFlow.kt 99 w58 w.heap.size (fun k_ => (w.heap.size ≤ k_) ∧ some k_ ≠ (.slice (some ad252) t245.length co55 : Value).ownBlock ∧ k_ ≠ gb253) u7 (impl_LayFlow.zt vs x7_2 l1)) := ⟨(by rw [hw]; exact (by (with_reducible repeat (first | apply Kd.N_alloc | apply Kd.N_drewN | apply Kd.N_drew)); exact Kd.N_mono (Kd.N_far (p := ⟨gb253, 3, none⟩) (Kd.N_far (p := ⟨gb253, 2, none⟩) (Kd.N_far (p := ⟨gb253, 1, none⟩) (Kd.N_far (p := ⟨gb253, 0, none⟩) (Kd.N_mono HO_7.out (fun k_ hk => (⟨hk, hk.2⟩ : _ ∧ k_ ≠ gb253))) (fun _ hk => hk.2) (.slice A252_0 ((rd_T99 t245 (rd l1 x26_2)).f0).length c252_0)) (fun _ hk => hk.2) (.int .i64 ((rd_T99 t245 (rd l1 x26_2)).f1))) (fun _ hk => hk.2) (.int .i64 ((rd_T99 t245 (rd l1 x26_2)).f2))) (fun _ hk => hk.2) (.int .i64 ((rd_T99 t245 (rd l1 x26_2)).f3))) (fun _ hk => ⟨hk.1.1.1, ⟨hk.1.1.2, hk.1.2⟩⟩)))⟩; have n2_ : Aside0 (Kd.V k130 130 w58 w.heap.size (fun k_ => (w.heap.size ≤ k_) ∧ some k_ ≠ (.slice (some ad252) t245.length co55 : Value).ownBlock ∧ some k_ ≠ (u7 : Value).ownBlock ∧ k_ ≠ gb253) (.slice A252_0 ((rd_T99 t245 (rd l1 x26_2)).f0).length c252_0) ((rd_T99 t245 (rd l1 x26_2)).f0)) := ⟨(by rw [hw]; exact (by (with_reducible repeat (first | apply Kd.V_alloc | apply Kd.V_drewN | apply Kd.V_drew)); exact Kd.V_mono (Kd.V_far (p := ⟨gb253, 3, none⟩) (Kd.V_far (p := ⟨gb253, 2, none⟩) (Kd.V_far (p := ⟨gb253, 1, none⟩) (Kd.V_far (p := ⟨gb253, 0, none⟩) (Kd.V_mono HL252_0.out (fun k_ hk => (⟨hk, hk.2⟩ : _ ∧ k_ ≠ gb253))) (fun _ hk => hk.2) (.slice A252_0 ((rd_T99 t245 (rd l1 x26_2)).f0).length c252_0)) (fun _ hk => hk.2) (.int .i64 ((rd_T99 t245 (rd l1 x26_2)).f1))) (fun _ hk => hk.2) (.int .i64 ((rd_T99 t245 (rd l1 x26_2)).f2))) (fun _ hk => hk.2) (.int .i64 ((rd_T99 t245 (rd l1 x26_2)).f3))) (fun _ hk => ⟨hk.1.1.1.1, ⟨hk.1.1.2, ⟨hk.1.1.1.2, hk.1.2⟩⟩⟩)))⟩; have n3_ : Aside0 (w58.heap[gb253]? = some (.cells #[.slice A252_0 ((rd_T99 t245 (rd l1 x26_2)).f0).length c252_0, .int .i64 ((rd_T99 t245 (rd l1 x26_2)).f1), .int .i64 ((rd_T99 t245 (rd l1 x26_2)).f2), .int .i64 ((rd_T99 t245 (rd l1 x26_2)).f3)] 99 (0, 0))) := ⟨(by rw [hw]; exact (by (with_reducible repeat first | apply bN | apply bD | apply bA); refine blk_put (cs := #[.slice A252_0 ((rd_T99 t245 (rd l1 x26_2)).f0).length c252_0, .int .i64 ((rd_T99 t245 (rd l1 x26_2)).f1), .int .i64 ((rd_T99 t245 (rd l1 x26_2)).f2), .int .i64 0]) ?_ 3 _ rfl; (with_reducible repeat first | apply bN | apply bD | apply bA); refine blk_put (cs := #[.slice A252_0 ((rd_T99 t245 (rd l1 x26_2)).f0).length c252_0, .int .i64 ((rd_T99 t245 (rd l1 x26_2)).f1), .int .i64 0, .int .i64 0]) ?_ 2 _ rfl; (with_reducible repeat first | apply bN | apply bD | apply bA); refine blk_put (cs := #[.slice A252_0 ((rd_T99 t245 (rd l1 x26_2)).f0).length c252_0, .int .i64 0, .int .i64 0, .int .i64 0]) ?_ 1 _ rfl; (with_reducible repeat first | apply bN | apply bD | apply bA); refine blk_put (cs := #[.slice none 0 0, .int .i64 0, .int .i64 0, .int .i64 0]) ?_ 0 _ rfl; (with_reducible repeat first | apply bN | apply bD | apply bA); exact BK253.out))⟩; have n4_ : Aside0 (Below w.heap.size w w58) := ⟨(by rw [hw]; exact lB)⟩; clear hw; clear HO_6; clear HO_7; clear HL252_0; clear BK253; clear HB; have HO_6 := n0_; have HO_7 := n1_; have HL252_0 := n2_; have BK253 := n3_; have HB := n4_; clear n0_ n1_ n2_ n3_ n4_; obtain ⟨hcz59_0, hfz59_0, hcz59_1, hfz59_1, hcz59_2, hfz59_2, hcz59_3, hfz59_3⟩ := bk4 BK253.out) | ((with_reducible refine gate_builtin (b := .append) (xs := #[.tmp 50, .tmp 52]) rfl ?_); (try (refine gate_guard (by rfl) ?_; dsimp only)); at_builtin; refine Kd.N_append impl_LayFlow.kt (w0 := w) w.heap.size rfl (.tmp 50) (.tmp 52) 57 99 (.agg #[(.slice none 0 0), (.int .i64 0), (.int .i64 0), (.int .i64 0)]) 48 rfl Try.underlying57 info99 rfl (by decide) (by omega) u7 (impl_LayFlow.zt vs x7_2 l1) ((⟨(rd_T99 t245 (rd l1 x26_2)).f0, (rd_T99 t245 (rd l1 x26_2)).f1, (rd_T99 t245 (rd l1 x26_2)).f2, (rd_T99 t245 (rd l1 x26_2)).f3⟩ : S99), impl_LayFlow.g vs (rd l1 x26_2)) [.slice A252_0 ((rd_T99 t245 (rd l1 x26_2)).f0).length c252_0, .int .i64 ((rd_T99 t245 (rd l1 x26_2)).f1), .int .i64 ((rd_T99 t245 (rd l1 x26_2)).f2), .int .i64 ((rd_T99 t245 (rd l1 x26_2)).f3)] (fun k_ => (w.heap.size ≤ k_) ∧ some k_ ≠ (.slice (some ad252) t245.length co55 : Value).ownBlock ∧ k_ ≠ gb253) (fun k_ => ((fun k_ => (w.heap.size ≤ k_) ∧ some k_ ≠ (.slice (some ad252) t245.length co55 : Value).ownBlock ∧ k_ ≠ gb253)) k_ ∧ some k_ ≠ (u7 : Value).ownBlock) rfl rfl ?aP (fun _ hk => hk) ?aF ?aO ?aB ?aS ?aL ?_; (case aP => exact impl_LayFlow.put (ok := fun k_ => (w.heap.size ≤ k_) ∧ some k_ ≠ (u7 : Value).ownBlock ∧ k_ ≠ gb253) HVL.out (rd l1 x26_2) HPI.out.1 HPI.out.2 HVS.out _ _ (by (with_reducible repeat (first | apply Kd.N_alloc | apply Kd.N_drewN | apply Kd.N_drew)); exact HO_6.out) (fun k hk => ⟨⟨hk.1.1, hk.2, hk.1.2.2⟩, hk.1.2.1⟩)); (case aB => exact lB); (case aF => exact (fun k_ hk => ⟨(Nat.le_trans (below_size lB) hk), Kd.fresh' (Kd.N_lt (by (with_reducible repeat (first | apply Kd.N_alloc | apply Kd.N_drewN | apply Kd.N_drew)); exact HO_6.out)) k_ hk, Kd.freshB (lK BK253.out) k_ hk⟩)); (case aO => exact (by (with_reducible repeat (first | apply Kd.N_alloc | apply Kd.N_drewN | apply Kd.N_drew)); exact HO_7.out)); (case aS => exact (below_size lB)); (case aL => have := LMc54.out; have := impl_LayFlow.zt_len vs x7_2 l1; omega); intro v267 w60 ho hb hg hat; rw [impl_LayFlow.zt_snoc _ _ _ _ HLN.out (of_decide_eq_true c14b0), ← Ny266.out] at ho; have n0_ := Aside0.mk (Kd.N_afterv (ok := (fun k_ => (w.heap.size ≤ k_) ∧ k_ ≠ gb253)) (by (with_reducible repeat (first | apply Kd.N_alloc | apply Kd.N_drewN | apply Kd.N_drew)); exact Kd.N_mono HO_6.out (fun _ hk => ⟨⟨hk.1, hk.2.2⟩, hk.2.1⟩)) hg hat); have n1_ := Aside0.mk (Kd.V_afterv (ok := (fun k_ => (w.heap.size ≤ k_) ∧ some k_ ≠ (.slice (some ad252) t245.length co55 : Value).ownBlock ∧ k_ ≠ gb253)) (by (with_reducible repeat (first | apply Kd.V_alloc | apply Kd.V_drewN | apply Kd.V_drew)); exact Kd.V_mono HL252_0.out (fun _ hk => ⟨⟨hk.1, ⟨hk.2.1, hk.2.2.2⟩⟩, hk.2.2.1⟩)) hg hat); have n2_ := Aside0.mk (blk_grown (lK BK253.out) hg (Kd.N_away HO_7.out (fun _ hk => hk.2.2))); have n3_ := Aside0.mk (hb); have n4_ := Aside0.mk (ho); clear HO_6; clear HL252_0; clear BK253; clear HB; clear HO_7; have HO_6 := n0_; have HL252_0 := n1_; have BK253 := n2_; have HB := n3_; have HO268 := n4_; clear n0_ n1_ n2_ n3_ n4_; clear ho hb hg hat))
              go_roundg k2
              case measure => have := HJ2.out; have := HK2.out; omega
              case rel => exact ⟨(y266), (wrap64 (x26_2 + 1)), lF, H', ⟨by have := HJ2.out; have := HK2.out; omega⟩, ⟨by (with_reducible repeat (first | apply Kd.N_alloc | apply Kd.N_drewN | apply Kd.N_drew)); exact Kd.N_mono HO_6.out (fun _ hk => ⟨hk.1.1, hk.2⟩)⟩, ⟨by (with_reducible repeat (first | apply Kd.N_alloc | apply Kd.N_drewN | apply Kd.N_drew)); exact Kd.N_mono HO268.out (fun _ hk => ⟨hk.1, hk.2.1⟩)⟩, ⟨impl_LayFlow.nextI HLN.out (of_decide_eq_true c14b0) Ny266.out LMc54.out⟩, ⟨lB⟩⟩
             ·rw [if_neg c54] at H
              exact absurd H (by simp)
          ·rw [if_neg c18] at H
           exact absurd H (by simp)
         ·rw [if_neg c17] at H
          exact absurd H (by simp)
        ·rw [if_neg c16] at H
         exact absurd H (by simp)
       ·rw [if_neg c15] at H
        exact absurd H (by simp)
      ·rw [if_neg c14] at H
       have c14b0 : decide (x26_2 < (l1.length : Int)) = false := decide_eq_false c14
       clear c14
       by_cases cnd : l1.Nodup ∧ ∀ i ∈ l1, 0 ≤ i ∧ i < (t245.length : Int)
       ·rw [if_pos cnd] at H
        have CND := Aside0.mk cnd
        clear cnd
        simp only [Option.some.injEq, Prod.mk.injEq] at H
        obtain ⟨rfl, rfl⟩ := H
        go_wp2
        go_ret2
        exact ⟨_, lE, by (with_reducible repeat (first | apply Kd.S_alloc | apply Kd.S_drewN | apply Kd.S_drew)); exact Kd.S_mono (impl_LayFlow.apart HVL.out HVB.out HVD.out CND.out HLN.out HO_7.out (fun k hk => hk.1)) (fun _ _ => trivial), lB⟩
       ·rw [if_neg cnd] at H
        exact absurd H (by simp)



/-! ### laws_eqInstr: function 133 -/
def laws_eqInstr.f (a0_0 : Int) (a0_1 : Int) (a0_2 : Int) (a0_3 : Int) (a0_4 : Int) (a1_0 : Int) (a1_1 : Int) (a1_2 : Int) (a1_3 : Int) (a1_4 : Int) : Option (Bool) := if a0_0 = a1_0 then (if a0_1 = a1_1 then (if a0_2 = a1_2 then (if a0_3 = a1_3 then (if a0_4 = a1_4 then (some true) else (some false)) else (some false)) else (some false)) else (some false)) else (some false)
set_option maxHeartbeats 8000000 in
set_option maxRecDepth 100000 in
theorem laws_eqInstr.calls (a0_0 : Int) (a0_1 : Int) (a0_2 : Int) (a0_3 : Int) (a0_4 : Int) (a1_0 : Int) (a1_1 : Int) (a1_2 : Int) (a1_3 : Int) (a1_4 : Int) (r : Bool) (w : World) (h : laws_eqInstr.f a0_0 a0_1 a0_2 a0_3 a0_4 a1_0 a1_1 a1_2 a1_3 a1_4 = some r) :
  Calls Try.prog 133 #[.agg #[.int .i64 a0_0, .int .i64 a0_1, .int .i64 a0_2, .int .i64 a0_3, .int .i64 a0_4], .agg #[.int .i64 a1_0, .int .i64 a1_1, .int .i64 a1_2, .int .i64 a1_3, .int .i64 a1_4]] w fun e w' => e = .returned (.bool r) ∧ Below w.heap.size w w' := by
 have hu130 := Try.underlying130
 have HB := Aside0.mk (Below.refl w.heap.size w)
 have H : (if a0_0 = a1_0 then (if a0_1 = a1_1 then (if a0_2 = a1_2 then (if a0_3 = a1_3 then (if a0_4 = a1_4 then (some true) else (some false)) else (some false)) else (some false)) else (some false)) else (some false)) = some r := h
 clear h
 by_cases c3 : a0_0 = a1_0
 ·rw [if_pos c3] at H
  have c3b0 : (a0_0 == a1_0) = true := beq_iff_eq.mpr c3
  have c3b1 : (a0_0 != a1_0) = false := bne_eq_false_iff_eq.mpr c3
  clear c3
  by_cases c4 : a0_1 = a1_1
  ·rw [if_pos c4] at H
   have c4b0 : (a0_1 == a1_1) = true := beq_iff_eq.mpr c4
   have c4b1 : (a0_1 != a1_1) = false := bne_eq_false_iff_eq.mpr c4
   clear c4
   by_cases c5 : a0_2 = a1_2
   ·rw [if_pos c5] at H
    have c5b0 : (a0_2 == a1_2) = true := beq_iff_eq.mpr c5
    have c5b1 : (a0_2 != a1_2) = false := bne_eq_false_iff_eq.mpr c5
    clear c5
    by_cases c6 : a0_3 = a1_3
    ·rw [if_pos c6] at H
     have c6b0 : (a0_3 == a1_3) = true := beq_iff_eq.mpr c6
     have c6b1 : (a0_3 != a1_3) = false := bne_eq_false_iff_eq.mpr c6
     clear c6
     by_cases c7 : a0_4 = a1_4
     ·rw [if_pos c7] at H
      have c7b0 : (a0_4 == a1_4) = true := beq_iff_eq.mpr c7
      have c7b1 : (a0_4 != a1_4) = false := bne_eq_false_iff_eq.mpr c7
      clear c7
      obtain rfl := Option.some.inj H
      go_enter Try.func133, Try.ntmps133
      go_wp2_with (first | ((with_reducible refine gate_dst (N := 2) rfl ?_); refine bxe 2 #[.int .i64 a0_0, .int .i64 a0_1, .int .i64 a0_2, .int .i64 a0_3, .int .i64 a0_4] 130 ?_; intro gb243 hg w8 hbox hb; have n0_ := Aside0.mk (below_step lB hb); have n1_ := Aside0.mk (hbox); have n2_ := lG w hg; have n3_ := lG w hg; clear HB; have HB := n0_; have BK243 := n1_; have GW243 := n2_; have GE243 := n3_; clear n0_ n1_ n2_ n3_; clear hb hbox hg) | ((with_reducible refine gate_dst (N := 3) rfl ?_); refine bxe 3 #[.int .i64 a1_0, .int .i64 a1_1, .int .i64 a1_2, .int .i64 a1_3, .int .i64 a1_4] 130 ?_; intro gb244 hg w9 hbox hb; have n0_ := Aside0.mk (blk_below (lK BK243.out) hb); have n1_ := Aside0.mk (below_step lB hb); have n2_ := Aside0.mk (hbox); have n3_ := lG w hg; have n4_ := lG w hg; have n5_ := Aside0.mk ((by rw [hg]; exact Nat.ne_of_lt (blk_lt (lK BK243.out)) : gb243 ≠ gb244)); have n6_ := Aside0.mk ((by rw [hg]; exact Nat.ne_of_gt (blk_lt (lK BK243.out)) : gb244 ≠ gb243)); clear BK243; clear HB; have BK243 := n0_; have HB := n1_; have BK244 := n2_; have GW244 := n3_; have GE244 := n4_; have NB243_244 := n5_; have NB244_243 := n6_; clear n0_ n1_ n2_ n3_ n4_ n5_ n6_; clear hb hbox hg; have hnb10 := NB243_244.out; have hnc10 := NB244_243.out; obtain ⟨hcz11_0, hfz11_0, hcz11_1, hfz11_1, hcz11_2, hfz11_2, hcz11_3, hfz11_3, hcz11_4, hfz11_4⟩ := bk5 BK243.out; obtain ⟨hcz12_0, hfz12_0, hcz12_1, hfz12_1, hcz12_2, hfz12_2, hcz12_3, hfz12_3, hcz12_4, hfz12_4⟩ := bk5 BK244.out))
      go_ret
      exact ⟨lE, lB⟩
     ·rw [if_neg c7] at H
      have c7b0 : (a0_4 == a1_4) = false := beq_eq_false_iff_ne.mpr c7
      have c7b1 : (a0_4 != a1_4) = true := bne_iff_ne.mpr c7
      obtain rfl := Option.some.inj H
      go_enter Try.func133, Try.ntmps133
      go_wp2_with (first | ((with_reducible refine gate_dst (N := 2) rfl ?_); refine bxe 2 #[.int .i64 a0_0, .int .i64 a0_1, .int .i64 a0_2, .int .i64 a0_3, .int .i64 a0_4] 130 ?_; intro gb243 hg w13 hbox hb; have n0_ := Aside0.mk (below_step lB hb); have n1_ := Aside0.mk (hbox); have n2_ := lG w hg; have n3_ := lG w hg; clear HB; have HB := n0_; have BK243 := n1_; have GW243 := n2_; have GE243 := n3_; clear n0_ n1_ n2_ n3_; clear hb hbox hg) | ((with_reducible refine gate_dst (N := 3) rfl ?_); refine bxe 3 #[.int .i64 a1_0, .int .i64 a1_1, .int .i64 a1_2, .int .i64 a1_3, .int .i64 a1_4] 130 ?_; intro gb244 hg w14 hbox hb; have n0_ := Aside0.mk (blk_below (lK BK243.out) hb); have n1_ := Aside0.mk (below_step lB hb); have n2_ := Aside0.mk (hbox); have n3_ := lG w hg; have n4_ := lG w hg; have n5_ := Aside0.mk ((by rw [hg]; exact Nat.ne_of_lt (blk_lt (lK BK243.out)) : gb243 ≠ gb244)); have n6_ := Aside0.mk ((by rw [hg]; exact Nat.ne_of_gt (blk_lt (lK BK243.out)) : gb244 ≠ gb243)); clear BK243; clear HB; have BK243 := n0_; have HB := n1_; have BK244 := n2_; have GW244 := n3_; have GE244 := n4_; have NB243_244 := n5_; have NB244_243 := n6_; clear n0_ n1_ n2_ n3_ n4_ n5_ n6_; clear hb hbox hg; have hnb15 := NB243_244.out; have hnc15 := NB244_243.out; obtain ⟨hcz16_0, hfz16_0, hcz16_1, hfz16_1, hcz16_2, hfz16_2, hcz16_3, hfz16_3, hcz16_4, hfz16_4⟩ := bk5 BK243.out; obtain ⟨hcz17_0, hfz17_0, hcz17_1, hfz17_1, hcz17_2, hfz17_2, hcz17_3, hfz17_3, hcz17_4, hfz17_4⟩ := bk5 BK244.out))
      go_ret
      exact ⟨lE, lB⟩
    ·rw [if_neg c6] at H
     have c6b0 : (a0_3 == a1_3) = false := beq_eq_false_iff_ne.mpr c6
     have c6b1 : (a0_3 != a1_3) = true := bne_iff_ne.mpr c6
     obtain rfl := Option.some.inj H
     go_enter Try.func133, Try.ntmps133
     go_wp2_with (first | ((with_reducible refine gate_dst (N := 2) rfl ?_); refine bxe 2 #[.int .i64 a0_0, .int .i64 a0_1, .int .i64 a0_2, .int .i64 a0_3, .int .i64 a0_4] 130 ?_; intro gb243 hg w18 hbox hb; have n0_ := Aside0.mk (below_step lB hb); have n1_ := Aside0.mk (hbox); have n2_ := lG w hg; have n3_ := lG w hg; clear HB; have HB := n0_; have BK243 := n1_; have GW243 := n2_; have GE243 := n3_; clear n0_ n1_ n2_ n3_; clear hb hbox hg) | ((with_reducible refine gate_dst (N := 3) rfl ?_); refine bxe 3 #[.int .i64 a1_0, .int .i64 a1_1, .int .i64 a1_2, .int .i64 a1_3, .int .i64 a1_4] 130 ?_; intro gb244 hg w19 hbox hb; have n0_ := Aside0.mk (blk_below (lK BK243.out) hb); have n1_ := Aside0.mk (below_step lB hb); have n2_ := Aside0.mk (hbox); have n3_ := lG w hg; have n4_ := lG w hg; have n5_ := Aside0.mk ((by rw [hg]; exact Nat.ne_of_lt (blk_lt (lK BK243.out)) : gb243 ≠ gb244)); have n6_ := Aside0.mk ((by rw [hg]; exact Nat.ne_of_gt (blk_lt (lK BK243.out)) : gb244 ≠ gb243)); clear BK243; clear HB; have BK243 := n0_; have HB := n1_; have BK244 := n2_; have GW244 := n3_; have GE244 := n4_; have NB243_244 := n5_; have NB244_243 := n6_; clear n0_ n1_ n2_ n3_ n4_ n5_ n6_; clear hb hbox hg; have hnb20 := NB243_244.out; have hnc20 := NB244_243.out; obtain ⟨hcz21_0, hfz21_0, hcz21_1, hfz21_1, hcz21_2, hfz21_2, hcz21_3, hfz21_3, hcz21_4, hfz21_4⟩ := bk5 BK243.out; obtain ⟨hcz22_0, hfz22_0, hcz22_1, hfz22_1, hcz22_2, hfz22_2, hcz22_3, hfz22_3, hcz22_4, hfz22_4⟩ := bk5 BK244.out))
     go_ret
     exact ⟨lE, lB⟩
   ·rw [if_neg c5] at H
    have c5b0 : (a0_2 == a1_2) = false := beq_eq_false_iff_ne.mpr c5
    have c5b1 : (a0_2 != a1_2) = true := bne_iff_ne.mpr c5
    obtain rfl := Option.some.inj H
    go_enter Try.func133, Try.ntmps133
    go_wp2_with (first | ((with_reducible refine gate_dst (N := 2) rfl ?_); refine bxe 2 #[.int .i64 a0_0, .int .i64 a0_1, .int .i64 a0_2, .int .i64 a0_3, .int .i64 a0_4] 130 ?_; intro gb243 hg w23 hbox hb; have n0_ := Aside0.mk (below_step lB hb); have n1_ := Aside0.mk (hbox); have n2_ := lG w hg; have n3_ := lG w hg; clear HB; have HB := n0_; have BK243 := n1_; have GW243 := n2_; have GE243 := n3_; clear n0_ n1_ n2_ n3_; clear hb hbox hg) | ((with_reducible refine gate_dst (N := 3) rfl ?_); refine bxe 3 #[.int .i64 a1_0, .int .i64 a1_1, .int .i64 a1_2, .int .i64 a1_3, .int .i64 a1_4] 130 ?_; intro gb244 hg w24 hbox hb; have n0_ := Aside0.mk (blk_below (lK BK243.out) hb); have n1_ := Aside0.mk (below_step lB hb); have n2_ := Aside0.mk (hbox); have n3_ := lG w hg; have n4_ := lG w hg; have n5_ := Aside0.mk ((by rw [hg]; exact Nat.ne_of_lt (blk_lt (lK BK243.out)) : gb243 ≠ gb244)); have n6_ := Aside0.mk ((by rw [hg]; exact Nat.ne_of_gt (blk_lt (lK BK243.out)) : gb244 ≠ gb243)); clear BK243; clear HB; have BK243 := n0_; have HB := n1_; have BK244 := n2_; have GW244 := n3_; have GE244 := n4_; have NB243_244 := n5_; have NB244_243 := n6_; clear n0_ n1_ n2_ n3_ n4_ n5_ n6_; clear hb hbox hg; have hnb25 := NB243_244.out; have hnc25 := NB244_243.out; obtain ⟨hcz26_0, hfz26_0, hcz26_1, hfz26_1, hcz26_2, hfz26_2, hcz26_3, hfz26_3, hcz26_4, hfz26_4⟩ := bk5 BK243.out; obtain ⟨hcz27_0, hfz27_0, hcz27_1, hfz27_1, hcz27_2, hfz27_2, hcz27_3, hfz27_3, hcz27_4, hfz27_4⟩ := bk5 BK244.out))
    go_ret
    exact ⟨lE, lB⟩
  ·rw [if_neg c4] at H
   have c4b0 : (a0_1 == a1_1) = false := beq_eq_false_iff_ne.mpr c4
   have c4b1 : (a0_1 != a1_1) = true := bne_iff_ne.mpr c4
   obtain rfl := Option.some.inj H
   go_enter Try.func133, Try.ntmps133
   go_wp2_with (first | ((with_reducible refine gate_dst (N := 2) rfl ?_); refine bxe 2 #[.int .i64 a0_0, .int .i64 a0_1, .int .i64 a0_2, .int .i64 a0_3, .int .i64 a0_4] 130 ?_; intro gb243 hg w28 hbox hb; have n0_ := Aside0.mk (below_step lB hb); have n1_ := Aside0.mk (hbox); have n2_ := lG w hg; have n3_ := lG w hg; clear HB; have HB := n0_; have BK243 := n1_; have GW243 := n2_; have GE243 := n3_; clear n0_ n1_ n2_ n3_; clear hb hbox hg) | ((with_reducible refine gate_dst (N := 3) rfl ?_); refine bxe 3 #[.int .i64 a1_0, .int .i64 a1_1, .int .i64 a1_2, .int .i64 a1_3, .int .i64 a1_4] 130 ?_; intro gb244 hg w29 hbox hb; have n0_ := Aside0.mk (blk_below (lK BK243.out) hb); have n1_ := Aside0.mk (below_step lB hb); have n2_ := Aside0.mk (hbox); have n3_ := lG w hg; have n4_ := lG w hg; have n5_ := Aside0.mk ((by rw [hg]; exact Nat.ne_of_lt (blk_lt (lK BK243.out)) : gb243 ≠ gb244)); have n6_ := Aside0.mk ((by rw [hg]; exact Nat.ne_of_gt (blk_lt (lK BK243.out)) : gb244 ≠ gb243)); clear BK243; clear HB; have BK243 := n0_; have HB := n1_; have BK244 := n2_; have GW244 := n3_; have GE244 := n4_; have NB243_244 := n5_; have NB244_243 := n6_; clear n0_ n1_ n2_ n3_ n4_ n5_ n6_; clear hb hbox hg; have hnb30 := NB243_244.out; have hnc30 := NB244_243.out; obtain ⟨hcz31_0, hfz31_0, hcz31_1, hfz31_1, hcz31_2, hfz31_2, hcz31_3, hfz31_3, hcz31_4, hfz31_4⟩ := bk5 BK243.out; obtain ⟨hcz32_0, hfz32_0, hcz32_1, hfz32_1, hcz32_2, hfz32_2, hcz32_3, hfz32_3, hcz32_4, hfz32_4⟩ := bk5 BK244.out))
   go_ret
   exact ⟨lE, lB⟩
 ·rw [if_neg c3] at H
  have c3b0 : (a0_0 == a1_0) = false := beq_eq_false_iff_ne.mpr c3
  have c3b1 : (a0_0 != a1_0) = true := bne_iff_ne.mpr c3
  obtain rfl := Option.some.inj H
  go_enter Try.func133, Try.ntmps133
  go_wp2_with (first | ((with_reducible refine gate_dst (N := 2) rfl ?_); refine bxe 2 #[.int .i64 a0_0, .int .i64 a0_1, .int .i64 a0_2, .int .i64 a0_3, .int .i64 a0_4] 130 ?_; intro gb243 hg w33 hbox hb; have n0_ := Aside0.mk (below_step lB hb); have n1_ := Aside0.mk (hbox); have n2_ := lG w hg; have n3_ := lG w hg; clear HB; have HB := n0_; have BK243 := n1_; have GW243 := n2_; have GE243 := n3_; clear n0_ n1_ n2_ n3_; clear hb hbox hg) | ((with_reducible refine gate_dst (N := 3) rfl ?_); refine bxe 3 #[.int .i64 a1_0, .int .i64 a1_1, .int .i64 a1_2, .int .i64 a1_3, .int .i64 a1_4] 130 ?_; intro gb244 hg w34 hbox hb; have n0_ := Aside0.mk (blk_below (lK BK243.out) hb); have n1_ := Aside0.mk (below_step lB hb); have n2_ := Aside0.mk (hbox); have n3_ := lG w hg; have n4_ := lG w hg; have n5_ := Aside0.mk ((by rw [hg]; exact Nat.ne_of_lt (blk_lt (lK BK243.out)) : gb243 ≠ gb244)); have n6_ := Aside0.mk ((by rw [hg]; exact Nat.ne_of_gt (blk_lt (lK BK243.out)) : gb244 ≠ gb243)); clear BK243; clear HB; have BK243 := n0_; have HB := n1_; have BK244 := n2_; have GW244 := n3_; have GE244 := n4_; have NB243_244 := n5_; have NB244_243 := n6_; clear n0_ n1_ n2_ n3_ n4_ n5_ n6_; clear hb hbox hg; have hnb35 := NB243_244.out; have hnc35 := NB244_243.out; obtain ⟨hcz36_0, hfz36_0, hcz36_1, hfz36_1, hcz36_2, hfz36_2, hcz36_3, hfz36_3, hcz36_4, hfz36_4⟩ := bk5 BK243.out; obtain ⟨hcz37_0, hfz37_0, hcz37_1, hfz37_1, hcz37_2, hfz37_2, hcz37_3, hfz37_3, hcz37_4, hfz37_4⟩ := bk5 BK244.out))
  go_ret
  exact ⟨lE, lB⟩

end Go.Proofs.Ytpnhlccdhflogaa.Q
