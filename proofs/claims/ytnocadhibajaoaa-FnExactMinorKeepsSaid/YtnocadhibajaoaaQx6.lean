-- Written by the program wip/tools/pr.py of this claim's session, over the kit's print.py.
import Derived.Test.YtnocadhibajaoaaQx0
import Derived.Test.YtnocadhibajaoaaQx3
import Derived.Test.YtnocadhibajaoaaQx4
import Derived.Test.YtnocadhibajaoaaQx5
namespace Go.Proofs.Ytnocadhibajaoaa.Q
open Go.RowKit Go.Proofs.YtnocadhibajaoaaW.PrintWords Go.Proofs.YtnocadhibajaoaaW.PrintLast Go.Proofs.YtnocadhibajaoaaW.PrintMore
attribute [local go_sem] max2_int min2_int max_two min_two max_three min_three max_four min_four   -- for this text's walks alone
set_option linter.unusedVariables false
set_option linter.unusedSimpArgs false

/-! ### spec_l1Put: function 63 -/
def spec_l1Put.l0 : Nat → List Int → Int → Int → Option (List Int)
 | 0, _, _, _ => none
 | k + 1, x0, x1, x5 => if x5 < (x0.length : Int) then (if 0 ≤ x5 then (if (rd x0 x5) < x1 then (spec_l1Put.l0 k x0 x1 (wrap64 (x5 + 1))) else (if (rd x0 x5) = x1 then (some x0) else (if x5 ≤ (x0.length : Int) then ((some (x0.take (x5 : Int).toNat : List Int)).bind fun y205 => (if ([] : List Int).length + y205.length < 17592186044416 then ((some (([] : List Int) ++ y205 : List Int)).bind fun y209 => (if y209.length < 17592186044416 then ((some (y209 ++ [x1] : List Int)).bind fun y212 => ((some (x0.drop (x5 : Int).toNat : List Int)).bind fun y215 => (if y212.length + y215.length < 17592186044416 then (some (y212 ++ y215)) else (none)))) else (none))) else (none))) else (none)))) else (none)) else (if 0 ≤ x5 then (if x5 ≤ (x0.length : Int) then ((some (x0.take (x5 : Int).toNat : List Int)).bind fun y222 => (if ([] : List Int).length + y222.length < 17592186044416 then ((some (([] : List Int) ++ y222 : List Int)).bind fun y226 => (if y226.length < 17592186044416 then ((some (y226 ++ [x1] : List Int)).bind fun y229 => ((some (x0.drop (x5 : Int).toNat : List Int)).bind fun y232 => (if y229.length + y232.length < 17592186044416 then (some (y229 ++ y232)) else (none)))) else (none))) else (none))) else (none)) else (none))
def spec_l1Put.f (k : Nat) (l0 : List Int) (a1 : Int) : Option (List Int) := spec_l1Put.l0 k l0 a1 0
theorem spec_l1Put.mono_l : ∀ k, (∀ y0 y1 y2, LeO (spec_l1Put.l0 k y0 y1 y2) (spec_l1Put.l0 (k + 1) y0 y1 y2))
 | 0 => fun _ _ _ r h => by simp [spec_l1Put.l0] at h
 | k + 1 => by
  have ih0 := spec_l1Put.mono_l k
  ·intro y0 y1 y2
   unfold spec_l1Put.l0
   repeat' first
   | with_reducible apply ih0
   | (with_reducible exact LeO.refl _)
   | (with_reducible exact LeO.none _)
   | (with_reducible refine LeO.ite ?_ ?_)
   | (with_reducible refine LeO.bind ?_ (fun _ => ?_))
   | apply ih0
   | exact LeO.none _
   | refine LeO.ite ?_ ?_
   | refine LeO.bind ?_ (fun _ => ?_)
theorem spec_l1Put.mono : ∀ a0 a1 k, LeO (spec_l1Put.f k a0 a1) (spec_l1Put.f (k + 1) a0 a1) := by
 intro a0 a1 k
 have ih0 := spec_l1Put.mono_l k
 unfold spec_l1Put.f
 repeat' first
   | with_reducible apply ih0
   | (with_reducible exact LeO.refl _)
   | (with_reducible exact LeO.none _)
   | (with_reducible refine LeO.ite ?_ ?_)
   | (with_reducible refine LeO.bind ?_ (fun _ => ?_))
   | apply ih0
   | exact LeO.none _
   | refine LeO.ite ?_ ?_
   | refine LeO.bind ?_ (fun _ => ?_)
set_option maxHeartbeats 8000000 in
set_option maxRecDepth 100000 in
theorem spec_l1Put.calls (k : Nat) (P0_ : Nat → Prop) (u9000_ : Value) (l0 : List Int) (a1 : Int) (r : List Int) (w0 w : World) (hB : Below w0.heap.size w0 w) (ho0 : Kd.R (Kd.int .i64) 3 w w0.heap.size P0_ u9000_ l0) (h : spec_l1Put.f k l0 a1 = some r) :
  Calls Try.prog 63 #[u9000_, .int .i64 a1] w fun e w' => ∃ v0_ : Value, e = .returned (v0_) ∧ Kd.R (Kd.int .i64) 3 w' w0.heap.size (fun k_ => (P0_ k_ ∨ w.heap.size ≤ k_)) v0_ r ∧ Below w0.heap.size w0 w' ∧ Kept w w' (fun k_ => P0_ k_) := by
 have HO0 := Aside0.mk (show Kd.R (Kd.int .i64) 3 w w0.heap.size (fun k_ => (P0_ k_ ∨ w.heap.size ≤ k_)) u9000_ l0 from Kd.R_mono ho0 (fun k_ hk => (.inl hk)))
 have HK := Aside0.mk (Kept.refl w (fun k_ => P0_ k_))
 have HW0 := Aside0.mk hB.size
 have HB := Aside0.mk hB
 clear hB
 have H : (spec_l1Put.l0 k l0 a1 0) = some r := h
 clear h
 have H' := Aside0.mk H
 clear H
 go_enter Try.func63, Try.ntmps63
 go_wp2
 go_loopg [5] k (fun kq v5 w' => ∃ (x5_1 : Int), v5 = .int .i64 x5_1 ∧ Aside0 (spec_l1Put.l0 kq l0 a1 x5_1 = some r) ∧ Aside0 (kq ≤ k) ∧ Aside0 (Kd.R (Kd.int .i64) 3 w' w0.heap.size (fun k_ => (P0_ k_ ∨ w.heap.size ≤ k_)) u9000_ l0) ∧ Aside0 (Kept w w' (fun k_ => P0_ k_)) ∧ Aside0 (Below w0.heap.size w0 w'))
 case atStart => exact ⟨(0), lF, H', ⟨Nat.le_refl _⟩, ⟨lR HO0.out⟩, ⟨by repeat (first | (with_reducible first | exact HK.out | apply Kept.alloc | apply Kept.drewN | apply Kept.drew) | exact HK.out)⟩, ⟨lB⟩⟩
 case round =>
  clear H'
  try clear p2
  obtain ⟨x5_1, rfl, HA, HK1, HO_0, HK, HB⟩ := hrel
  cases gk with
  | zero => exact absurd HA.out (by simp [spec_l1Put.l0])
  | succ k1 =>
   have H := HA.out
   clear HA
   simp only [spec_l1Put.l0] at H
   by_cases c3 : x5_1 < (l0.length : Int)
   ·rw [if_pos c3] at H
    have c3b0 : decide (x5_1 < (l0.length : Int)) = true := decide_eq_true c3
    clear c3
    by_cases c4 : 0 ≤ x5_1
    ·rw [if_pos c4] at H
     have c4b0 : decide (0 ≤ x5_1) = true := decide_eq_true c4
     clear c4
     by_cases c5 : (rd l0 x5_1) < a1
     ·rw [if_pos c5] at H
      have c5b0 : decide ((rd l0 x5_1) < a1) = true := decide_eq_true c5
      clear c5
      have H' := Aside0.mk H
      clear H
      obtain ⟨Ao6, co6, eo6⟩ := Kd.R_slice HO_0.out
      subst eo6
      have p203 : 0 ≤ (x5_1 : Int) := lD
      have q203 : x5_1 < (l0.length : Int) := lD
      obtain ⟨ad203, e203, hx203_0⟩ := Kd.at_int (Kd.R_reads' HO_0.out).2.2 x5_1 p203 q203
      cases e203
      replace p203 := eq_true p203
      replace q203 := eq_true q203
      go_wp2
      go_roundg k1
      case measure => have := HK1.out; omega
      case rel => exact ⟨(wrap64 (x5_1 + 1)), lF, H', ⟨by have := HK1.out; omega⟩, ⟨lR HO_0.out⟩, ⟨by repeat (first | (with_reducible first | exact HK.out | apply Kept.alloc | apply Kept.drewN | apply Kept.drew) | exact HK.out)⟩, ⟨lB⟩⟩
     ·rw [if_neg c5] at H
      have c5b0 : decide ((rd l0 x5_1) < a1) = false := decide_eq_false c5
      clear c5
      by_cases c7 : (rd l0 x5_1) = a1
      ·rw [if_pos c7] at H
       have c7b0 : ((rd l0 x5_1) == a1) = true := beq_iff_eq.mpr c7
       have c7b1 : ((rd l0 x5_1) != a1) = false := bne_eq_false_iff_eq.mpr c7
       clear c7
       obtain rfl := Option.some.inj H
       obtain ⟨Ao8, co8, eo8⟩ := Kd.R_slice HO_0.out
       subst eo8
       have p203 : 0 ≤ (x5_1 : Int) := lD
       have q203 : x5_1 < (l0.length : Int) := lD
       obtain ⟨ad203, e203, hx203_0⟩ := Kd.at_int (Kd.R_reads' HO_0.out).2.2 x5_1 p203 q203
       cases e203
       replace p203 := eq_true p203
       replace q203 := eq_true q203
       have p204 : 0 ≤ (x5_1 : Int) := lD
       have q204 : x5_1 < (l0.length : Int) := lD
       obtain ⟨ad204, e204, hx204_0⟩ := Kd.at_int (Kd.R_reads' HO_0.out).2.2 x5_1 p204 q204
       obtain rfl : ad203 = ad204 := (by injection e204)
       replace p204 := eq_true p204
       replace q204 := eq_true q204
       first | (go_wp2; go_ret; exact ⟨_, lE, lR HO_0.out, lB, by repeat (first | (with_reducible first | exact HK.out | apply Kept.alloc | apply Kept.drewN | apply Kept.drew) | exact HK.out)⟩) | (exfalso; simp only [decide_eq_false_iff_not, decide_eq_true_eq] at *; omega)
      ·rw [if_neg c7] at H
       have c7b0 : ((rd l0 x5_1) == a1) = false := beq_eq_false_iff_ne.mpr c7
       have c7b1 : ((rd l0 x5_1) != a1) = true := bne_iff_ne.mpr c7
       have c9b0 := eq_true (lD : 0 ≤ x5_1)
       by_cases c10 : x5_1 ≤ (l0.length : Int)
       ·rw [if_pos c10] at H
        have c10b0 := eq_true c10
        have c10b1 : decide (x5_1 ≤ (l0.length : Int)) = true := decide_eq_true c10
        clear c10
        obtain ⟨y205, hy205⟩ : ∃ y_ : List Int, y_ = (l0.take (x5_1 : Int).toNat) := ⟨_, rfl⟩
        replace H : (if ([] : List Int).length + y205.length < 17592186044416 then ((some (([] : List Int) ++ y205 : List Int)).bind fun y209 => (if y209.length < 17592186044416 then ((some (y209 ++ [a1] : List Int)).bind fun y212 => ((some (l0.drop (x5_1 : Int).toNat : List Int)).bind fun y215 => (if y212.length + y215.length < 17592186044416 then (some (y212 ++ y215)) else (none)))) else (none))) else (none)) = some r := by first | (rw [hy205]; with_reducible exact H) | (have H2_ := (Option.bind_some _ _).symm.trans H; rw [hy205]; with_reducible exact H2_) | (have H2_ := (Option.bind_some _ _).symm.trans H; with_reducible exact H2_) | with_reducible exact H | (rw [hy205]; exact H) | exact H
        have Ny205 := Aside0.mk hy205
        clear hy205
        by_cases c11 : ([] : List Int).length + y205.length < 17592186044416
        ·rw [if_pos c11] at H
         have LMc11 := Aside0.mk c11
         clear c11
         obtain ⟨y209, hy209⟩ : ∃ y_ : List Int, y_ = (([] : List Int) ++ y205) := ⟨_, rfl⟩
         replace H : (if y209.length < 17592186044416 then ((some (y209 ++ [a1] : List Int)).bind fun y212 => ((some (l0.drop (x5_1 : Int).toNat : List Int)).bind fun y215 => (if y212.length + y215.length < 17592186044416 then (some (y212 ++ y215)) else (none)))) else (none)) = some r := by first | (rw [hy209]; with_reducible exact H) | (have H2_ := (Option.bind_some _ _).symm.trans H; rw [hy209]; with_reducible exact H2_) | (have H2_ := (Option.bind_some _ _).symm.trans H; with_reducible exact H2_) | with_reducible exact H | (rw [hy209]; exact H) | exact H
         have Ny209 := Aside0.mk hy209
         clear hy209
         by_cases c12 : y209.length < 17592186044416
         ·rw [if_pos c12] at H
          have LMc12 := Aside0.mk c12
          clear c12
          obtain ⟨y212, hy212⟩ : ∃ y_ : List Int, y_ = (y209 ++ [a1]) := ⟨_, rfl⟩
          replace H : ((some (l0.drop (x5_1 : Int).toNat : List Int)).bind fun y215 => (if y212.length + y215.length < 17592186044416 then (some (y212 ++ y215)) else (none))) = some r := by first | (rw [hy212]; with_reducible exact H) | (have H2_ := (Option.bind_some _ _).symm.trans H; rw [hy212]; with_reducible exact H2_) | (have H2_ := (Option.bind_some _ _).symm.trans H; with_reducible exact H2_) | with_reducible exact H | (rw [hy212]; exact H) | exact H
          have Ny212 := Aside0.mk hy212
          clear hy212
          have c13b0 := eq_true (lD : 0 ≤ x5_1)
          have c14b0 := eq_true (lD : x5_1 ≤ (l0.length : Int))
          obtain ⟨y215, hy215⟩ : ∃ y_ : List Int, y_ = (l0.drop (x5_1 : Int).toNat) := ⟨_, rfl⟩
          replace H : (if y212.length + y215.length < 17592186044416 then (some (y212 ++ y215)) else (none)) = some r := by first | (rw [hy215]; with_reducible exact H) | (have H2_ := (Option.bind_some _ _).symm.trans H; rw [hy215]; with_reducible exact H2_) | (have H2_ := (Option.bind_some _ _).symm.trans H; with_reducible exact H2_) | with_reducible exact H | (rw [hy215]; exact H) | exact H
          have Ny215 := Aside0.mk hy215
          clear hy215
          by_cases c15 : y212.length + y215.length < 17592186044416
          ·rw [if_pos c15] at H
           have LMc15 := Aside0.mk c15
           clear c15
           obtain ⟨y219, hy219⟩ : ∃ y_ : List Int, y_ = (y212 ++ y215) := ⟨_, rfl⟩
           replace H : (some y219) = some r := by first | (rw [hy219]; with_reducible exact H) | (have H2_ := (Option.bind_some _ _).symm.trans H; rw [hy219]; with_reducible exact H2_) | (have H2_ := (Option.bind_some _ _).symm.trans H; with_reducible exact H2_) | with_reducible exact H | (rw [hy219]; exact H) | exact H
           have Ny219 := Aside0.mk hy219
           clear hy219
           obtain rfl := Option.some.inj H
           obtain ⟨Ao16, co16, eo16⟩ := Kd.R_slice HO_0.out
           subst eo16
           have p203 : 0 ≤ (x5_1 : Int) := lD
           have q203 : x5_1 < (l0.length : Int) := lD
           obtain ⟨ad203, e203, hx203_0⟩ := Kd.at_int (Kd.R_reads' HO_0.out).2.2 x5_1 p203 q203
           cases e203
           replace p203 := eq_true p203
           replace q203 := eq_true q203
           have p204 : 0 ≤ (x5_1 : Int) := lD
           have q204 : x5_1 < (l0.length : Int) := lD
           obtain ⟨ad204, e204, hx204_0⟩ := Kd.at_int (Kd.R_reads' HO_0.out).2.2 x5_1 p204 q204
           obtain rfl : ad203 = ad204 := (by injection e204)
           replace p204 := eq_true p204
           replace q204 := eq_true q204
           have q17 : (x5_1 : Int) ≤ ((l0.length : Int) : Int) := lD
           obtain ⟨i017, hi017, _, hsz17, _⟩ := info_parts info3
           have hroom17 : l0.length ≤ co16 := (Kd.R_reads' HO_0.out).2.1
           have hC17 : Kd.C (Kd.int .i64) _ (some ad203) l0.length l0 := (Kd.R_reads' HO_0.out).2.2
           have hcut17 := cut_to (P := Try.prog) 23 3 .i64 Try.underlying23 hi017 (some ad203) l0.length co16 x5_1 (lD) q17 hroom17
           have hr17 := Kd.C_take (m := (x5_1 : Int).toNat) hC17 (by omega)
           have hy17 : y205.length = (x5_1 : Int).toNat := (by rw [Ny205.out, List.length_take]; omega)
           rw [← Ny205.out] at hr17
           rw [← hy17] at hcut17
           have HR208 := Aside0.mk hr17
           have HC208 := Aside0.mk (show y205.length ≤ co16 from by omega)
           clear hr17 hC17 hroom17 hi017 hsz17
           have KY17 := Aside0.mk hy17
           clear hy17
           have KL17 := Aside0.mk (show (x5_1 : Int).toNat ≤ l0.length from by omega)
           replace q17 := eq_true q17
           go_wp2_with (first | ((with_reducible refine gate_builtin (b := .append) (xs := #[.tmp 34, .tmp 37]) rfl ?_); at_builtin; refine Kd.R_append_rows (Kd.int .i64) (w0 := w0) w0.heap.size rfl (.tmp 34) (.tmp 37) 23 3 (.int .i64 0) 8 rfl Try.underlying23 info3 rfl (by decide) (by omega) (.slice none 0 0) ([] : List Int) y205 _ _ _ (fun k_ => (P0_ k_ ∨ w.heap.size ≤ k_) ∧ some k_ ≠ (.slice (some ad203) l0.length co16 : Value).ownBlock) (fun _ => False) rfl rfl ?aO ?aR (fun _ _ h => h) (fun _ h => h.elim) ?aF ?aB ?aS ?aL ?_; (case aR => repeat (first | exact (by repeat (first | (with_reducible exact HR208.out) | (with_reducible refine Kd.C_alloc ?_ _) | (with_reducible refine Kd.C_drewN ?_ _) | (with_reducible refine Kd.C_drew ?_) | exact HR208.out)) | (with_reducible refine Kd.C_alloc ?_ _) | (with_reducible refine Kd.C_drewN ?_ _) | (with_reducible refine Kd.C_drew ?_))); (case aB => exact lB); (case aF => exact (fun k_ hk => ⟨(.inr (Nat.le_trans (by first | exact HK.out.1 | exact (show Kept w _ (fun k_ => P0_ k_) from by repeat (first | (with_reducible first | exact HK.out | apply Kept.alloc | apply Kept.drewN | apply Kept.drew) | exact HK.out)).1) hk)), Kd.fresh' (Kd.R_lt (lR HO_0.out)) k_ hk⟩)); (case aO => exact ((Kd.R_nil _ _ _ _ (fun k_ => (P0_ k_ ∨ w.heap.size ≤ k_) ∧ some k_ ≠ (.slice (some ad203) l0.length co16 : Value).ownBlock)))); (case aS => exact (below_size lB)); (case aL => have := LMc11.out; omega); intro v210 w18 ho hb hg hat; rw [← Ny209.out] at ho; have n0_ := Aside0.mk (Kd.R_after (Kd.R_apart_nil (lR HO_0.out)) hg hat); have n1_ := Aside0.mk (hb); have n2_ := Aside0.mk (Kept.of_grown (S := (fun k_ => P0_ k_)) hg (by repeat (first | (with_reducible first | exact HK.out | apply Kept.alloc | apply Kept.drewN | apply Kept.drew) | exact HK.out)) (fun k_ e_ => by simp [Value.ownBlock] at e_)); have n3_ := Aside0.mk ((show Kd.C (Kd.int .i64) w18 (some ad203) y205.length y205 from by rw [Ny205.out]; exact Kd.C_take (m := (x5_1 : Int).toNat) ((Kd.R_reads' (Kd.R_after (Kd.R_apart_nil (lR HO_0.out)) hg hat)).2.2) KL17.out)); have n4_ := Aside0.mk (ho); clear HO_0; clear HB; clear HK; clear HR208; have HO_0 := n0_; have HB := n1_; have HK := n2_; have HR208 := n3_; have HO211 := n4_; clear n0_ n1_ n2_ n3_ n4_; clear ho hb hg hat) | ((with_reducible refine gate_builtin (b := .append) (xs := #[.tmp 39, .tmp 41]) rfl ?_); at_builtin; refine Kd.R_append (Kd.int .i64) (w0 := w0) w0.heap.size rfl (.tmp 39) (.tmp 41) 23 3 (.int .i64 0) 8 rfl Try.underlying23 info3 rfl (by decide) (by omega) v210 y209 a1 [.int .i64 a1] (fun k_ => (P0_ k_ ∨ w.heap.size ≤ k_) ∧ some k_ ≠ (.slice (some ad203) l0.length co16 : Value).ownBlock) (fun _ => False) rfl rfl ?aP (fun _ hk => hk.elim) ?aF ?aO ?aB ?aS ?aL ?_; (case aP => exact rfl); (case aB => exact lB); (case aF => exact (fun k_ hk => ⟨(.inr (Nat.le_trans (by first | exact HK.out.1 | exact (show Kept w _ (fun k_ => P0_ k_) from by repeat (first | (with_reducible first | exact HK.out | apply Kept.alloc | apply Kept.drewN | apply Kept.drew) | exact HK.out)).1) hk)), Kd.fresh' (Kd.R_lt (lR HO_0.out)) k_ hk⟩)); (case aO => exact (lR HO211.out)); (case aS => exact (below_size lB)); (case aL => have := LMc12.out; omega); intro v213 w19 ho hb hg hat; rw [← Ny212.out] at ho; have n0_ := Aside0.mk (Kd.R_after (ok := (fun k_ => (P0_ k_ ∨ w.heap.size ≤ k_))) (lR HO_0.out) hg hat); have n1_ := Aside0.mk (hb); have n2_ := Aside0.mk (Kept.of_grown (S := (fun k_ => P0_ k_)) hg (by repeat (first | (with_reducible first | exact HK.out | apply Kept.alloc | apply Kept.drewN | apply Kept.drew) | exact HK.out)) (fun k_ e_ => (HO211.out.1 k_ e_).1)); have n3_ := Aside0.mk ((show Kd.C (Kd.int .i64) w19 (some ad203) y205.length y205 from by rw [Ny205.out]; exact Kd.C_take (m := (x5_1 : Int).toNat) ((Kd.R_reads' (Kd.R_after (ok := (fun k_ => (P0_ k_ ∨ w.heap.size ≤ k_))) (lR HO_0.out) hg hat)).2.2) KL17.out)); have n4_ := Aside0.mk (ho); clear HO_0; clear HB; clear HK; clear HR208; clear HO211; have HO_0 := n0_; have HB := n1_; have HK := n2_; have HR208 := n3_; have HO214 := n4_; clear n0_ n1_ n2_ n3_ n4_; clear ho hb hg hat; have q20 : (x5_1 : Int) ≤ ((l0.length : Int) : Int) := lD; obtain ⟨i020, hi020, _, hsz20, _⟩ := info_parts info3; have hroom20 : l0.length ≤ co16 := (Kd.R_reads' HO_0.out).2.1; have hC20 : Kd.C (Kd.int .i64) _ (some ad203) l0.length l0 := (Kd.R_reads' HO_0.out).2.2; have q020 : (0 : Int) ≤ (x5_1 : Int) := lD; have hcut20 := cut_from (P := Try.prog) 23 3 .i64 Try.underlying23 hi020 1 hsz20 (some ad203) l0.length co16 x5_1 q020 q20; have hr20 := Kd.C_drop (m := (x5_1 : Int).toNat) (c := co16) hC20 (by omega) hroom20; obtain ⟨A20, hA20⟩ : ∃ A1, A1 = (if co16 = (x5_1 : Int).toNat then (some ad203) else ((some ad203) : Option Addr).map (·.add ((x5_1 : Int).toNat * 1))) := ⟨_, rfl⟩; obtain ⟨c20, hc20⟩ : ∃ c1, c1 = co16 - (x5_1 : Int).toNat := ⟨_, rfl⟩; have hy20 : y215.length = l0.length - (x5_1 : Int).toNat := (by rw [Ny215.out, List.length_drop] <;> omega); rw [show (l0).drop (x5_1 : Int).toNat = y215 from Ny215.out.symm] at hr20; replace hr20 : Kd.C (Kd.int .i64) _ A20 y215.length y215 := (by rw [hA20]; exact hr20); rw [← hy20, ← hA20, ← hc20] at hcut20; have HR218 := Aside0.mk hr20; have HC218 := Aside0.mk (show y215.length ≤ c20 from by rw [hy20, hc20]; exact Nat.sub_le_sub_right hroom20 _); clear hr20 hC20 hroom20 hi020 hsz20 hc20; have KY20 := Aside0.mk hy20; have KA20 := Aside0.mk hA20; clear hy20 hA20; have KL20 := Aside0.mk (show (x5_1 : Int).toNat ≤ l0.length from by omega); replace q20 := eq_true q20) | ((with_reducible refine gate_builtin (b := .append) (xs := #[.tmp 43, .tmp 46]) rfl ?_); at_builtin; refine Kd.R_append_rows (Kd.int .i64) (w0 := w0) w0.heap.size rfl (.tmp 43) (.tmp 46) 23 3 (.int .i64 0) 8 rfl Try.underlying23 info3 rfl (by decide) (by omega) v213 y212 y215 _ _ _ (fun k_ => (P0_ k_ ∨ w.heap.size ≤ k_) ∧ some k_ ≠ (.slice (some ad203) l0.length co16 : Value).ownBlock) (fun _ => False) rfl rfl ?aO ?aR (fun _ _ h => h) (fun _ h => h.elim) ?aF ?aB ?aS ?aL ?_; (case aR => repeat (first | exact (by repeat (first | (with_reducible exact HR218.out) | (with_reducible refine Kd.C_alloc ?_ _) | (with_reducible refine Kd.C_drewN ?_ _) | (with_reducible refine Kd.C_drew ?_) | exact HR218.out)) | (with_reducible refine Kd.C_alloc ?_ _) | (with_reducible refine Kd.C_drewN ?_ _) | (with_reducible refine Kd.C_drew ?_))); (case aB => exact lB); (case aF => exact (fun k_ hk => ⟨(.inr (Nat.le_trans (by first | exact HK.out.1 | exact (show Kept w _ (fun k_ => P0_ k_) from by repeat (first | (with_reducible first | exact HK.out | apply Kept.alloc | apply Kept.drewN | apply Kept.drew) | exact HK.out)).1) hk)), Kd.fresh' (Kd.R_lt (lR HO_0.out)) k_ hk⟩)); (case aO => exact (lR HO214.out)); (case aS => exact (below_size lB)); (case aL => have := LMc15.out; omega); intro v220 w21 ho hb hg hat; rw [← Ny219.out] at ho; have n0_ := Aside0.mk (Kd.R_after (ok := (fun k_ => (P0_ k_ ∨ w.heap.size ≤ k_))) (lR HO_0.out) hg hat); have n1_ := Aside0.mk (hb); have n2_ := Aside0.mk (Kept.of_grown (S := (fun k_ => P0_ k_)) hg (by repeat (first | (with_reducible first | exact HK.out | apply Kept.alloc | apply Kept.drewN | apply Kept.drew) | exact HK.out)) (fun k_ e_ => (HO214.out.1 k_ e_).1)); have n3_ := Aside0.mk ((show Kd.C (Kd.int .i64) w21 (some ad203) y205.length y205 from by rw [Ny205.out]; exact Kd.C_take (m := (x5_1 : Int).toNat) ((Kd.R_reads' (Kd.R_after (ok := (fun k_ => (P0_ k_ ∨ w.heap.size ≤ k_))) (lR HO_0.out) hg hat)).2.2) KL17.out)); have n4_ := Aside0.mk ((show Kd.C (Kd.int .i64) w21 A20 y215.length y215 from by rw [Ny215.out, KA20.out]; exact Kd.C_drop (m := (x5_1 : Int).toNat) (c := co16) ((Kd.R_reads' (Kd.R_after (ok := (fun k_ => (P0_ k_ ∨ w.heap.size ≤ k_))) (lR HO_0.out) hg hat)).2.2) KL20.out ((Kd.R_reads' (Kd.R_after (ok := (fun k_ => (P0_ k_ ∨ w.heap.size ≤ k_))) (lR HO_0.out) hg hat)).2.1))); have n5_ := Aside0.mk (ho); clear HO_0; clear HB; clear HK; clear HR208; clear HR218; clear HO214; have HO_0 := n0_; have HB := n1_; have HK := n2_; have HR208 := n3_; have HR218 := n4_; have HO221 := n5_; clear n0_ n1_ n2_ n3_ n4_ n5_; clear ho hb hg hat))
           go_ret
           exact ⟨_, lE, by (with_reducible repeat (first | apply Kd.R_alloc | apply Kd.R_drewN | apply Kd.R_drew)); exact Kd.R_mono HO221.out (fun _ hk => hk.1), lB, by repeat (first | (with_reducible first | exact HK.out | apply Kept.alloc | apply Kept.drewN | apply Kept.drew) | exact HK.out)⟩
          ·rw [if_neg c15] at H
           exact absurd H (by simp)
         ·rw [if_neg c12] at H
          exact absurd H (by simp)
        ·rw [if_neg c11] at H
         exact absurd H (by simp)
       ·rw [if_neg c10] at H
        exact absurd H (by simp)
    ·rw [if_neg c4] at H
     exact absurd H (by simp)
   ·rw [if_neg c3] at H
    have c3b0 : decide (x5_1 < (l0.length : Int)) = false := decide_eq_false c3
    clear c3
    by_cases c22 : 0 ≤ x5_1
    ·rw [if_pos c22] at H
     have c22b0 := eq_true c22
     have c22b1 : decide (0 ≤ x5_1) = true := decide_eq_true c22
     clear c22
     by_cases c23 : x5_1 ≤ (l0.length : Int)
     ·rw [if_pos c23] at H
      have c23b0 := eq_true c23
      have c23b1 : decide (x5_1 ≤ (l0.length : Int)) = true := decide_eq_true c23
      clear c23
      obtain ⟨y222, hy222⟩ : ∃ y_ : List Int, y_ = (l0.take (x5_1 : Int).toNat) := ⟨_, rfl⟩
      replace H : (if ([] : List Int).length + y222.length < 17592186044416 then ((some (([] : List Int) ++ y222 : List Int)).bind fun y226 => (if y226.length < 17592186044416 then ((some (y226 ++ [a1] : List Int)).bind fun y229 => ((some (l0.drop (x5_1 : Int).toNat : List Int)).bind fun y232 => (if y229.length + y232.length < 17592186044416 then (some (y229 ++ y232)) else (none)))) else (none))) else (none)) = some r := by first | (rw [hy222]; with_reducible exact H) | (have H2_ := (Option.bind_some _ _).symm.trans H; rw [hy222]; with_reducible exact H2_) | (have H2_ := (Option.bind_some _ _).symm.trans H; with_reducible exact H2_) | with_reducible exact H | (rw [hy222]; exact H) | exact H
      have Ny222 := Aside0.mk hy222
      clear hy222
      by_cases c24 : ([] : List Int).length + y222.length < 17592186044416
      ·rw [if_pos c24] at H
       have LMc24 := Aside0.mk c24
       clear c24
       obtain ⟨y226, hy226⟩ : ∃ y_ : List Int, y_ = (([] : List Int) ++ y222) := ⟨_, rfl⟩
       replace H : (if y226.length < 17592186044416 then ((some (y226 ++ [a1] : List Int)).bind fun y229 => ((some (l0.drop (x5_1 : Int).toNat : List Int)).bind fun y232 => (if y229.length + y232.length < 17592186044416 then (some (y229 ++ y232)) else (none)))) else (none)) = some r := by first | (rw [hy226]; with_reducible exact H) | (have H2_ := (Option.bind_some _ _).symm.trans H; rw [hy226]; with_reducible exact H2_) | (have H2_ := (Option.bind_some _ _).symm.trans H; with_reducible exact H2_) | with_reducible exact H | (rw [hy226]; exact H) | exact H
       have Ny226 := Aside0.mk hy226
       clear hy226
       by_cases c25 : y226.length < 17592186044416
       ·rw [if_pos c25] at H
        have LMc25 := Aside0.mk c25
        clear c25
        obtain ⟨y229, hy229⟩ : ∃ y_ : List Int, y_ = (y226 ++ [a1]) := ⟨_, rfl⟩
        replace H : ((some (l0.drop (x5_1 : Int).toNat : List Int)).bind fun y232 => (if y229.length + y232.length < 17592186044416 then (some (y229 ++ y232)) else (none))) = some r := by first | (rw [hy229]; with_reducible exact H) | (have H2_ := (Option.bind_some _ _).symm.trans H; rw [hy229]; with_reducible exact H2_) | (have H2_ := (Option.bind_some _ _).symm.trans H; with_reducible exact H2_) | with_reducible exact H | (rw [hy229]; exact H) | exact H
        have Ny229 := Aside0.mk hy229
        clear hy229
        have c26b0 := eq_true (lD : 0 ≤ x5_1)
        have c27b0 := eq_true (lD : x5_1 ≤ (l0.length : Int))
        obtain ⟨y232, hy232⟩ : ∃ y_ : List Int, y_ = (l0.drop (x5_1 : Int).toNat) := ⟨_, rfl⟩
        replace H : (if y229.length + y232.length < 17592186044416 then (some (y229 ++ y232)) else (none)) = some r := by first | (rw [hy232]; with_reducible exact H) | (have H2_ := (Option.bind_some _ _).symm.trans H; rw [hy232]; with_reducible exact H2_) | (have H2_ := (Option.bind_some _ _).symm.trans H; with_reducible exact H2_) | with_reducible exact H | (rw [hy232]; exact H) | exact H
        have Ny232 := Aside0.mk hy232
        clear hy232
        by_cases c28 : y229.length + y232.length < 17592186044416
        ·rw [if_pos c28] at H
         have LMc28 := Aside0.mk c28
         clear c28
         obtain ⟨y236, hy236⟩ : ∃ y_ : List Int, y_ = (y229 ++ y232) := ⟨_, rfl⟩
         replace H : (some y236) = some r := by first | (rw [hy236]; with_reducible exact H) | (have H2_ := (Option.bind_some _ _).symm.trans H; rw [hy236]; with_reducible exact H2_) | (have H2_ := (Option.bind_some _ _).symm.trans H; with_reducible exact H2_) | with_reducible exact H | (rw [hy236]; exact H) | exact H
         have Ny236 := Aside0.mk hy236
         clear hy236
         obtain rfl := Option.some.inj H
         obtain ⟨Ao29, co29, eo29⟩ := Kd.R_slice HO_0.out
         subst eo29
         have q30 : (x5_1 : Int) ≤ ((l0.length : Int) : Int) := lD
         obtain ⟨i030, hi030, _, hsz30, _⟩ := info_parts info3
         have hroom30 : l0.length ≤ co29 := (Kd.R_reads' HO_0.out).2.1
         have hC30 : Kd.C (Kd.int .i64) _ Ao29 l0.length l0 := (Kd.R_reads' HO_0.out).2.2
         have hcut30 := cut_to (P := Try.prog) 23 3 .i64 Try.underlying23 hi030 Ao29 l0.length co29 x5_1 (lD) q30 hroom30
         have hr30 := Kd.C_take (m := (x5_1 : Int).toNat) hC30 (by omega)
         have hy30 : y222.length = (x5_1 : Int).toNat := (by rw [Ny222.out, List.length_take]; omega)
         rw [← Ny222.out] at hr30
         rw [← hy30] at hcut30
         have HR225 := Aside0.mk hr30
         have HC225 := Aside0.mk (show y222.length ≤ co29 from by omega)
         clear hr30 hC30 hroom30 hi030 hsz30
         have KY30 := Aside0.mk hy30
         clear hy30
         have KL30 := Aside0.mk (show (x5_1 : Int).toNat ≤ l0.length from by omega)
         replace q30 := eq_true q30
         go_wp2_with (first | ((with_reducible refine gate_builtin (b := .append) (xs := #[.tmp 34, .tmp 37]) rfl ?_); at_builtin; refine Kd.R_append_rows (Kd.int .i64) (w0 := w0) w0.heap.size rfl (.tmp 34) (.tmp 37) 23 3 (.int .i64 0) 8 rfl Try.underlying23 info3 rfl (by decide) (by omega) (.slice none 0 0) ([] : List Int) y222 _ _ _ (fun k_ => (P0_ k_ ∨ w.heap.size ≤ k_) ∧ some k_ ≠ (.slice Ao29 l0.length co29 : Value).ownBlock) (fun _ => False) rfl rfl ?aO ?aR (fun _ _ h => h) (fun _ h => h.elim) ?aF ?aB ?aS ?aL ?_; (case aR => repeat (first | exact (by repeat (first | (with_reducible exact HR225.out) | (with_reducible refine Kd.C_alloc ?_ _) | (with_reducible refine Kd.C_drewN ?_ _) | (with_reducible refine Kd.C_drew ?_) | exact HR225.out)) | (with_reducible refine Kd.C_alloc ?_ _) | (with_reducible refine Kd.C_drewN ?_ _) | (with_reducible refine Kd.C_drew ?_))); (case aB => exact lB); (case aF => exact (fun k_ hk => ⟨(.inr (Nat.le_trans (by first | exact HK.out.1 | exact (show Kept w _ (fun k_ => P0_ k_) from by repeat (first | (with_reducible first | exact HK.out | apply Kept.alloc | apply Kept.drewN | apply Kept.drew) | exact HK.out)).1) hk)), Kd.fresh' (Kd.R_lt (lR HO_0.out)) k_ hk⟩)); (case aO => exact ((Kd.R_nil _ _ _ _ (fun k_ => (P0_ k_ ∨ w.heap.size ≤ k_) ∧ some k_ ≠ (.slice Ao29 l0.length co29 : Value).ownBlock)))); (case aS => exact (below_size lB)); (case aL => have := LMc24.out; omega); intro v227 w31 ho hb hg hat; rw [← Ny226.out] at ho; have n0_ := Aside0.mk (Kd.R_after (Kd.R_apart_nil (lR HO_0.out)) hg hat); have n1_ := Aside0.mk (hb); have n2_ := Aside0.mk (Kept.of_grown (S := (fun k_ => P0_ k_)) hg (by repeat (first | (with_reducible first | exact HK.out | apply Kept.alloc | apply Kept.drewN | apply Kept.drew) | exact HK.out)) (fun k_ e_ => by simp [Value.ownBlock] at e_)); have n3_ := Aside0.mk ((show Kd.C (Kd.int .i64) w31 Ao29 y222.length y222 from by rw [Ny222.out]; exact Kd.C_take (m := (x5_1 : Int).toNat) ((Kd.R_reads' (Kd.R_after (Kd.R_apart_nil (lR HO_0.out)) hg hat)).2.2) KL30.out)); have n4_ := Aside0.mk (ho); clear HO_0; clear HB; clear HK; clear HR225; have HO_0 := n0_; have HB := n1_; have HK := n2_; have HR225 := n3_; have HO228 := n4_; clear n0_ n1_ n2_ n3_ n4_; clear ho hb hg hat) | ((with_reducible refine gate_builtin (b := .append) (xs := #[.tmp 39, .tmp 41]) rfl ?_); at_builtin; refine Kd.R_append (Kd.int .i64) (w0 := w0) w0.heap.size rfl (.tmp 39) (.tmp 41) 23 3 (.int .i64 0) 8 rfl Try.underlying23 info3 rfl (by decide) (by omega) v227 y226 a1 [.int .i64 a1] (fun k_ => (P0_ k_ ∨ w.heap.size ≤ k_) ∧ some k_ ≠ (.slice Ao29 l0.length co29 : Value).ownBlock) (fun _ => False) rfl rfl ?aP (fun _ hk => hk.elim) ?aF ?aO ?aB ?aS ?aL ?_; (case aP => exact rfl); (case aB => exact lB); (case aF => exact (fun k_ hk => ⟨(.inr (Nat.le_trans (by first | exact HK.out.1 | exact (show Kept w _ (fun k_ => P0_ k_) from by repeat (first | (with_reducible first | exact HK.out | apply Kept.alloc | apply Kept.drewN | apply Kept.drew) | exact HK.out)).1) hk)), Kd.fresh' (Kd.R_lt (lR HO_0.out)) k_ hk⟩)); (case aO => exact (lR HO228.out)); (case aS => exact (below_size lB)); (case aL => have := LMc25.out; omega); intro v230 w32 ho hb hg hat; rw [← Ny229.out] at ho; have n0_ := Aside0.mk (Kd.R_after (ok := (fun k_ => (P0_ k_ ∨ w.heap.size ≤ k_))) (lR HO_0.out) hg hat); have n1_ := Aside0.mk (hb); have n2_ := Aside0.mk (Kept.of_grown (S := (fun k_ => P0_ k_)) hg (by repeat (first | (with_reducible first | exact HK.out | apply Kept.alloc | apply Kept.drewN | apply Kept.drew) | exact HK.out)) (fun k_ e_ => (HO228.out.1 k_ e_).1)); have n3_ := Aside0.mk ((show Kd.C (Kd.int .i64) w32 Ao29 y222.length y222 from by rw [Ny222.out]; exact Kd.C_take (m := (x5_1 : Int).toNat) ((Kd.R_reads' (Kd.R_after (ok := (fun k_ => (P0_ k_ ∨ w.heap.size ≤ k_))) (lR HO_0.out) hg hat)).2.2) KL30.out)); have n4_ := Aside0.mk (ho); clear HO_0; clear HB; clear HK; clear HR225; clear HO228; have HO_0 := n0_; have HB := n1_; have HK := n2_; have HR225 := n3_; have HO231 := n4_; clear n0_ n1_ n2_ n3_ n4_; clear ho hb hg hat; have q33 : (x5_1 : Int) ≤ ((l0.length : Int) : Int) := lD; obtain ⟨i033, hi033, _, hsz33, _⟩ := info_parts info3; have hroom33 : l0.length ≤ co29 := (Kd.R_reads' HO_0.out).2.1; have hC33 : Kd.C (Kd.int .i64) _ Ao29 l0.length l0 := (Kd.R_reads' HO_0.out).2.2; have q033 : (0 : Int) ≤ (x5_1 : Int) := lD; have hcut33 := cut_from (P := Try.prog) 23 3 .i64 Try.underlying23 hi033 1 hsz33 Ao29 l0.length co29 x5_1 q033 q33; have hr33 := Kd.C_drop (m := (x5_1 : Int).toNat) (c := co29) hC33 (by omega) hroom33; obtain ⟨A33, hA33⟩ : ∃ A1, A1 = (if co29 = (x5_1 : Int).toNat then Ao29 else (Ao29 : Option Addr).map (·.add ((x5_1 : Int).toNat * 1))) := ⟨_, rfl⟩; obtain ⟨c33, hc33⟩ : ∃ c1, c1 = co29 - (x5_1 : Int).toNat := ⟨_, rfl⟩; have hy33 : y232.length = l0.length - (x5_1 : Int).toNat := (by rw [Ny232.out, List.length_drop] <;> omega); rw [show (l0).drop (x5_1 : Int).toNat = y232 from Ny232.out.symm] at hr33; replace hr33 : Kd.C (Kd.int .i64) _ A33 y232.length y232 := (by rw [hA33]; exact hr33); rw [← hy33, ← hA33, ← hc33] at hcut33; have HR235 := Aside0.mk hr33; have HC235 := Aside0.mk (show y232.length ≤ c33 from by rw [hy33, hc33]; exact Nat.sub_le_sub_right hroom33 _); clear hr33 hC33 hroom33 hi033 hsz33 hc33; have KY33 := Aside0.mk hy33; have KA33 := Aside0.mk hA33; clear hy33 hA33; have KL33 := Aside0.mk (show (x5_1 : Int).toNat ≤ l0.length from by omega); replace q33 := eq_true q33) | ((with_reducible refine gate_builtin (b := .append) (xs := #[.tmp 43, .tmp 46]) rfl ?_); at_builtin; refine Kd.R_append_rows (Kd.int .i64) (w0 := w0) w0.heap.size rfl (.tmp 43) (.tmp 46) 23 3 (.int .i64 0) 8 rfl Try.underlying23 info3 rfl (by decide) (by omega) v230 y229 y232 _ _ _ (fun k_ => (P0_ k_ ∨ w.heap.size ≤ k_) ∧ some k_ ≠ (.slice Ao29 l0.length co29 : Value).ownBlock) (fun _ => False) rfl rfl ?aO ?aR (fun _ _ h => h) (fun _ h => h.elim) ?aF ?aB ?aS ?aL ?_; (case aR => repeat (first | exact (by repeat (first | (with_reducible exact HR235.out) | (with_reducible refine Kd.C_alloc ?_ _) | (with_reducible refine Kd.C_drewN ?_ _) | (with_reducible refine Kd.C_drew ?_) | exact HR235.out)) | (with_reducible refine Kd.C_alloc ?_ _) | (with_reducible refine Kd.C_drewN ?_ _) | (with_reducible refine Kd.C_drew ?_))); (case aB => exact lB); (case aF => exact (fun k_ hk => ⟨(.inr (Nat.le_trans (by first | exact HK.out.1 | exact (show Kept w _ (fun k_ => P0_ k_) from by repeat (first | (with_reducible first | exact HK.out | apply Kept.alloc | apply Kept.drewN | apply Kept.drew) | exact HK.out)).1) hk)), Kd.fresh' (Kd.R_lt (lR HO_0.out)) k_ hk⟩)); (case aO => exact (lR HO231.out)); (case aS => exact (below_size lB)); (case aL => have := LMc28.out; omega); intro v237 w34 ho hb hg hat; rw [← Ny236.out] at ho; have n0_ := Aside0.mk (Kd.R_after (ok := (fun k_ => (P0_ k_ ∨ w.heap.size ≤ k_))) (lR HO_0.out) hg hat); have n1_ := Aside0.mk (hb); have n2_ := Aside0.mk (Kept.of_grown (S := (fun k_ => P0_ k_)) hg (by repeat (first | (with_reducible first | exact HK.out | apply Kept.alloc | apply Kept.drewN | apply Kept.drew) | exact HK.out)) (fun k_ e_ => (HO231.out.1 k_ e_).1)); have n3_ := Aside0.mk ((show Kd.C (Kd.int .i64) w34 Ao29 y222.length y222 from by rw [Ny222.out]; exact Kd.C_take (m := (x5_1 : Int).toNat) ((Kd.R_reads' (Kd.R_after (ok := (fun k_ => (P0_ k_ ∨ w.heap.size ≤ k_))) (lR HO_0.out) hg hat)).2.2) KL30.out)); have n4_ := Aside0.mk ((show Kd.C (Kd.int .i64) w34 A33 y232.length y232 from by rw [Ny232.out, KA33.out]; exact Kd.C_drop (m := (x5_1 : Int).toNat) (c := co29) ((Kd.R_reads' (Kd.R_after (ok := (fun k_ => (P0_ k_ ∨ w.heap.size ≤ k_))) (lR HO_0.out) hg hat)).2.2) KL33.out ((Kd.R_reads' (Kd.R_after (ok := (fun k_ => (P0_ k_ ∨ w.heap.size ≤ k_))) (lR HO_0.out) hg hat)).2.1))); have n5_ := Aside0.mk (ho); clear HO_0; clear HB; clear HK; clear HR225; clear HR235; clear HO231; have HO_0 := n0_; have HB := n1_; have HK := n2_; have HR225 := n3_; have HR235 := n4_; have HO238 := n5_; clear n0_ n1_ n2_ n3_ n4_ n5_; clear ho hb hg hat))
         go_ret
         exact ⟨_, lE, by (with_reducible repeat (first | apply Kd.R_alloc | apply Kd.R_drewN | apply Kd.R_drew)); exact Kd.R_mono HO238.out (fun _ hk => hk.1), lB, by repeat (first | (with_reducible first | exact HK.out | apply Kept.alloc | apply Kept.drewN | apply Kept.drew) | exact HK.out)⟩
        ·rw [if_neg c28] at H
         exact absurd H (by simp)
       ·rw [if_neg c25] at H
        exact absurd H (by simp)
      ·rw [if_neg c24] at H
       exact absurd H (by simp)
     ·rw [if_neg c23] at H
      exact absurd H (by simp)
    ·rw [if_neg c22] at H
     exact absurd H (by simp)

/-! ### spec_l14Sorted: function 47 -/
def spec_l14Sorted.l0 : Nat → List Int → List Int → Int → Int → Option (List Int)
 | 0, _, _, _, _ => none
 | k + 1, x3, x6, x7, x8 => if x8 < x7 then (if 0 ≤ x8 then (if x8 < (x6.length : Int) then ((spec_l1Put.f k x3 (rd x6 x8)).bind fun t240 => (spec_l14Sorted.l0 k t240 x6 x7 (wrap64 (x8 + 1)))) else (none)) else (none)) else (some x3)
def spec_l14Sorted.f (k : Nat) (l0 : List Int) : Option (List Int) := spec_l14Sorted.l0 k ([] : List Int) l0 (l0.length : Int) 0
theorem spec_l14Sorted.mono_l : ∀ k, (∀ y0 y1 y2 y3, LeO (spec_l14Sorted.l0 k y0 y1 y2 y3) (spec_l14Sorted.l0 (k + 1) y0 y1 y2 y3))
 | 0 => fun _ _ _ _ r h => by simp [spec_l14Sorted.l0] at h
 | k + 1 => by
  have ih0 := spec_l14Sorted.mono_l k
  ·intro y0 y1 y2 y3
   unfold spec_l14Sorted.l0
   repeat' first
   | with_reducible apply ih0
   | with_reducible apply spec_l1Put.mono
   | (with_reducible exact LeO.refl _)
   | (with_reducible exact LeO.none _)
   | (with_reducible refine LeO.ite ?_ ?_)
   | (with_reducible refine LeO.bind ?_ (fun _ => ?_))
   | apply ih0
   | apply spec_l1Put.mono
   | exact LeO.none _
   | refine LeO.ite ?_ ?_
   | refine LeO.bind ?_ (fun _ => ?_)
theorem spec_l14Sorted.mono : ∀ a0 k, LeO (spec_l14Sorted.f k a0) (spec_l14Sorted.f (k + 1) a0) := by
 intro a0 k
 have ih0 := spec_l14Sorted.mono_l k
 unfold spec_l14Sorted.f
 repeat' first
   | with_reducible apply ih0
   | with_reducible apply spec_l1Put.mono
   | (with_reducible exact LeO.refl _)
   | (with_reducible exact LeO.none _)
   | (with_reducible refine LeO.ite ?_ ?_)
   | (with_reducible refine LeO.bind ?_ (fun _ => ?_))
   | apply ih0
   | apply spec_l1Put.mono
   | exact LeO.none _
   | refine LeO.ite ?_ ?_
   | refine LeO.bind ?_ (fun _ => ?_)
set_option maxHeartbeats 8000000 in
set_option maxRecDepth 100000 in
theorem spec_l14Sorted.calls (k : Nat) (A0 : Option Addr) (c0 : Nat) (l0 : List Int) (r : List Int) (w : World) (hr0 : Kd.C (Kd.int .i64) w A0 l0.length l0) (hc0 : l0.length ≤ c0) (h : spec_l14Sorted.f k l0 = some r) :
  Calls Try.prog 47 #[.slice A0 l0.length c0] w fun e w' => ∃ v0_ : Value, e = .returned (v0_) ∧ Kd.R (Kd.int .i64) 3 w' w.heap.size (fun _ => True) v0_ r ∧ Below w.heap.size w w' := by
 have HR0 := Aside0.mk hr0
 have HC0 := Aside0.mk hc0
 clear hr0 hc0
 have HB := Aside0.mk (Below.refl w.heap.size w)
 have H : (spec_l14Sorted.l0 k ([] : List Int) l0 (l0.length : Int) 0) = some r := h
 clear h
 have H' := Aside0.mk H
 clear H
 go_enter Try.func47, Try.ntmps47
 go_wp2
 go_loopg [3, 8] k (fun kq v3 v8 w' => ∃ (x3_1 : List Int) (x8_1 : Int), v8 = .int .i64 x8_1 ∧ Aside0 (spec_l14Sorted.l0 kq x3_1 l0 (l0.length : Int) x8_1 = some r) ∧ Aside0 (kq ≤ k) ∧ Aside0 (Kd.R (Kd.int .i64) 3 w' w.heap.size (fun _ => True) v3 x3_1) ∧ Aside0 (Below w.heap.size w w'))
 case atStart => exact ⟨(([] : List Int)), (0), lF, H', ⟨Nat.le_refl _⟩, ⟨by first | exact Kd.R_nil _ _ _ _ _ | exact Kd.N_nil _ _ _ _ _ | exact Kd.V_nil _ _ _ _ _ | exact Kd.Q_nil _ _ _ _ _ | exact Kd.S_nil _ _ _ _ _⟩, ⟨lB⟩⟩
 case round =>
  clear H'
  obtain ⟨x3_1, x8_1, rfl, HA, HK1, HO_3, HB⟩ := hrel
  cases gk with
  | zero => exact absurd HA.out (by simp [spec_l14Sorted.l0])
  | succ k1 =>
   have H := HA.out
   clear HA
   simp only [spec_l14Sorted.l0] at H
   by_cases c2 : x8_1 < (l0.length : Int)
   ·rw [if_pos c2] at H
    have c2b0 : decide (x8_1 < (l0.length : Int)) = true := decide_eq_true c2
    clear c2
    by_cases c3 : 0 ≤ x8_1
    ·rw [if_pos c3] at H
     have c3b0 : decide (0 ≤ x8_1) = true := decide_eq_true c3
     clear c3
     by_cases c4 : x8_1 < (l0.length : Int)
     ·rw [if_pos c4] at H
      have c4b0 : decide (x8_1 < (l0.length : Int)) = true := decide_eq_true c4
      clear c4
      replace H := lO H
      obtain ⟨t240, A5, H⟩ := H
      have H' := Aside0.mk H
      clear H
      have p239 : 0 ≤ (x8_1 : Int) := lD
      have q239 : x8_1 < (l0.length : Int) := lD
      obtain ⟨ad239, e239, hx239_0⟩ := Kd.at_int HR0.out x8_1 p239 q239
      cases e239
      replace hx239_0 := pw_cell_below HB.out hx239_0
      replace p239 := eq_true p239
      replace q239 := eq_true q239
      obtain ⟨Ao6, co6, eo6⟩ := Kd.R_slice HO_3.out
      subst eo6
      go_wp2_with (first | ((with_reducible refine gate_callee (f := 63) rfl ?_); refine gl_ (some 14) (Try.func63) #[.slice Ao6 x3_1.length co6, .int .i64 (rd l0 x8_1)] ?_; (with_reducible refine (spec_l1Put.calls k1 (fun k_ => some k_ = (.slice Ao6 x3_1.length co6 : Value).ownBlock) (.slice Ao6 x3_1.length co6) x3_1 (rd l0 x8_1) t240 w _ ?side1 ?side2 A5.out).mono ?_); (case side1 => repeat (first | (with_reducible first | exact HB.out | apply below_alloc | apply pw_below_drewN | apply below_drew1) | exact HB.out)); (case side2 => exact Kd.R_tight rfl HO_3.out); rintro e w7 ⟨v241, rfl, ho0, hb, hkp⟩; refine ⟨_, rfl, ?_⟩; have n0_ := Aside0.mk (Kd.R_mono (ok' := fun k_ => True) ho0 (fun k_ hk_ => trivial)); have n1_ := Aside0.mk (hb); clear HB; clear HO_3; have HO242 := n0_; have HB := n1_; clear n0_ n1_; (try clear hb); (try clear hkp); (try clear ho0)))
      go_roundg k1
      case measure => have := HK1.out; omega
      case rel => exact ⟨(t240), (wrap64 (x8_1 + 1)), lF, H', ⟨by have := HK1.out; omega⟩, ⟨lR HO242.out⟩, ⟨lB⟩⟩
     ·rw [if_neg c4] at H
      exact absurd H (by simp)
    ·rw [if_neg c3] at H
     exact absurd H (by simp)
   ·rw [if_neg c2] at H
    have c2b0 : decide (x8_1 < (l0.length : Int)) = false := decide_eq_false c2
    clear c2
    obtain rfl := Option.some.inj H
    first | (go_wp2; go_ret; exact ⟨_, lE, lR HO_3.out, lB⟩) | (exfalso; simp only [decide_eq_false_iff_not, decide_eq_true_eq] at *; omega)

/-! ### spec_l14Keeps: function 49 -/
def spec_l14Keeps.l0 : Nat → List Int → List Int → Int → Int → List (S45) → List Int → List Int → Int → Option (List Int)
 | 0, _, _, _, _, _, _, _, _ => none
 | k + 1, x3, x11, x12, x13, x244000, x244001, x244002, x244003 => if x13 < x12 then (if 0 ≤ x13 then (if x13 < (x11.length : Int) then ((spec_l14At.f k x244000 x244001 x244002 x244003 (rd x11 x13)).bind fun t251 => (if 0 ≤ t251 then (if t251 < (x244000.length : Int) then (if x3.length + ((rd_T45 x244000 t251).f2).length < 17592186044416 then (spec_l14Keeps.l0 k (x3 ++ ((rd_T45 x244000 t251).f2)) x11 x12 (wrap64 (x13 + 1)) x244000 x244001 x244002 x244003) else (none)) else (none)) else (none))) else (none)) else (none)) else ((spec_l14Reach.f k x244000 x244001 x244002 x244003 x3 true).bind fun t256 => ((spec_l14Sorted.f k t256).bind fun t259 => (some t259)))
def spec_l14Keeps.f (k : Nat) (l0_0 : List (S45)) (l0_1 : List Int) (l0_2 : List Int) (a0_3 : Int) : Option (List Int) := (some (([] : List Int) : List Int)).bind fun y244 => (if y244.length + l0_1.length < 17592186044416 then (spec_l14Keeps.l0 k (y244 ++ l0_1) l0_2 (l0_2.length : Int) 0 l0_0 l0_1 l0_2 a0_3) else (none))
theorem spec_l14Keeps.mono_l : ∀ k, (∀ y0 y1 y2 y3 y4 y5 y6 y7, LeO (spec_l14Keeps.l0 k y0 y1 y2 y3 y4 y5 y6 y7) (spec_l14Keeps.l0 (k + 1) y0 y1 y2 y3 y4 y5 y6 y7))
 | 0 => fun _ _ _ _ _ _ _ _ r h => by simp [spec_l14Keeps.l0] at h
 | k + 1 => by
  have ih0 := spec_l14Keeps.mono_l k
  ·intro y0 y1 y2 y3 y4 y5 y6 y7
   unfold spec_l14Keeps.l0
   repeat' first
   | with_reducible apply ih0
   | with_reducible apply spec_l14At.mono
   | with_reducible apply spec_l14Reach.mono
   | with_reducible apply spec_l14Sorted.mono
   | (with_reducible exact LeO.refl _)
   | (with_reducible exact LeO.none _)
   | (with_reducible refine LeO.ite ?_ ?_)
   | (with_reducible refine LeO.bind ?_ (fun _ => ?_))
   | apply ih0
   | apply spec_l14At.mono
   | apply spec_l14Reach.mono
   | apply spec_l14Sorted.mono
   | exact LeO.none _
   | refine LeO.ite ?_ ?_
   | refine LeO.bind ?_ (fun _ => ?_)
theorem spec_l14Keeps.mono : ∀ a0 a1 a2 a3 k, LeO (spec_l14Keeps.f k a0 a1 a2 a3) (spec_l14Keeps.f (k + 1) a0 a1 a2 a3) := by
 intro a0 a1 a2 a3 k
 have ih0 := spec_l14Keeps.mono_l k
 unfold spec_l14Keeps.f
 repeat' first
   | with_reducible apply ih0
   | with_reducible apply spec_l14At.mono
   | with_reducible apply spec_l14Reach.mono
   | with_reducible apply spec_l14Sorted.mono
   | (with_reducible exact LeO.refl _)
   | (with_reducible exact LeO.none _)
   | (with_reducible refine LeO.ite ?_ ?_)
   | (with_reducible refine LeO.bind ?_ (fun _ => ?_))
   | apply ih0
   | apply spec_l14At.mono
   | apply spec_l14Reach.mono
   | apply spec_l14Sorted.mono
   | exact LeO.none _
   | refine LeO.ite ?_ ?_
   | refine LeO.bind ?_ (fun _ => ?_)
def spec_l14Keeps.T5 : Bool × List (List Nat × List Nat) := (true, [([], []), ([], []), ([1], [1]), ([], []), ([], []), ([3, 4], [3, 4]), ([2, 5], [2, 5]), ([6], [6]), ([7], [7]), ([0, 8, 5], [0, 8]), ([9, 9, 0, 1, 2, 3, 4, 5, 6, 7, 8, 9], [0, 9])])
def spec_l14Keeps.B5 : List Nat := [0, 0, 2, 0, 0, 24, 62, 126, 254, 511, 1023]
theorem spec_l14Keeps.tab5 : rtab .any (opsOf Try.f49 5) = spec_l14Keeps.T5 := by kernel_rfl
theorem spec_l14Keeps.bits5 : waitsOk spec_l14Keeps.T5.2 spec_l14Keeps.B5 = true := by kernel_rfl
set_option maxHeartbeats 8000000 in
set_option maxRecDepth 100000 in
theorem spec_l14Keeps.calls (k : Nat) (A0_0 : Option Addr) (c0_0 : Nat) (l0_0 : List (S45)) (A0_1 : Option Addr) (c0_1 : Nat) (l0_1 : List Int) (A0_2 : Option Addr) (c0_2 : Nat) (l0_2 : List Int) (a0_3 : Int) (r : List Int) (w : World) (hr0_0 : Kd.C k45 w A0_0 l0_0.length l0_0) (hc0_0 : l0_0.length ≤ c0_0) (hr0_1 : Kd.C (Kd.int .i64) w A0_1 l0_1.length l0_1) (hc0_1 : l0_1.length ≤ c0_1) (hr0_2 : Kd.C (Kd.int .i64) w A0_2 l0_2.length l0_2) (hc0_2 : l0_2.length ≤ c0_2) (h : spec_l14Keeps.f k l0_0 l0_1 l0_2 a0_3 = some r) :
  Calls Try.prog 49 #[.agg #[.slice A0_0 l0_0.length c0_0, .slice A0_1 l0_1.length c0_1, .slice A0_2 l0_2.length c0_2, .int .i64 a0_3]] w fun e w' => ∃ v0_ : Value, e = .returned (v0_) ∧ Kd.R (Kd.int .i64) 3 w' w.heap.size (fun _ => True) v0_ r ∧ Below w.heap.size w w' := by
 have hu25 := Try.underlying25
 have HR0_0 := Aside0.mk hr0_0
 have HC0_0 := Aside0.mk hc0_0
 clear hr0_0 hc0_0
 have HR0_1 := Aside0.mk hr0_1
 have HC0_1 := Aside0.mk hc0_1
 clear hr0_1 hc0_1
 have HR0_2 := Aside0.mk hr0_2
 have HC0_2 := Aside0.mk hc0_2
 clear hr0_2 hc0_2
 have HB := Aside0.mk (Below.refl w.heap.size w)
 have H : ((some (([] : List Int) : List Int)).bind fun y244 => (if y244.length + l0_1.length < 17592186044416 then (spec_l14Keeps.l0 k (y244 ++ l0_1) l0_2 (l0_2.length : Int) 0 l0_0 l0_1 l0_2 a0_3) else (none))) = some r := h
 clear h
 obtain ⟨y244, hy244⟩ : ∃ y_ : List Int, y_ = (([] : List Int)) := ⟨_, rfl⟩
 replace H : (if y244.length + l0_1.length < 17592186044416 then (spec_l14Keeps.l0 k (y244 ++ l0_1) l0_2 (l0_2.length : Int) 0 l0_0 l0_1 l0_2 a0_3) else (none)) = some r := by first | (rw [hy244]; with_reducible exact H) | (have H2_ := (Option.bind_some _ _).symm.trans H; rw [hy244]; with_reducible exact H2_) | (have H2_ := (Option.bind_some _ _).symm.trans H; with_reducible exact H2_) | with_reducible exact H | (rw [hy244]; exact H) | exact H
 have Ny244 := Aside0.mk hy244
 clear hy244
 by_cases c2 : y244.length + l0_1.length < 17592186044416
 ·rw [if_pos c2] at H
  have LMc2 := Aside0.mk c2
  clear c2
  obtain ⟨y247, hy247⟩ : ∃ y_ : List Int, y_ = (y244 ++ l0_1) := ⟨_, rfl⟩
  replace H : (spec_l14Keeps.l0 k y247 l0_2 (l0_2.length : Int) 0 l0_0 l0_1 l0_2 a0_3) = some r := by first | (rw [hy247]; with_reducible exact H) | (have H2_ := (Option.bind_some _ _).symm.trans H; rw [hy247]; with_reducible exact H2_) | (have H2_ := (Option.bind_some _ _).symm.trans H; with_reducible exact H2_) | with_reducible exact H | (rw [hy247]; exact H) | exact H
  have Ny247 := Aside0.mk hy247
  clear hy247
  have H' := Aside0.mk H
  clear H
  go_enter Try.func49, Try.ntmps49
  go_wp2_with (first | ((with_reducible refine gate_dst (N := 1) rfl ?_); refine bxe 1 #[.slice A0_0 l0_0.length c0_0, .slice A0_1 l0_1.length c0_1, .slice A0_2 l0_2.length c0_2, .int .i64 a0_3] 25 ?_; intro gb243 hg w3 hbox hb; have n0_ := Aside0.mk (below_step lB hb); have n1_ := Aside0.mk (hbox); have n2_ := lG w hg; have n3_ := lG w hg; clear HB; have HB := n0_; have BK243 := n1_; have GW243 := n2_; have GE243 := n3_; clear n0_ n1_ n2_ n3_; clear hb hbox hg) | ((with_reducible refine gate_dst (N := 6) rfl ?_); refine Kd.R_lit (Kd.int .i64) _ 3 ?hg (N := 6) ?hd (xs := ([] : List Int)) (inner := []) (ok := fun _ => True) (okp := fun _ => True) ?hr ?hp (fun _ hk => hk) trivial (Below.refl _ _) (Nat.le_refl _) (by simp) ?_; (case hd => rfl); (case hg => rfl); (case hr => first | (go_simp; done) | (go_simp; rfl)); (case hp => exact (Reps.none _ _)); intro v245 w4 ho5 hb hg_ hnew_; clear hg_ hnew_; (first | rw [← Ny244.out] at ho5 | (simp only [Int.reduceToNat] at ho5; rw [← Ny244.out] at ho5)); have n0_ := Aside0.mk (Kd.R_lower ho5 (below_size lB)); have n1_ := Aside0.mk (blk_below (lK BK243.out) hb); have n2_ := Aside0.mk (below_step lB hb); clear BK243; clear HB; have HO246 := n0_; have BK243 := n1_; have HB := n2_; clear n0_ n1_ n2_; clear hb ho5; obtain ⟨hcz6_0, hfz6_0, hcz6_1, hfz6_1, hcz6_2, hfz6_2, hcz6_3, hfz6_3⟩ := bk4 BK243.out) | ((with_reducible refine gate_builtin (b := .append) (xs := #[.tmp 6, .tmp 8]) rfl ?_); at_builtin; refine Kd.R_append_rows (Kd.int .i64) (w0 := w) w.heap.size rfl (.tmp 6) (.tmp 8) 23 3 (.int .i64 0) 8 rfl Try.underlying23 info3 rfl (by decide) (by omega) v245 y244 l0_1 _ _ _ (fun _ => True) (fun _ => False) rfl rfl ?aO ?aR (fun _ _ h => h) (fun _ h => h.elim) ?aF ?aB ?aS ?aL ?_; (case aR => exact lC (Kd.C_below HR0_1.out HB.out)); (case aB => exact lB); (case aF => exact (fun _ _ => trivial)); (case aO => exact (lR HO246.out)); (case aS => exact (below_size lB)); (case aL => have := LMc2.out; omega); intro v248 w7 ho hb hg hat; rw [← Ny247.out] at ho; have n0_ := Aside0.mk (blk_grown (lK BK243.out) hg (Kd.R_ne HO246.out BK243.out (by decide))); have n1_ := Aside0.mk (hb); have n2_ := Aside0.mk (ho); clear BK243; clear HB; clear HO246; have BK243 := n0_; have HB := n1_; have HO249 := n2_; clear n0_ n1_ n2_; clear ho hb hg hat; obtain ⟨hcz8_0, hfz8_0, hcz8_1, hfz8_1, hcz8_2, hfz8_2, hcz8_3, hfz8_3⟩ := bk4 BK243.out))
  go_loopg [3, 13] k (fun kq v3 v13 w' => ∃ (x3_1 : List Int) (x13_1 : Int), v13 = .int .i64 x13_1 ∧ Aside0 (spec_l14Keeps.l0 kq x3_1 l0_2 (l0_2.length : Int) x13_1 l0_0 l0_1 l0_2 a0_3 = some r) ∧ Aside0 (kq ≤ k) ∧ Aside0 (Kd.R (Kd.int .i64) 3 w' w.heap.size (fun _ => True) v3 x3_1) ∧ Aside0 (w'.heap[gb243]? = some (.cells #[(.slice A0_0 l0_0.length c0_0), (.slice A0_1 l0_1.length c0_1), (.slice A0_2 l0_2.length c0_2), .int .i64 a0_3] 25 (0, 0))) ∧ Aside0 (Below w.heap.size w w'))
  case atStart => exact ⟨(y247), (0), lF, H', ⟨Nat.le_refl _⟩, ⟨lR HO249.out⟩, ⟨lK BK243.out⟩, ⟨lB⟩⟩
  case round =>
   clear H'
   try clear c2
   try clear p2
   try clear c4
   try clear hcz6_0 hcz6_1 hcz6_2 hcz6_3
   try clear hcz8_0 hcz8_1 hcz8_2 hcz8_3
   try clear hfz6_0 hfz6_1 hfz6_2 hfz6_3
   try clear hfz8_0 hfz8_1 hfz8_2 hfz8_3
   obtain ⟨x3_1, x13_1, rfl, HA, HK1, HO_3, BK243, HB⟩ := hrel
   cases gk with
   | zero => exact absurd HA.out (by simp [spec_l14Keeps.l0])
   | succ k1 =>
    have H := HA.out
    clear HA
    simp only [spec_l14Keeps.l0] at H
    by_cases c9 : x13_1 < (l0_2.length : Int)
    ·rw [if_pos c9] at H
     have c9b0 : decide (x13_1 < (l0_2.length : Int)) = true := decide_eq_true c9
     clear c9
     by_cases c10 : 0 ≤ x13_1
     ·rw [if_pos c10] at H
      have c10b0 : decide (0 ≤ x13_1) = true := decide_eq_true c10
      clear c10
      by_cases c11 : x13_1 < (l0_2.length : Int)
      ·rw [if_pos c11] at H
       have c11b0 : decide (x13_1 < (l0_2.length : Int)) = true := decide_eq_true c11
       clear c11
       replace H := lO H
       obtain ⟨t251, A12, H⟩ := H
       by_cases c13 : 0 ≤ t251
       ·rw [if_pos c13] at H
        have c13b0 : decide (0 ≤ t251) = true := decide_eq_true c13
        clear c13
        by_cases c14 : t251 < (l0_0.length : Int)
        ·rw [if_pos c14] at H
         have c14b0 : decide (t251 < (l0_0.length : Int)) = true := decide_eq_true c14
         clear c14
         by_cases c15 : x3_1.length + ((rd_T45 l0_0 t251).f2).length < 17592186044416
         ·rw [if_pos c15] at H
          have LMc15 := Aside0.mk c15
          clear c15
          obtain ⟨y253, hy253⟩ : ∃ y_ : List Int, y_ = (x3_1 ++ ((rd_T45 l0_0 t251).f2)) := ⟨_, rfl⟩
          replace H : (spec_l14Keeps.l0 k1 y253 l0_2 (l0_2.length : Int) (wrap64 (x13_1 + 1)) l0_0 l0_1 l0_2 a0_3) = some r := by first | (rw [hy253]; with_reducible exact H) | (have H2_ := (Option.bind_some _ _).symm.trans H; rw [hy253]; with_reducible exact H2_) | (have H2_ := (Option.bind_some _ _).symm.trans H; with_reducible exact H2_) | with_reducible exact H | (rw [hy253]; exact H) | exact H
          have Ny253 := Aside0.mk hy253
          clear hy253
          have H' := Aside0.mk H
          clear H
          have p250 : 0 ≤ (x13_1 : Int) := lD
          have q250 : x13_1 < (l0_2.length : Int) := lD
          obtain ⟨ad250, e250, hx250_0⟩ := Kd.at_int HR0_2.out x13_1 p250 q250
          cases e250
          replace hx250_0 := pw_cell_below HB.out hx250_0
          replace p250 := eq_true p250
          replace q250 := eq_true q250
          try go_wp2
          have n0_ := Aside0.mk (Kd.R_drew HO_3.out)
          have n1_ := Aside0.mk (blk_drew BK243.out)
          have n2_ := Aside0.mk (below_drew1 HB.out)
          clear HO_3
          clear BK243
          clear HB
          have HO_3 := n0_
          have BK243 := n1_
          have HB := n2_
          clear n0_ n1_ n2_
          have p252 : 0 ≤ (t251 : Int) := lD
          have q252 : t251 < (l0_0.length : Int) := lD
          obtain ⟨ad252, A252_2, c252_2, e252, hx252_0, hx252_1, hx252_2, hl252_2, hi252_2⟩ := at_T45 HR0_0.out t251 p252 q252
          have hw252_2 := hx252_2
          have hw252_1 := hx252_1
          have hw252_0 := hx252_0
          cases e252
          replace hx252_0 := pw_cell_below HB.out hx252_0
          replace hx252_1 := pw_cell_below HB.out hx252_1
          replace hx252_2 := pw_cell_below HB.out hx252_2
          have HR252_2 := Aside0.mk hi252_2
          have HC252_2 := Aside0.mk hl252_2
          clear hi252_2 hl252_2
          replace p252 := eq_true p252
          replace q252 := eq_true q252
          refine start_ (n := 11) (S := fun w' => w'.cell? ⟨gb243, 0, none⟩ = some (.slice (some ad252) l0_0.length c0_0) ∧ w'.cell? ⟨gb243, 1, none⟩ = some (.slice A0_1 l0_1.length c0_1) ∧ w'.cell? ⟨gb243, 2, none⟩ = some (.slice (some ad250) l0_2.length c0_2) ∧ w'.cell? ⟨gb243, 3, none⟩ = some (.int .i64 a0_3) ∧ w'.cell? (ad252.add ((t251).toNat * 3)) = some (.int .i64 ((rd_T45 l0_0 t251).f0)) ∧ w'.cell? ⟨(ad252.add ((t251).toNat * 3)).block, (ad252.add ((t251).toNat * 3)).off + 1, none⟩ = some (.bool ((rd_T45 l0_0 t251).f1)) ∧ w'.cell? ⟨(ad252.add ((t251).toNat * 3)).block, (ad252.add ((t251).toNat * 3)).off + 2, none⟩ = some (.slice A252_2 ((rd_T45 l0_0 t251).f2).length c252_2)) (ds := []) (bs 11 0) kR rfl kR ⟨bZ BK243.out 0, bZ BK243.out 1, bZ BK243.out 2, bZ BK243.out 3, ((HB.out.cell (World.block_lt_of_cell? w _ hw252_0)).trans hw252_0), ((HB.out.cell (World.block_lt_of_cell? w _ hw252_1)).trans hw252_1), ((HB.out.cell (World.block_lt_of_cell? w _ hw252_2)).trans hw252_2)⟩ (fun hHeld => ?_); refine with_tabW spec_l14Keeps.tab5 spec_l14Keeps.bits5 (fun HT_ HW_ => ?_)
          generalize wr.drew = w16 at HO_3 BK243 HB HR252_2 hx252_0 hx252_1 hx252_2 hHeld ⊢
          refine pur_ 0 17 (bs 11 1) (any_of HT_.out kR) ?_
          refine pur_ 1 18 (bs 11 3) (any_of HT_.out kR) ?_
          refine pur_ 4 21 (bs 11 19) (any_of HT_.out kR) ?_
          refine tak_ 2 19 (bs 11 23) (take_ofW HT_.out HW_.out kR) hHeld ?_
          refine tak_ 3 20 (bs 11 31) (take_ofW HT_.out HW_.out kR) hHeld ?_
          refine one_ (i := 5) (N := some 22) (bs 11 63) rfl rfl (one_of HT_.out (by kernel_rfl)) (by decide) (fun K hK => ?_)
          refine goes_ Try.func39 (by kernel_rfl) rfl #[.agg #[.slice (some ad252) l0_0.length c0_0, .slice A0_1 l0_1.length c0_1, .slice (some ad250) l0_2.length c0_2, .int .i64 a0_3], .int .i64 (rd l0_2 x13_1)] (by rfl) rfl rfl (by (try simp only [List.map_toArray, List.map_cons, List.map_nil]); first | done | rfl | (simp only [List.length_drop, List.length_take]; rfl)) ?_
          with_reducible refine (spec_l14At.calls k1 _ _ l0_0 _ _ l0_1 _ _ l0_2 a0_3 (rd l0_2 x13_1) t251 _ ?side1 ?side2 ?side3 ?side4 ?side5 ?side6 A12.out).mono ?_
          (case side1 => exact lC (Kd.C_below HR0_0.out HB.out))
          (case side2 => exact HC0_0.out)
          (case side3 => exact lC (Kd.C_below HR0_1.out HB.out))
          (case side4 => exact HC0_1.out)
          (case side5 => exact lC (Kd.C_below HR0_2.out HB.out))
          (case side6 => exact HC0_2.out)
          rintro e w17 ⟨rfl, hb⟩
          refine ⟨_, rfl, ?_⟩
          have n0_ := Aside0.mk (Kd.R_below (lR HO_3.out) hb)
          have n1_ := Aside0.mk (blk_below (lK BK243.out) hb)
          have n2_ := Aside0.mk (below_step lB hb)
          clear HO_3
          clear BK243
          clear HB
          have HO_3 := n0_
          have BK243 := n1_
          have HB := n2_
          clear n0_ n1_ n2_
          (try clear hb)
          (try clear hb2)
          (try clear hk)
          (try clear hi)
          refine hK.out _ _ ⟨bZ BK243.out 0, bZ BK243.out 1, bZ BK243.out 2, bZ BK243.out 3, ((HB.out.cell (World.block_lt_of_cell? w _ hw252_0)).trans hw252_0), ((HB.out.cell (World.block_lt_of_cell? w _ hw252_1)).trans hw252_1), ((HB.out.cell (World.block_lt_of_cell? w _ hw252_2)).trans hw252_2)⟩ (fun hHeld => ?_)
          clear hK K
          refine norm_ (a' := ?_) ?_ ?_
          rotate_left
          ·show Act.put _ (some 22) _ = _
           simp only [Act.put, List.setIfInBounds_toArray, List.set_cons_zero, List.set_cons_succ, i64_w, i32_w]
           rfl
          refine pur_ 6 23 (bs 11 127) (any_of HT_.out kR) ?_
          refine pur_ 7 24 (bs 11 255) (any_of HT_.out kR) ?_
          refine tak_ 8 25 (bs 11 511) (take_ofW HT_.out HW_.out kR) hHeld ?_
          refine one_ (i := 9) (N := some 26) (bs 11 1023) rfl rfl (one_of HT_.out (by kernel_rfl)) (by decide) (fun K hK => ?_)
          refine Kd.R_append_rows_step (Kd.int .i64) (w0 := w) w.heap.size (by rfl) (.tmp 17) (.tmp 25) 23 3 (.int .i64 0) 8 rfl Try.underlying23 info3 rfl (by decide) (by omega) u3 x3_1 ((rd_T45 l0_0 t251).f2) _ _ _ (fun _ => True) (fun _ => False) rfl rfl ?aO ?aR (fun _ _ h => h) (fun _ h => h.elim) ?aF ?aB ?aS ?aL ?_
          (case aR => exact lC (Kd.C_below HR252_2.out HB.out))
          (case aB => exact lB)
          (case aF => exact (fun _ _ => trivial))
          (case aO => exact (lR HO_3.out))
          (case aS => exact (below_size lB))
          (case aL => have := LMc15.out; omega)
          intro v254 w18 ho hb hg hat
          rw [← Ny253.out] at ho
          have n0_ := Aside0.mk (blk_grown (lK BK243.out) hg (Kd.R_ne HO_3.out BK243.out (by decide)))
          have n1_ := Aside0.mk (hb)
          have n2_ := Aside0.mk (ho)
          clear BK243
          clear HB
          clear HO_3
          have BK243 := n0_
          have HB := n1_
          have HO255 := n2_
          clear n0_ n1_ n2_
          clear ho hb hg hat
          refine hK.out _ _ ⟨bZ BK243.out 0, bZ BK243.out 1, bZ BK243.out 2, bZ BK243.out 3, ((HB.out.cell (World.block_lt_of_cell? w _ hw252_0)).trans hw252_0), ((HB.out.cell (World.block_lt_of_cell? w _ hw252_1)).trans hw252_1), ((HB.out.cell (World.block_lt_of_cell? w _ hw252_2)).trans hw252_2)⟩ (fun hHeld => ?_)
          clear hK K
          refine norm_ (a' := ?_) ?_ ?_
          rotate_left
          ·show Act.put _ (some 26) _ = _
           simp only [Act.put, List.setIfInBounds_toArray, List.set_cons_zero, List.set_cons_succ, i64_w, i32_w]
           rfl
          refine pur_ 10 3 (bs 11 2047) (any_of HT_.out kR) ?_
          refine done_ (done_of HT_.out (by kernel_rfl)) ?_
          try go_wp2
          go_roundg k1
          case measure => have := HK1.out; omega
          case rel => exact ⟨(y253), (wrap64 (x13_1 + 1)), lF, H', ⟨by have := HK1.out; omega⟩, ⟨lR HO255.out⟩, ⟨lK BK243.out⟩, ⟨lB⟩⟩
         ·rw [if_neg c15] at H
          exact absurd H (by simp)
        ·rw [if_neg c14] at H
         exact absurd H (by simp)
       ·rw [if_neg c13] at H
        exact absurd H (by simp)
      ·rw [if_neg c11] at H
       exact absurd H (by simp)
     ·rw [if_neg c10] at H
      exact absurd H (by simp)
    ·rw [if_neg c9] at H
     have c9b0 : decide (x13_1 < (l0_2.length : Int)) = false := decide_eq_false c9
     clear c9
     replace H := lO H
     obtain ⟨t256, A19, H⟩ := H
     replace H := lO H
     obtain ⟨t259, A20, H⟩ := H
     obtain rfl := Option.some.inj H
     obtain ⟨hcz21_0, hfz21_0, hcz21_1, hfz21_1, hcz21_2, hfz21_2, hcz21_3, hfz21_3⟩ := bk4 BK243.out
     obtain ⟨Ao22, co22, eo22⟩ := Kd.R_slice HO_3.out
     subst eo22
     go_wp2_with (first | ((with_reducible refine gate_callee (f := 43) rfl ?_); refine gl_ (some 30) (Try.func43) #[.agg #[.slice A0_0 l0_0.length c0_0, .slice A0_1 l0_1.length c0_1, .slice A0_2 l0_2.length c0_2, .int .i64 a0_3], .slice Ao22 x3_1.length co22, .bool true] ?_; (with_reducible refine (spec_l14Reach.calls k1 _ _ l0_0 _ _ l0_1 _ _ l0_2 a0_3 _ _ x3_1 true t256 _ ?side1 ?side2 ?side3 ?side4 ?side5 ?side6 ?side7 ?side8 A19.out).mono ?_); (case side1 => exact lC (Kd.C_below HR0_0.out HB.out)); (case side2 => exact HC0_0.out); (case side3 => exact lC (Kd.C_below HR0_1.out HB.out)); (case side4 => exact HC0_1.out); (case side5 => exact lC (Kd.C_below HR0_2.out HB.out)); (case side6 => exact HC0_2.out); (case side7 => repeat (first | exact (Kd.R_reads' HO_3.out).2.2 | (with_reducible refine Kd.C_alloc ?_ _) | (with_reducible refine Kd.C_drewN ?_ _) | (with_reducible refine Kd.C_drew ?_))); (case side8 => exact (Kd.R_reads' HO_3.out).2.1); rintro e w23 ⟨v257, rfl, ho0, hb⟩; refine ⟨_, rfl, ?_⟩; have n0_ := Aside0.mk (Kd.R_elder' (lR HO_3.out) (Kd.R_base ho0) hb); have n1_ := Aside0.mk (Kd.R_lower (Kd.R_new' ho0 (Kd.R_lt (lR HO_3.out))) (below_size lB)); have n2_ := Aside0.mk (blk_below (lK BK243.out) hb); have n3_ := Aside0.mk (below_step lB hb); clear HO_3; clear BK243; clear HB; have HO_3 := n0_; have HO258 := n1_; have BK243 := n2_; have HB := n3_; clear n0_ n1_ n2_ n3_; (try clear hb); (try clear hb2); (try clear hk); (try clear hi); (try clear ho0); obtain ⟨Ao24, co24, eo24⟩ := Kd.R_slice HO258.out; subst eo24) | ((with_reducible refine gate_callee (f := 47) rfl ?_); refine gl_ (some 31) (Try.func47) #[.slice Ao24 t256.length co24] ?_; (with_reducible refine (spec_l14Sorted.calls k1 _ _ t256 t259 _ ?side1 ?side2 A20.out).mono ?_); (case side1 => repeat (first | exact (Kd.R_reads' HO258.out).2.2 | (with_reducible refine Kd.C_alloc ?_ _) | (with_reducible refine Kd.C_drewN ?_ _) | (with_reducible refine Kd.C_drew ?_))); (case side2 => exact (Kd.R_reads' HO258.out).2.1); rintro e w25 ⟨v260, rfl, ho0, hb⟩; refine ⟨_, rfl, ?_⟩; have n0_ := Aside0.mk (Kd.R_elder' (lR HO_3.out) (Kd.R_base ho0) hb); have n1_ := Aside0.mk (Kd.R_elder' (lR HO258.out) (Kd.R_base ho0) hb); have n2_ := Aside0.mk (Kd.R_lower (Kd.R_new' (Kd.R_new' ho0 (Kd.R_lt (lR HO_3.out))) (Kd.R_lt (lR HO258.out))) (below_size lB)); have n3_ := Aside0.mk (blk_below (lK BK243.out) hb); have n4_ := Aside0.mk (below_step lB hb); clear HO_3; clear HO258; clear BK243; clear HB; have HO_3 := n0_; have HO258 := n1_; have HO261 := n2_; have BK243 := n3_; have HB := n4_; clear n0_ n1_ n2_ n3_ n4_; (try clear hb); (try clear hb2); (try clear hk); (try clear hi); (try clear ho0)))
     go_ret
     exact ⟨_, lE, by (with_reducible repeat (first | apply Kd.R_alloc | apply Kd.R_drewN | apply Kd.R_drew)); exact Kd.R_mono HO261.out (fun _ hk => trivial), lB⟩
 ·rw [if_neg c2] at H
  exact absurd H (by simp)

/-! ### spec_MinorKeeps: function 27 -/
def spec_MinorKeeps.f (k : Nat) (l0_0 : List (S45)) (l0_1 : List Int) (l0_2 : List Int) (a0_3 : Int) : Option (List Int × Bool) := (spec_GoodHeap.f k l0_0 l0_1 l0_2 a0_3).bind fun t263 => (if t263 = true then ((spec_l14Keeps.f k l0_0 l0_1 l0_2 a0_3).bind fun t264 => (some (t264, true))) else (some (([] : List Int), false)))
theorem spec_MinorKeeps.mono : ∀ a0 a1 a2 a3 k, LeO (spec_MinorKeeps.f k a0 a1 a2 a3) (spec_MinorKeeps.f (k + 1) a0 a1 a2 a3) := by
 intro a0 a1 a2 a3 k
 unfold spec_MinorKeeps.f
 repeat' first
   | with_reducible apply spec_GoodHeap.mono
   | with_reducible apply spec_l14Keeps.mono
   | (with_reducible exact LeO.refl _)
   | (with_reducible exact LeO.none _)
   | (with_reducible refine LeO.ite ?_ ?_)
   | (with_reducible refine LeO.bind ?_ (fun _ => ?_))
   | apply spec_GoodHeap.mono
   | apply spec_l14Keeps.mono
   | exact LeO.none _
   | refine LeO.ite ?_ ?_
   | refine LeO.bind ?_ (fun _ => ?_)
set_option maxHeartbeats 8000000 in
set_option maxRecDepth 100000 in
theorem spec_MinorKeeps.calls (k : Nat) (A0_0 : Option Addr) (c0_0 : Nat) (l0_0 : List (S45)) (A0_1 : Option Addr) (c0_1 : Nat) (l0_1 : List Int) (A0_2 : Option Addr) (c0_2 : Nat) (l0_2 : List Int) (a0_3 : Int) (r1 : List Int) (r2 : Bool) (w : World) (hr0_0 : Kd.C k45 w A0_0 l0_0.length l0_0) (hc0_0 : l0_0.length ≤ c0_0) (hr0_1 : Kd.C (Kd.int .i64) w A0_1 l0_1.length l0_1) (hc0_1 : l0_1.length ≤ c0_1) (hr0_2 : Kd.C (Kd.int .i64) w A0_2 l0_2.length l0_2) (hc0_2 : l0_2.length ≤ c0_2) (h : spec_MinorKeeps.f k l0_0 l0_1 l0_2 a0_3 = some (r1, r2)) :
  Calls Try.prog 27 #[.agg #[.slice A0_0 l0_0.length c0_0, .slice A0_1 l0_1.length c0_1, .slice A0_2 l0_2.length c0_2, .int .i64 a0_3]] w fun e w' => ∃ v0_ : Value, e = .returned (.tuple #[v0_, .bool r2]) ∧ Kd.R (Kd.int .i64) 3 w' w.heap.size (fun _ => True) v0_ r1 ∧ Below w.heap.size w w' := by
 have hu25 := Try.underlying25
 have HR0_0 := Aside0.mk hr0_0
 have HC0_0 := Aside0.mk hc0_0
 clear hr0_0 hc0_0
 have HR0_1 := Aside0.mk hr0_1
 have HC0_1 := Aside0.mk hc0_1
 clear hr0_1 hc0_1
 have HR0_2 := Aside0.mk hr0_2
 have HC0_2 := Aside0.mk hc0_2
 clear hr0_2 hc0_2
 have HB := Aside0.mk (Below.refl w.heap.size w)
 have H : ((spec_GoodHeap.f k l0_0 l0_1 l0_2 a0_3).bind fun t263 => (if t263 = true then ((spec_l14Keeps.f k l0_0 l0_1 l0_2 a0_3).bind fun t264 => (some (t264, true))) else (some (([] : List Int), false)))) = some (r1, r2) := h
 clear h
 replace H := lO H
 obtain ⟨t263, A2, H⟩ := H
 by_cases c3 : t263 = true
 ·subst c3
  rw [if_pos rfl] at H
  replace H := lO H
  obtain ⟨t264, A4, H⟩ := H
  simp only [Option.some.injEq, Prod.mk.injEq] at H
  obtain ⟨rfl, rfl⟩ := H
  go_enter Try.func27, Try.ntmps27
  go_wp2_with (first | ((with_reducible refine gate_dst (N := 1) rfl ?_); refine bxe 1 #[.slice A0_0 l0_0.length c0_0, .slice A0_1 l0_1.length c0_1, .slice A0_2 l0_2.length c0_2, .int .i64 a0_3] 25 ?_; intro gb262 hg w5 hbox hb; have n0_ := Aside0.mk (below_step lB hb); have n1_ := Aside0.mk (hbox); have n2_ := lG w hg; have n3_ := lG w hg; clear HB; have HB := n0_; have BK262 := n1_; have GW262 := n2_; have GE262 := n3_; clear n0_ n1_ n2_ n3_; clear hb hbox hg; obtain ⟨hcz6_0, hfz6_0, hcz6_1, hfz6_1, hcz6_2, hfz6_2, hcz6_3, hfz6_3⟩ := bk4 BK262.out) | ((with_reducible refine gate_callee (f := 15) rfl ?_); refine gl_ (some 5) (Try.func15) #[.agg #[.slice A0_0 l0_0.length c0_0, .slice A0_1 l0_1.length c0_1, .slice A0_2 l0_2.length c0_2, .int .i64 a0_3]] ?_; (with_reducible refine (spec_GoodHeap.calls k _ _ l0_0 _ _ l0_1 _ _ l0_2 a0_3 true _ ?side1 ?side2 ?side3 ?side4 ?side5 ?side6 A2.out).mono ?_); (case side1 => exact lC (Kd.C_below HR0_0.out HB.out)); (case side2 => exact HC0_0.out); (case side3 => exact lC (Kd.C_below HR0_1.out HB.out)); (case side4 => exact HC0_1.out); (case side5 => exact lC (Kd.C_below HR0_2.out HB.out)); (case side6 => exact HC0_2.out); rintro e w7 ⟨rfl, hb⟩; refine ⟨_, rfl, ?_⟩; have n0_ := Aside0.mk (blk_below (lK BK262.out) hb); have n1_ := Aside0.mk (below_step lB hb); clear BK262; clear HB; have BK262 := n0_; have HB := n1_; clear n0_ n1_; (try clear hb); (try clear hb2); (try clear hk); (try clear hi); obtain ⟨hcz8_0, hfz8_0, hcz8_1, hfz8_1, hcz8_2, hfz8_2, hcz8_3, hfz8_3⟩ := bk4 BK262.out) | ((with_reducible refine gate_callee (f := 49) rfl ?_); refine gl_ (some 8) (Try.func49) #[.agg #[.slice A0_0 l0_0.length c0_0, .slice A0_1 l0_1.length c0_1, .slice A0_2 l0_2.length c0_2, .int .i64 a0_3]] ?_; (with_reducible refine (spec_l14Keeps.calls k _ _ l0_0 _ _ l0_1 _ _ l0_2 a0_3 t264 _ ?side1 ?side2 ?side3 ?side4 ?side5 ?side6 A4.out).mono ?_); (case side1 => exact lC (Kd.C_below HR0_0.out HB.out)); (case side2 => exact HC0_0.out); (case side3 => exact lC (Kd.C_below HR0_1.out HB.out)); (case side4 => exact HC0_1.out); (case side5 => exact lC (Kd.C_below HR0_2.out HB.out)); (case side6 => exact HC0_2.out); rintro e w9 ⟨v265, rfl, ho0, hb⟩; refine ⟨_, rfl, ?_⟩; have n0_ := Aside0.mk (Kd.R_lower ho0 (below_size lB)); have n1_ := Aside0.mk (blk_below (lK BK262.out) hb); have n2_ := Aside0.mk (below_step lB hb); clear BK262; clear HB; have HO266 := n0_; have BK262 := n1_; have HB := n2_; clear n0_ n1_ n2_; (try clear hb); (try clear hb2); (try clear hk); (try clear hi); (try clear ho0)))
  go_ret2
  exact ⟨_, lE, lR HO266.out, lB⟩
 ·replace c3 := Bool.eq_false_iff.mpr c3
  subst c3
  rw [if_neg (show ¬ (false = true) by decide)] at H
  simp only [Option.some.injEq, Prod.mk.injEq] at H
  obtain ⟨rfl, rfl⟩ := H
  go_enter Try.func27, Try.ntmps27
  go_wp2_with (first | ((with_reducible refine gate_dst (N := 1) rfl ?_); refine bxe 1 #[.slice A0_0 l0_0.length c0_0, .slice A0_1 l0_1.length c0_1, .slice A0_2 l0_2.length c0_2, .int .i64 a0_3] 25 ?_; intro gb262 hg w10 hbox hb; have n0_ := Aside0.mk (below_step lB hb); have n1_ := Aside0.mk (hbox); have n2_ := lG w hg; have n3_ := lG w hg; clear HB; have HB := n0_; have BK262 := n1_; have GW262 := n2_; have GE262 := n3_; clear n0_ n1_ n2_ n3_; clear hb hbox hg; obtain ⟨hcz11_0, hfz11_0, hcz11_1, hfz11_1, hcz11_2, hfz11_2, hcz11_3, hfz11_3⟩ := bk4 BK262.out) | ((with_reducible refine gate_callee (f := 15) rfl ?_); refine gl_ (some 5) (Try.func15) #[.agg #[.slice A0_0 l0_0.length c0_0, .slice A0_1 l0_1.length c0_1, .slice A0_2 l0_2.length c0_2, .int .i64 a0_3]] ?_; (with_reducible refine (spec_GoodHeap.calls k _ _ l0_0 _ _ l0_1 _ _ l0_2 a0_3 false _ ?side1 ?side2 ?side3 ?side4 ?side5 ?side6 A2.out).mono ?_); (case side1 => exact lC (Kd.C_below HR0_0.out HB.out)); (case side2 => exact HC0_0.out); (case side3 => exact lC (Kd.C_below HR0_1.out HB.out)); (case side4 => exact HC0_1.out); (case side5 => exact lC (Kd.C_below HR0_2.out HB.out)); (case side6 => exact HC0_2.out); rintro e w12 ⟨rfl, hb⟩; refine ⟨_, rfl, ?_⟩; have n0_ := Aside0.mk (blk_below (lK BK262.out) hb); have n1_ := Aside0.mk (below_step lB hb); clear BK262; clear HB; have BK262 := n0_; have HB := n1_; clear n0_ n1_; (try clear hb); (try clear hb2); (try clear hk); (try clear hi)))
  go_ret2
  exact ⟨_, lE, by first | exact Kd.R_nil _ _ _ _ _ | exact Kd.N_nil _ _ _ _ _ | exact Kd.V_nil _ _ _ _ _ | exact Kd.Q_nil _ _ _ _ _ | exact Kd.S_nil _ _ _ _ _, lB⟩

/-! ### impl_in: function 54 -/
def impl_in.f (a0 : Int) (a1 : Int) (a2 : Int) : Option (Bool) := if a0 ≥ a1 then (some (decide (a0 ≤ a2))) else (some false)
set_option maxHeartbeats 8000000 in
set_option maxRecDepth 100000 in
theorem impl_in.calls (a0 : Int) (a1 : Int) (a2 : Int) (r : Bool) (w : World) (h : impl_in.f a0 a1 a2 = some r) :
  Calls Try.prog 54 #[.int .i64 a0, .int .i64 a1, .int .i64 a2] w fun e w' => e = .returned (.bool r) ∧ Drawn0 w w' := by
 have H : (if a0 ≥ a1 then (some (decide (a0 ≤ a2))) else (some false)) = some r := h
 clear h
 by_cases c4 : a0 ≥ a1
 ·rw [if_pos c4] at H
  have c4b0 : decide (a1 ≤ a0) = true := decide_eq_true c4
  clear c4
  obtain rfl := Option.some.inj H
  go_enter Try.func54, Try.ntmps54
  first | (go_wp2; go_ret; exact ⟨by first | rfl | (simp; done) | (simp [*]; done), by repeat (first | exact Drawn0.refl _ | apply Drawn0.step)⟩) | (exfalso; simp only [decide_eq_false_iff_not, decide_eq_true_eq] at *; omega)
 ·rw [if_neg c4] at H
  have c4b0 : decide (a1 ≤ a0) = false := decide_eq_false c4
  clear c4
  obtain rfl := Option.some.inj H
  go_enter Try.func54, Try.ntmps54
  first | (go_wp2; go_ret; exact ⟨by first | rfl | (simp; done) | (simp [*]; done), by repeat (first | exact Drawn0.refl _ | apply Drawn0.step)⟩) | (exfalso; simp only [decide_eq_false_iff_not, decide_eq_true_eq] at *; omega)

/-! ### impl_Heap_reach_1: function 65 -/
def impl_Heap_reach_1.f (a0_0 : Int) (a0_1 : Bool) (l0_2 : List Int) : Option (Bool) := some true
set_option maxHeartbeats 8000000 in
set_option maxRecDepth 100000 in
theorem impl_Heap_reach_1.calls (a0_0 : Int) (a0_1 : Bool) (A0_2 : Option Addr) (c0_2 : Nat) (l0_2 : List Int) (r : Bool) (w : World) (hr0_2 : Kd.C (Kd.int .i64) w A0_2 l0_2.length l0_2) (hc0_2 : l0_2.length ≤ c0_2) (h : impl_Heap_reach_1.f a0_0 a0_1 l0_2 = some r) :
  Calls Try.prog 65 #[.agg #[.int .i64 a0_0, .bool a0_1, .slice A0_2 l0_2.length c0_2]] w fun e w' => e = .returned (.bool r) ∧ Below w.heap.size w w' := by
 have hu45 := Try.underlying45
 have HR0_2 := Aside0.mk hr0_2
 have HC0_2 := Aside0.mk hc0_2
 clear hr0_2 hc0_2
 have HB := Aside0.mk (Below.refl w.heap.size w)
 have H : (some true) = some r := h
 clear h
 obtain rfl := Option.some.inj H
 go_enter Try.func65, Try.ntmps65
 go_wp2_with (first | ((with_reducible refine gate_dst (N := 1) rfl ?_); refine bxe 1 #[.int .i64 a0_0, .bool a0_1, .slice A0_2 l0_2.length c0_2] 45 ?_; intro gb267 hg w2 hbox hb; have n0_ := Aside0.mk (below_step lB hb); have n1_ := Aside0.mk (hbox); have n2_ := lG w hg; have n3_ := lG w hg; clear HB; have HB := n0_; have BK267 := n1_; have GW267 := n2_; have GE267 := n3_; clear n0_ n1_ n2_ n3_; clear hb hbox hg))
 go_ret
 exact ⟨lE, lB⟩

/-! ### impl_Heap_keeps_1: function 66 -/
def impl_Heap_keeps_1.f (a0_0 : Int) (a0_1 : Bool) (l0_2 : List Int) : Option (Bool) := some (!a0_1)
set_option maxHeartbeats 8000000 in
set_option maxRecDepth 100000 in
theorem impl_Heap_keeps_1.calls (a0_0 : Int) (a0_1 : Bool) (A0_2 : Option Addr) (c0_2 : Nat) (l0_2 : List Int) (r : Bool) (w : World) (hr0_2 : Kd.C (Kd.int .i64) w A0_2 l0_2.length l0_2) (hc0_2 : l0_2.length ≤ c0_2) (h : impl_Heap_keeps_1.f a0_0 a0_1 l0_2 = some r) :
  Calls Try.prog 66 #[.agg #[.int .i64 a0_0, .bool a0_1, .slice A0_2 l0_2.length c0_2]] w fun e w' => e = .returned (.bool r) ∧ Below w.heap.size w w' := by
 have hu45 := Try.underlying45
 have HR0_2 := Aside0.mk hr0_2
 have HC0_2 := Aside0.mk hc0_2
 clear hr0_2 hc0_2
 have HB := Aside0.mk (Below.refl w.heap.size w)
 have H : (some (!a0_1)) = some r := h
 clear h
 obtain rfl := Option.some.inj H
 go_enter Try.func66, Try.ntmps66
 go_wp2_with (first | ((with_reducible refine gate_dst (N := 1) rfl ?_); refine bxe 1 #[.int .i64 a0_0, .bool a0_1, .slice A0_2 l0_2.length c0_2] 45 ?_; intro gb268 hg w2 hbox hb; have n0_ := Aside0.mk (below_step lB hb); have n1_ := Aside0.mk (hbox); have n2_ := lG w hg; have n3_ := lG w hg; clear HB; have HB := n0_; have BK268 := n1_; have GW268 := n2_; have GE268 := n3_; clear n0_ n1_ n2_ n3_; clear hb hbox hg; obtain ⟨hcz3_0, hfz3_0, hcz3_1, hfz3_1, hcz3_2, hfz3_2⟩ := bk3 BK268.out))
 go_ret
 exact ⟨lE, lB⟩

/-! ### impl_Heap_at_1: function 68 -/
def impl_Heap_at_1.f (a0_0 : Int) (a0_1 : Bool) (l0_2 : List Int) (a1_0 : Int) : Option (Bool) := some (a0_0 == a1_0)
set_option maxHeartbeats 8000000 in
set_option maxRecDepth 100000 in
theorem impl_Heap_at_1.calls (a0_0 : Int) (a0_1 : Bool) (A0_2 : Option Addr) (c0_2 : Nat) (l0_2 : List Int) (g1 : Nat) (a1_0 : Int) (r : Bool) (w : World) (hr0_2 : Kd.C (Kd.int .i64) w A0_2 l0_2.length l0_2) (hc0_2 : l0_2.length ≤ c0_2) (hb1 : w.heap[g1]? = some (.cells #[.int .i64 a1_0] 3 (0, 0))) (h : impl_Heap_at_1.f a0_0 a0_1 l0_2 a1_0 = some r) :
  Calls Try.prog 68 #[.agg #[.int .i64 a0_0, .bool a0_1, .slice A0_2 l0_2.length c0_2], .pointer (some ⟨g1, 0, none⟩)] w fun e w' => e = .returned (.bool r) ∧ Below w.heap.size w w' := by
 have hu45 := Try.underlying45
 have HR0_2 := Aside0.mk hr0_2
 have HC0_2 := Aside0.mk hc0_2
 clear hr0_2 hc0_2
 have BK1 := Aside0.mk hb1
 clear hb1
 have HB := Aside0.mk (Below.refl w.heap.size w)
 have H : (some (a0_0 == a1_0)) = some r := h
 clear h
 obtain rfl := Option.some.inj H
 go_enter Try.func68, Try.ntmps68
 go_wp2_with (first | ((with_reducible refine gate_dst (N := 2) rfl ?_); refine bxe 2 #[.int .i64 a0_0, .bool a0_1, .slice A0_2 l0_2.length c0_2] 45 ?_; intro gb269 hg w3 hbox hb; have n0_ := Aside0.mk (blk_below (lK BK1.out) hb); have n1_ := Aside0.mk (below_step lB hb); have n2_ := Aside0.mk (hbox); have n3_ := lG w hg; have n4_ := lG w hg; have n5_ := Aside0.mk ((by rw [hg]; exact Nat.ne_of_lt (blk_lt (lK BK1.out)) : g1 ≠ gb269)); have n6_ := Aside0.mk ((by rw [hg]; exact Nat.ne_of_gt (blk_lt (lK BK1.out)) : gb269 ≠ g1)); clear BK1; clear HB; have BK1 := n0_; have HB := n1_; have BK269 := n2_; have GW269 := n3_; have GE269 := n4_; have NB1_269 := n5_; have NB269_1 := n6_; clear n0_ n1_ n2_ n3_ n4_ n5_ n6_; clear hb hbox hg; have hnb4 := NB269_1.out; have hnc4 := NB1_269.out; obtain ⟨hcz5_0, hfz5_0, hcz5_1, hfz5_1, hcz5_2, hfz5_2⟩ := bk3 BK269.out; obtain ⟨hcz6_0, hfz6_0⟩ := bk1 BK1.out))
 go_ret
 exact ⟨lE, lB⟩

/-! ### impl_Object: function 67 -/
-- slices.IndexFunc, whatever is asked
set_option maxHeartbeats 800000 in
set_option maxRecDepth 100000 in
theorem idx67_ (g : Nat) (caps : Array Value) (eg : ∀ args w, (callFunc g args).run Try.prog w = .ok (.enter g args) w) (p : S45 → Option Bool) (A0 : Option Addr) (c0 : Nat) (l0 : List S45) (w : World) (hr0 : Kd.C k45 w A0 l0.length l0)
    (hp : ∀ (W : World) (x : S45) (b : Bool) (A_2 : Option Addr) (c_2 : Nat), Below w.heap.size w W → x.f2.length ≤ c_2 → Kd.C (Kd.int .i64) W A_2 x.f2.length x.f2 → p x = some b → Calls Try.prog g (#[.agg #[.int .i64 x.f0, .bool x.f1, .slice A_2 x.f2.length c_2]] ++ caps) W fun e w' => e = .returned (.bool b) ∧ Below W.heap.size W w') (r : Int) (h : Kit.idxO p l0 0 = some r) :
    Calls Try.prog 67 #[.slice A0 l0.length c0, .func (.func g) #[] caps] w fun e w' => e = .returned (.int .i64 r) ∧ Below w.heap.size w w' := by
  have HR := Aside0.mk hr0
  have HP := Aside0.mk hp
  have HH := Aside0.mk h
  have hbig := hr0.2.1
  clear hr0 hp h
  have hu45 := Try.underlying45
  go_enter Try.func67, Try.ntmps67
  go_wp2
  go_loopg [5, 8] l0.length (fun gg _ s8 wr => ∃ kk : Nat, kk ≤ l0.length ∧ l0.length - kk ≤ gg ∧ s8 = .int .i64 kk ∧ Aside0 (Below w.heap.size w wr) ∧ Aside0 (Kit.idxO p (l0.drop kk) kk = some r))
  case atStart => exact ⟨0, Nat.zero_le _, by omega, rfl, ⟨Below.refl _ _⟩, ⟨by simpa using HH.out⟩⟩
  case round =>
    obtain ⟨kk, hkk, hg, rfl, HB, HI⟩ := hrel
    by_cases hlt : kk < l0.length
    · have hltz : (kk : Int) < (l0.length : Int) := by omega
      have hd0 : decide (kk < l0.length) = true := decide_eq_true hlt
      obtain ⟨ad, A_2, c_2, e_, hx0, hx1, hx2, ⟨hl2, hC2⟩⟩ := at_T45 HR.out (kk : Int) (by omega) (by omega)
      cases e_
      replace hx0 := pw_cell_below HB.out hx0
      replace hx1 := pw_cell_below HB.out hx1
      replace hx2 := pw_cell_below HB.out hx2
      simp only [Int.toNat_natCast] at hx0 hx1 hx2
      replace hC2 := Kd.C_below hC2 HB.out
      have hd : l0.drop kk = rd_T45 l0 (kk : Int) :: l0.drop (kk + 1) := by
        rw [List.drop_eq_getElem_cons hlt]; simp [rd_T45, List.getD, hlt]
      generalize rd_T45 l0 (kk : Int) = y at hd hx0 hx1 hx2 hl2 hC2
      have HI' := HI.out
      rw [hd] at HI'
      simp only [Kit.idxO] at HI'
      obtain ⟨b, hb, hI⟩ := Option.bind_eq_some_iff.1 HI'
      have hcall := HP.out wr y b A_2 c_2 HB.out hl2 hC2 hb
      have HIb := Aside0.mk hI
      clear hI HI' hb hd HI hl2 hC2
      cases b with
      | true =>
        go_wp2_with fail
        refine hcall.mono ?_
        rintro e w2 ⟨rfl, hb2⟩
        clear hcall
        go_wp2_with fail
        go_ret
        have hI := HIb.out
        simp only [if_true, Option.some.injEq] at hI
        exact ⟨by subst hI; rfl, HB.out.trans (hb2.mono HB.out.size)⟩
      | false =>
        go_wp2_with fail
        refine hcall.mono ?_
        rintro e w2 ⟨rfl, hb2⟩
        clear hcall
        go_wp2_with fail
        go_roundg (l0.length - (kk + 1))
        case measure => omega
        case rel => exact ⟨kk + 1, by omega, by omega, by go_num, ⟨HB.out.trans (hb2.mono HB.out.size)⟩, ⟨by simpa using HIb.out⟩⟩
    · have hltz : ¬ (kk : Int) < (l0.length : Int) := by omega
      have hd0 : decide (kk < l0.length) = false := decide_eq_false hlt
      have hkl : kk = l0.length := by omega
      have hI := HI.out
      rw [hkl, List.drop_length] at hI
      simp [Kit.idxO] at hI
      clear HI hkl
      have HR2 := Aside0.mk hI
      clear hI
      go_wp2
      go_ret
      exact ⟨by have e_ := HR2.out; subst e_; rfl, HB.out⟩
def impl_Object_68.f (l0 : List S45) (a1_0 : Int) : Option (Int) := Kit.idxO (fun x : S45 => impl_Heap_at_1.f x.f0 x.f1 x.f2 a1_0) l0 0
theorem impl_Object_68.calls (A0 : Option Addr) (c0 : Nat) (l0 : List S45) (g1 : Nat) (a1_0 : Int) (r : Int) (w : World) (hr0 : Kd.C k45 w A0 l0.length l0) (hc0 : l0.length ≤ c0) (hb1 : w.heap[g1]? = some (.cells #[.int .i64 a1_0] 3 (0, 0))) (h : impl_Object_68.f l0 a1_0 = some r) :
    Calls Try.prog 67 #[.slice A0 l0.length c0, .func (.func 68) #[] #[.pointer (some ⟨g1, 0, none⟩)]] w fun e w' => e = .returned (.int .i64 r) ∧ Below w.heap.size w w' :=
  idx67_ 68 #[.pointer (some ⟨g1, 0, none⟩)] (enters_of Try.func68 (by kernel_rfl) rfl) (fun x : S45 => impl_Heap_at_1.f x.f0 x.f1 x.f2 a1_0) A0 c0 l0 w hr0 (fun W x b A_2 c_2 hW hl2 hC2 hx => (impl_Heap_at_1.calls x.f0 x.f1 A_2 c_2 x.f2 g1 a1_0 b W hC2 hl2 (blk_below hb1 hW) hx).mono fun e w' ⟨he, hd⟩ => ⟨he, hd⟩) r h

/-! ### impl_Heap_at: function 58 -/
def impl_Heap_at.f (l0_0 : List (S45)) (l0_1 : List Int) (l0_2 : List Int) (a0_3 : Int) (a1 : Int) : Option (Int) := (impl_Object_68.f l0_0 a1).bind fun t271 => (some t271)
set_option maxHeartbeats 8000000 in
set_option maxRecDepth 100000 in
theorem impl_Heap_at.calls (g0 : Nat) (A0_0 : Option Addr) (c0_0 : Nat) (l0_0 : List (S45)) (A0_1 : Option Addr) (c0_1 : Nat) (l0_1 : List Int) (A0_2 : Option Addr) (c0_2 : Nat) (l0_2 : List Int) (a0_3 : Int) (a1 : Int) (r : Int) (w : World) (hb0 : w.heap[g0]? = some (.cells #[.slice A0_0 l0_0.length c0_0, .slice A0_1 l0_1.length c0_1, .slice A0_2 l0_2.length c0_2, .int .i64 a0_3] 25 (0, 0))) (hr0_0 : Kd.C k45 w A0_0 l0_0.length l0_0) (hc0_0 : l0_0.length ≤ c0_0) (hr0_1 : Kd.C (Kd.int .i64) w A0_1 l0_1.length l0_1) (hc0_1 : l0_1.length ≤ c0_1) (hr0_2 : Kd.C (Kd.int .i64) w A0_2 l0_2.length l0_2) (hc0_2 : l0_2.length ≤ c0_2) (h : impl_Heap_at.f l0_0 l0_1 l0_2 a0_3 a1 = some r) :
  Calls Try.prog 58 #[.pointer (some ⟨g0, 0, none⟩), .int .i64 a1] w fun e w' => e = .returned (.int .i64 r) ∧ Below w.heap.size w w' := by
 have HR0_0 := Aside0.mk hr0_0
 have HC0_0 := Aside0.mk hc0_0
 clear hr0_0 hc0_0
 have HR0_1 := Aside0.mk hr0_1
 have HC0_1 := Aside0.mk hc0_1
 clear hr0_1 hc0_1
 have HR0_2 := Aside0.mk hr0_2
 have HC0_2 := Aside0.mk hc0_2
 clear hr0_2 hc0_2
 have BK0 := Aside0.mk hb0
 clear hb0
 have HB := Aside0.mk (Below.refl w.heap.size w)
 have H : ((impl_Object_68.f l0_0 a1).bind fun t271 => (some t271)) = some r := h
 clear h
 replace H := lO H
 obtain ⟨t271, A3, H⟩ := H
 obtain rfl := Option.some.inj H
 go_enter Try.func58, Try.ntmps58
 go_wp2_with (first | ((with_reducible refine gate_dst (N := 3) rfl ?_); refine bxe 3 #[.int .i64 a1] 3 ?_; intro gb270 hg w4 hbox hb; have n0_ := Aside0.mk (blk_below (lK BK0.out) hb); have n1_ := Aside0.mk (below_step lB hb); have n2_ := Aside0.mk (hbox); have n3_ := lG w hg; have n4_ := lG w hg; have n5_ := Aside0.mk ((by rw [hg]; exact Nat.ne_of_lt (blk_lt (lK BK0.out)) : g0 ≠ gb270)); have n6_ := Aside0.mk ((by rw [hg]; exact Nat.ne_of_gt (blk_lt (lK BK0.out)) : gb270 ≠ g0)); clear BK0; clear HB; have BK0 := n0_; have HB := n1_; have BK270 := n2_; have GW270 := n3_; have GE270 := n4_; have NB0_270 := n5_; have NB270_0 := n6_; clear n0_ n1_ n2_ n3_ n4_ n5_ n6_; clear hb hbox hg; have hnb5 := NB0_270.out; have hnc5 := NB270_0.out; obtain ⟨hcz6_0, hfz6_0, hcz6_1, hfz6_1, hcz6_2, hfz6_2, hcz6_3, hfz6_3⟩ := bk4 BK0.out) | ((with_reducible refine gate_callee (f := 67) rfl ?_); refine gl_ (some 10) (Try.func67) #[.slice A0_0 l0_0.length c0_0, .func (.func 68) #[] #[.pointer (some ⟨gb270, 0, none⟩)]] ?_; (with_reducible refine (impl_Object_68.calls _ _ l0_0 gb270 a1 t271 _ ?side1 ?side2 ?side3 A3.out).mono ?_); (case side1 => exact lC (Kd.C_below HR0_0.out HB.out)); (case side2 => exact HC0_0.out); (case side3 => exact (lK BK270.out)); rintro e w7 ⟨rfl, hb⟩; refine ⟨_, rfl, ?_⟩; have n0_ := Aside0.mk (blk_below (lK BK0.out) hb); have n1_ := Aside0.mk (blk_below (lK BK270.out) hb); have n2_ := Aside0.mk (below_step lB hb); clear BK0; clear BK270; clear HB; have BK0 := n0_; have BK270 := n1_; have HB := n2_; clear n0_ n1_ n2_; (try clear hb); (try clear hb2); (try clear hk); (try clear hi)))
 go_ret
 exact ⟨lE, lB⟩

end Go.Proofs.Ytnocadhibajaoaa.Q
