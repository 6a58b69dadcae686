-- Written by the program wip/tools/pr.py of this claim's session, over the kit's print.py.
import Derived.Test.YtgjojppbichaiaaQx0
import Derived.Test.YtgjojppbichaiaaQx2
namespace Go.Proofs.Ytgjojppbichaiaa.Q
open Go.RowKit Go.Proofs.YtgjojppbichaiaaW.PrintWords Go.Proofs.YtgjojppbichaiaaW.PrintLast Go.Proofs.YtgjojppbichaiaaW.PrintMore
attribute [local go_sem] max2_int min2_int max_two min_two max_three min_three max_four min_four   -- for this text's walks alone
set_option linter.unusedVariables false
set_option linter.unusedSimpArgs false

/-! ### spec_l1Put: function 86 -/
def spec_l1Put.l0 : Nat → List Int → Int → Int → Option (List Int)
 | 0, _, _, _ => none
 | k + 1, x0, x1, x5 => if x5 < (x0.length : Int) then (if 0 ≤ x5 then (if (rd x0 x5) < x1 then (spec_l1Put.l0 k x0 x1 (wrap64 (x5 + 1))) else (if (rd x0 x5) = x1 then (some x0) else (if x5 ≤ (x0.length : Int) then ((some (x0.take (x5 : Int).toNat : List Int)).bind fun y154 => (if ([] : List Int).length + y154.length < 17592186044416 then ((some (([] : List Int) ++ y154 : List Int)).bind fun y158 => (if y158.length < 17592186044416 then ((some (y158 ++ [x1] : List Int)).bind fun y161 => ((some (x0.drop (x5 : Int).toNat : List Int)).bind fun y164 => (if y161.length + y164.length < 17592186044416 then (some (y161 ++ y164)) else (none)))) else (none))) else (none))) else (none)))) else (none)) else (if 0 ≤ x5 then (if x5 ≤ (x0.length : Int) then ((some (x0.take (x5 : Int).toNat : List Int)).bind fun y171 => (if ([] : List Int).length + y171.length < 17592186044416 then ((some (([] : List Int) ++ y171 : List Int)).bind fun y175 => (if y175.length < 17592186044416 then ((some (y175 ++ [x1] : List Int)).bind fun y178 => ((some (x0.drop (x5 : Int).toNat : List Int)).bind fun y181 => (if y178.length + y181.length < 17592186044416 then (some (y178 ++ y181)) else (none)))) else (none))) else (none))) else (none)) else (none))
def spec_l1Put.f (k : Nat) (l0 : List Int) (a1 : Int) : Option (List Int) := spec_l1Put.l0 k l0 a1 0
theorem spec_l1Put.mono_l : ∀ k, (∀ y0 y1 y2, LeO (spec_l1Put.l0 k y0 y1 y2) (spec_l1Put.l0 (k + 1) y0 y1 y2))
 | 0 => fun _ _ _ r h => by simp [spec_l1Put.l0] at h
 | k + 1 => by
  have ih0 := spec_l1Put.mono_l k
  ·intro y0 y1 y2
   unfold spec_l1Put.l0
   repeat' first
   | with_reducible apply ih0
   | (with_reducible exact LeO.refl _)
   | (with_reducible exact LeO.none _)
   | (with_reducible refine LeO.ite ?_ ?_)
   | (with_reducible refine LeO.bind ?_ (fun _ => ?_))
   | apply ih0
   | exact LeO.none _
   | refine LeO.ite ?_ ?_
   | refine LeO.bind ?_ (fun _ => ?_)
theorem spec_l1Put.mono : ∀ a0 a1 k, LeO (spec_l1Put.f k a0 a1) (spec_l1Put.f (k + 1) a0 a1) := by
 intro a0 a1 k
 have ih0 := spec_l1Put.mono_l k
 unfold spec_l1Put.f
 repeat' first
   | with_reducible apply ih0
   | (with_reducible exact LeO.refl _)
   | (with_reducible exact LeO.none _)
   | (with_reducible refine LeO.ite ?_ ?_)
   | (with_reducible refine LeO.bind ?_ (fun _ => ?_))
   | apply ih0
   | exact LeO.none _
   | refine LeO.ite ?_ ?_
   | refine LeO.bind ?_ (fun _ => ?_)
set_option maxHeartbeats 8000000 in
set_option maxRecDepth 100000 in
theorem spec_l1Put.calls (k : Nat) (P0_ : Nat → Prop) (u9000_ : Value) (l0 : List Int) (a1 : Int) (r : List Int) (w0 w : World) (hB : Below w0.heap.size w0 w) (ho0 : Kd.R (Kd.int .i64) 3 w w0.heap.size P0_ u9000_ l0) (h : spec_l1Put.f k l0 a1 = some r) :
  Calls Try.prog 86 #[u9000_, .int .i64 a1] w fun e w' => ∃ v0_ : Value, e = .returned (v0_) ∧ Kd.R (Kd.int .i64) 3 w' w0.heap.size (fun k_ => (P0_ k_ ∨ w.heap.size ≤ k_)) v0_ r ∧ Below w0.heap.size w0 w' ∧ Kept w w' (fun k_ => P0_ k_) := by
 have HO0 := Aside0.mk (show Kd.R (Kd.int .i64) 3 w w0.heap.size (fun k_ => (P0_ k_ ∨ w.heap.size ≤ k_)) u9000_ l0 from Kd.R_mono ho0 (fun k_ hk => (.inl hk)))
 have HK := Aside0.mk (Kept.refl w (fun k_ => P0_ k_))
 have HW0 := Aside0.mk hB.size
 have HB := Aside0.mk hB
 clear hB
 have H : (spec_l1Put.l0 k l0 a1 0) = some r := h
 clear h
 have H' := Aside0.mk H
 clear H
 go_enter Try.func86, Try.ntmps86
 go_wp2
 go_loopg [5] k (fun kq v5 w' => ∃ (x5_1 : Int), v5 = .int .i64 x5_1 ∧ Aside0 (spec_l1Put.l0 kq l0 a1 x5_1 = some r) ∧ Aside0 (kq ≤ k) ∧ Aside0 (Kd.R (Kd.int .i64) 3 w' w0.heap.size (fun k_ => (P0_ k_ ∨ w.heap.size ≤ k_)) u9000_ l0) ∧ Aside0 (Kept w w' (fun k_ => P0_ k_)) ∧ Aside0 (Below w0.heap.size w0 w'))
 case atStart => exact ⟨(0), lF, H', ⟨Nat.le_refl _⟩, ⟨lR HO0.out⟩, ⟨by repeat (first | (with_reducible first | exact HK.out | apply Kept.alloc | apply Kept.drewN | apply Kept.drew) | exact HK.out)⟩, ⟨lB⟩⟩
 case round =>
  clear H'
  try clear p2
  obtain ⟨x5_1, rfl, HA, HK1, HO_0, HK, HB⟩ := hrel
  cases gk with
  | zero => exact absurd HA.out (by simp [spec_l1Put.l0])
  | succ k1 =>
   have H := HA.out
   clear HA
   simp only [spec_l1Put.l0] at H
   by_cases c3 : x5_1 < (l0.length : Int)
   ·rw [if_pos c3] at H
    have c3b0 : decide (x5_1 < (l0.length : Int)) = true := decide_eq_true c3
    clear c3
    by_cases c4 : 0 ≤ x5_1
    ·rw [if_pos c4] at H
     have c4b0 : decide (0 ≤ x5_1) = true := decide_eq_true c4
     clear c4
     by_cases c5 : (rd l0 x5_1) < a1
     ·rw [if_pos c5] at H
      have c5b0 : decide ((rd l0 x5_1) < a1) = true := decide_eq_true c5
      clear c5
      have H' := Aside0.mk H
      clear H
      obtain ⟨Ao6, co6, eo6⟩ := Kd.R_slice HO_0.out
      subst eo6
      have p152 : 0 ≤ (x5_1 : Int) := lD
      have q152 : x5_1 < (l0.length : Int) := lD
      obtain ⟨ad152, e152, hx152_0⟩ := Kd.at_int (Kd.R_reads' HO_0.out).2.2 x5_1 p152 q152
      cases e152
      replace p152 := eq_true p152
      replace q152 := eq_true q152
      go_wp2
      go_roundg k1
      case measure => have := HK1.out; omega
      case rel => exact ⟨(wrap64 (x5_1 + 1)), lF, H', ⟨by have := HK1.out; omega⟩, ⟨lR HO_0.out⟩, ⟨by repeat (first | (with_reducible first | exact HK.out | apply Kept.alloc | apply Kept.drewN | apply Kept.drew) | exact HK.out)⟩, ⟨lB⟩⟩
     ·rw [if_neg c5] at H
      have c5b0 : decide ((rd l0 x5_1) < a1) = false := decide_eq_false c5
      clear c5
      by_cases c7 : (rd l0 x5_1) = a1
      ·rw [if_pos c7] at H
       have c7b0 : ((rd l0 x5_1) == a1) = true := beq_iff_eq.mpr c7
       have c7b1 : ((rd l0 x5_1) != a1) = false := bne_eq_false_iff_eq.mpr c7
       clear c7
       obtain rfl := Option.some.inj H
       obtain ⟨Ao8, co8, eo8⟩ := Kd.R_slice HO_0.out
       subst eo8
       have p152 : 0 ≤ (x5_1 : Int) := lD
       have q152 : x5_1 < (l0.length : Int) := lD
       obtain ⟨ad152, e152, hx152_0⟩ := Kd.at_int (Kd.R_reads' HO_0.out).2.2 x5_1 p152 q152
       cases e152
       replace p152 := eq_true p152
       replace q152 := eq_true q152
       have p153 : 0 ≤ (x5_1 : Int) := lD
       have q153 : x5_1 < (l0.length : Int) := lD
       obtain ⟨ad153, e153, hx153_0⟩ := Kd.at_int (Kd.R_reads' HO_0.out).2.2 x5_1 p153 q153
       obtain rfl : ad152 = ad153 := (by injection e153)
       replace p153 := eq_true p153
       replace q153 := eq_true q153
       first | (go_wp2; go_ret; exact ⟨_, lE, lR HO_0.out, lB, by repeat (first | (with_reducible first | exact HK.out | apply Kept.alloc | apply Kept.drewN | apply Kept.drew) | exact HK.out)⟩) | (exfalso; simp only [decide_eq_false_iff_not, decide_eq_true_eq] at *; omega)
      ·rw [if_neg c7] at H
       have c7b0 : ((rd l0 x5_1) == a1) = false := beq_eq_false_iff_ne.mpr c7
       have c7b1 : ((rd l0 x5_1) != a1) = true := bne_iff_ne.mpr c7
       have c9b0 := eq_true (lD : 0 ≤ x5_1)
       by_cases c10 : x5_1 ≤ (l0.length : Int)
       ·rw [if_pos c10] at H
        have c10b0 := eq_true c10
        have c10b1 : decide (x5_1 ≤ (l0.length : Int)) = true := decide_eq_true c10
        clear c10
        obtain ⟨y154, hy154⟩ : ∃ y_ : List Int, y_ = (l0.take (x5_1 : Int).toNat) := ⟨_, rfl⟩
        replace H : (if ([] : List Int).length + y154.length < 17592186044416 then ((some (([] : List Int) ++ y154 : List Int)).bind fun y158 => (if y158.length < 17592186044416 then ((some (y158 ++ [a1] : List Int)).bind fun y161 => ((some (l0.drop (x5_1 : Int).toNat : List Int)).bind fun y164 => (if y161.length + y164.length < 17592186044416 then (some (y161 ++ y164)) else (none)))) else (none))) else (none)) = some r := by first | (rw [hy154]; with_reducible exact H) | (have H2_ := (Option.bind_some _ _).symm.trans H; rw [hy154]; with_reducible exact H2_) | (have H2_ := (Option.bind_some _ _).symm.trans H; with_reducible exact H2_) | with_reducible exact H | (rw [hy154]; exact H) | exact H
        have Ny154 := Aside0.mk hy154
        clear hy154
        by_cases c11 : ([] : List Int).length + y154.length < 17592186044416
        ·rw [if_pos c11] at H
         have LMc11 := Aside0.mk c11
         clear c11
         obtain ⟨y158, hy158⟩ : ∃ y_ : List Int, y_ = (([] : List Int) ++ y154) := ⟨_, rfl⟩
         replace H : (if y158.length < 17592186044416 then ((some (y158 ++ [a1] : List Int)).bind fun y161 => ((some (l0.drop (x5_1 : Int).toNat : List Int)).bind fun y164 => (if y161.length + y164.length < 17592186044416 then (some (y161 ++ y164)) else (none)))) else (none)) = some r := by first | (rw [hy158]; with_reducible exact H) | (have H2_ := (Option.bind_some _ _).symm.trans H; rw [hy158]; with_reducible exact H2_) | (have H2_ := (Option.bind_some _ _).symm.trans H; with_reducible exact H2_) | with_reducible exact H | (rw [hy158]; exact H) | exact H
         have Ny158 := Aside0.mk hy158
         clear hy158
         by_cases c12 : y158.length < 17592186044416
         ·rw [if_pos c12] at H
          have LMc12 := Aside0.mk c12
          clear c12
          obtain ⟨y161, hy161⟩ : ∃ y_ : List Int, y_ = (y158 ++ [a1]) := ⟨_, rfl⟩
          replace H : ((some (l0.drop (x5_1 : Int).toNat : List Int)).bind fun y164 => (if y161.length + y164.length < 17592186044416 then (some (y161 ++ y164)) else (none))) = some r := by first | (rw [hy161]; with_reducible exact H) | (have H2_ := (Option.bind_some _ _).symm.trans H; rw [hy161]; with_reducible exact H2_) | (have H2_ := (Option.bind_some _ _).symm.trans H; with_reducible exact H2_) | with_reducible exact H | (rw [hy161]; exact H) | exact H
          have Ny161 := Aside0.mk hy161
          clear hy161
          have c13b0 := eq_true (lD : 0 ≤ x5_1)
          have c14b0 := eq_true (lD : x5_1 ≤ (l0.length : Int))
          obtain ⟨y164, hy164⟩ : ∃ y_ : List Int, y_ = (l0.drop (x5_1 : Int).toNat) := ⟨_, rfl⟩
          replace H : (if y161.length + y164.length < 17592186044416 then (some (y161 ++ y164)) else (none)) = some r := by first | (rw [hy164]; with_reducible exact H) | (have H2_ := (Option.bind_some _ _).symm.trans H; rw [hy164]; with_reducible exact H2_) | (have H2_ := (Option.bind_some _ _).symm.trans H; with_reducible exact H2_) | with_reducible exact H | (rw [hy164]; exact H) | exact H
          have Ny164 := Aside0.mk hy164
          clear hy164
          by_cases c15 : y161.length + y164.length < 17592186044416
          ·rw [if_pos c15] at H
           have LMc15 := Aside0.mk c15
           clear c15
           obtain ⟨y168, hy168⟩ : ∃ y_ : List Int, y_ = (y161 ++ y164) := ⟨_, rfl⟩
           replace H : (some y168) = some r := by first | (rw [hy168]; with_reducible exact H) | (have H2_ := (Option.bind_some _ _).symm.trans H; rw [hy168]; with_reducible exact H2_) | (have H2_ := (Option.bind_some _ _).symm.trans H; with_reducible exact H2_) | with_reducible exact H | (rw [hy168]; exact H) | exact H
           have Ny168 := Aside0.mk hy168
           clear hy168
           obtain rfl := Option.some.inj H
           obtain ⟨Ao16, co16, eo16⟩ := Kd.R_slice HO_0.out
           subst eo16
           have p152 : 0 ≤ (x5_1 : Int) := lD
           have q152 : x5_1 < (l0.length : Int) := lD
           obtain ⟨ad152, e152, hx152_0⟩ := Kd.at_int (Kd.R_reads' HO_0.out).2.2 x5_1 p152 q152
           cases e152
           replace p152 := eq_true p152
           replace q152 := eq_true q152
           have p153 : 0 ≤ (x5_1 : Int) := lD
           have q153 : x5_1 < (l0.length : Int) := lD
           obtain ⟨ad153, e153, hx153_0⟩ := Kd.at_int (Kd.R_reads' HO_0.out).2.2 x5_1 p153 q153
           obtain rfl : ad152 = ad153 := (by injection e153)
           replace p153 := eq_true p153
           replace q153 := eq_true q153
           have q17 : (x5_1 : Int) ≤ ((l0.length : Int) : Int) := lD
           obtain ⟨i017, hi017, _, hsz17, _⟩ := info_parts info3
           have hroom17 : l0.length ≤ co16 := (Kd.R_reads' HO_0.out).2.1
           have hC17 : Kd.C (Kd.int .i64) _ (some ad152) l0.length l0 := (Kd.R_reads' HO_0.out).2.2
           have hcut17 := cut_to (P := Try.prog) 45 3 .i64 Try.underlying45 hi017 (some ad152) l0.length co16 x5_1 (lD) q17 hroom17
           have hr17 := Kd.C_take (m := (x5_1 : Int).toNat) hC17 (by omega)
           have hy17 : y154.length = (x5_1 : Int).toNat := (by rw [Ny154.out, List.length_take]; omega)
           rw [← Ny154.out] at hr17
           rw [← hy17] at hcut17
           have HR157 := Aside0.mk hr17
           have HC157 := Aside0.mk (show y154.length ≤ co16 from by omega)
           clear hr17 hC17 hroom17 hi017 hsz17
           have KY17 := Aside0.mk hy17
           clear hy17
           have KL17 := Aside0.mk (show (x5_1 : Int).toNat ≤ l0.length from by omega)
           replace q17 := eq_true q17
           go_wp2_with (first | ((with_reducible refine gate_builtin (b := .append) (xs := #[.tmp 34, .tmp 37]) rfl ?_); at_builtin; refine Kd.R_append_rows (Kd.int .i64) (w0 := w0) w0.heap.size rfl (.tmp 34) (.tmp 37) 45 3 (.int .i64 0) 8 rfl Try.underlying45 info3 rfl (by decide) (by omega) (.slice none 0 0) ([] : List Int) y154 _ _ _ (fun k_ => (P0_ k_ ∨ w.heap.size ≤ k_) ∧ some k_ ≠ (.slice (some ad152) l0.length co16 : Value).ownBlock) (fun _ => False) rfl rfl ?aO ?aR (fun _ _ h => h) (fun _ h => h.elim) ?aF ?aB ?aS ?aL ?_; (case aR => repeat (first | exact (by repeat (first | (with_reducible exact HR157.out) | (with_reducible refine Kd.C_alloc ?_ _) | (with_reducible refine Kd.C_drewN ?_ _) | (with_reducible refine Kd.C_drew ?_) | exact HR157.out)) | (with_reducible refine Kd.C_alloc ?_ _) | (with_reducible refine Kd.C_drewN ?_ _) | (with_reducible refine Kd.C_drew ?_))); (case aB => exact lB); (case aF => exact (fun k_ hk => ⟨(.inr (Nat.le_trans (by first | exact HK.out.1 | exact (show Kept w _ (fun k_ => P0_ k_) from by repeat (first | (with_reducible first | exact HK.out | apply Kept.alloc | apply Kept.drewN | apply Kept.drew) | exact HK.out)).1) hk)), Kd.fresh' (Kd.R_lt (lR HO_0.out)) k_ hk⟩)); (case aO => exact ((Kd.R_nil _ _ _ _ (fun k_ => (P0_ k_ ∨ w.heap.size ≤ k_) ∧ some k_ ≠ (.slice (some ad152) l0.length co16 : Value).ownBlock)))); (case aS => exact (below_size lB)); (case aL => have := LMc11.out; omega); intro v159 w18 ho hb hg hat; rw [← Ny158.out] at ho; have n0_ := Aside0.mk (Kd.R_after (Kd.R_apart_nil (lR HO_0.out)) hg hat); have n1_ := Aside0.mk (hb); have n2_ := Aside0.mk (Kept.of_grown (S := (fun k_ => P0_ k_)) hg (by repeat (first | (with_reducible first | exact HK.out | apply Kept.alloc | apply Kept.drewN | apply Kept.drew) | exact HK.out)) (fun k_ e_ => by simp [Value.ownBlock] at e_)); have n3_ := Aside0.mk ((show Kd.C (Kd.int .i64) w18 (some ad152) y154.length y154 from by rw [Ny154.out]; exact Kd.C_take (m := (x5_1 : Int).toNat) ((Kd.R_reads' (Kd.R_after (Kd.R_apart_nil (lR HO_0.out)) hg hat)).2.2) KL17.out)); have n4_ := Aside0.mk (ho); clear HO_0; clear HB; clear HK; clear HR157; have HO_0 := n0_; have HB := n1_; have HK := n2_; have HR157 := n3_; have HO160 := n4_; clear n0_ n1_ n2_ n3_ n4_; clear ho hb hg hat) | ((with_reducible refine gate_builtin (b := .append) (xs := #[.tmp 39, .tmp 41]) rfl ?_); at_builtin; refine Kd.R_append (Kd.int .i64) (w0 := w0) w0.heap.size rfl (.tmp 39) (.tmp 41) 45 3 (.int .i64 0) 8 rfl Try.underlying45 info3 rfl (by decide) (by omega) v159 y158 a1 [.int .i64 a1] (fun k_ => (P0_ k_ ∨ w.heap.size ≤ k_) ∧ some k_ ≠ (.slice (some ad152) l0.length co16 : Value).ownBlock) (fun _ => False) rfl rfl ?aP (fun _ hk => hk.elim) ?aF ?aO ?aB ?aS ?aL ?_; (case aP => exact rfl); (case aB => exact lB); (case aF => exact (fun k_ hk => ⟨(.inr (Nat.le_trans (by first | exact HK.out.1 | exact (show Kept w _ (fun k_ => P0_ k_) from by repeat (first | (with_reducible first | exact HK.out | apply Kept.alloc | apply Kept.drewN | apply Kept.drew) | exact HK.out)).1) hk)), Kd.fresh' (Kd.R_lt (lR HO_0.out)) k_ hk⟩)); (case aO => exact (lR HO160.out)); (case aS => exact (below_size lB)); (case aL => have := LMc12.out; omega); intro v162 w19 ho hb hg hat; rw [← Ny161.out] at ho; have n0_ := Aside0.mk (Kd.R_after (ok := (fun k_ => (P0_ k_ ∨ w.heap.size ≤ k_))) (lR HO_0.out) hg hat); have n1_ := Aside0.mk (hb); have n2_ := Aside0.mk (Kept.of_grown (S := (fun k_ => P0_ k_)) hg (by repeat (first | (with_reducible first | exact HK.out | apply Kept.alloc | apply Kept.drewN | apply Kept.drew) | exact HK.out)) (fun k_ e_ => (HO160.out.1 k_ e_).1)); have n3_ := Aside0.mk ((show Kd.C (Kd.int .i64) w19 (some ad152) y154.length y154 from by rw [Ny154.out]; exact Kd.C_take (m := (x5_1 : Int).toNat) ((Kd.R_reads' (Kd.R_after (ok := (fun k_ => (P0_ k_ ∨ w.heap.size ≤ k_))) (lR HO_0.out) hg hat)).2.2) KL17.out)); have n4_ := Aside0.mk (ho); clear HO_0; clear HB; clear HK; clear HR157; clear HO160; have HO_0 := n0_; have HB := n1_; have HK := n2_; have HR157 := n3_; have HO163 := n4_; clear n0_ n1_ n2_ n3_ n4_; clear ho hb hg hat; have q20 : (x5_1 : Int) ≤ ((l0.length : Int) : Int) := lD; obtain ⟨i020, hi020, _, hsz20, _⟩ := info_parts info3; have hroom20 : l0.length ≤ co16 := (Kd.R_reads' HO_0.out).2.1; have hC20 : Kd.C (Kd.int .i64) _ (some ad152) l0.length l0 := (Kd.R_reads' HO_0.out).2.2; have q020 : (0 : Int) ≤ (x5_1 : Int) := lD; have hcut20 := cut_from (P := Try.prog) 45 3 .i64 Try.underlying45 hi020 1 hsz20 (some ad152) l0.length co16 x5_1 q020 q20; have hr20 := Kd.C_drop (m := (x5_1 : Int).toNat) (c := co16) hC20 (by omega) hroom20; obtain ⟨A20, hA20⟩ : ∃ A1, A1 = (if co16 = (x5_1 : Int).toNat then (some ad152) else ((some ad152) : Option Addr).map (·.add ((x5_1 : Int).toNat * 1))) := ⟨_, rfl⟩; obtain ⟨c20, hc20⟩ : ∃ c1, c1 = co16 - (x5_1 : Int).toNat := ⟨_, rfl⟩; have hy20 : y164.length = l0.length - (x5_1 : Int).toNat := (by rw [Ny164.out, List.length_drop] <;> omega); rw [show (l0).drop (x5_1 : Int).toNat = y164 from Ny164.out.symm] at hr20; replace hr20 : Kd.C (Kd.int .i64) _ A20 y164.length y164 := (by rw [hA20]; exact hr20); rw [← hy20, ← hA20, ← hc20] at hcut20; have HR167 := Aside0.mk hr20; have HC167 := Aside0.mk (show y164.length ≤ c20 from by rw [hy20, hc20]; exact Nat.sub_le_sub_right hroom20 _); clear hr20 hC20 hroom20 hi020 hsz20 hc20; have KY20 := Aside0.mk hy20; have KA20 := Aside0.mk hA20; clear hy20 hA20; have KL20 := Aside0.mk (show (x5_1 : Int).toNat ≤ l0.length from by omega); replace q20 := eq_true q20) | ((with_reducible refine gate_builtin (b := .append) (xs := #[.tmp 43, .tmp 46]) rfl ?_); at_builtin; refine Kd.R_append_rows (Kd.int .i64) (w0 := w0) w0.heap.size rfl (.tmp 43) (.tmp 46) 45 3 (.int .i64 0) 8 rfl Try.underlying45 info3 rfl (by decide) (by omega) v162 y161 y164 _ _ _ (fun k_ => (P0_ k_ ∨ w.heap.size ≤ k_) ∧ some k_ ≠ (.slice (some ad152) l0.length co16 : Value).ownBlock) (fun _ => False) rfl rfl ?aO ?aR (fun _ _ h => h) (fun _ h => h.elim) ?aF ?aB ?aS ?aL ?_; (case aR => repeat (first | exact (by repeat (first | (with_reducible exact HR167.out) | (with_reducible refine Kd.C_alloc ?_ _) | (with_reducible refine Kd.C_drewN ?_ _) | (with_reducible refine Kd.C_drew ?_) | exact HR167.out)) | (with_reducible refine Kd.C_alloc ?_ _) | (with_reducible refine Kd.C_drewN ?_ _) | (with_reducible refine Kd.C_drew ?_))); (case aB => exact lB); (case aF => exact (fun k_ hk => ⟨(.inr (Nat.le_trans (by first | exact HK.out.1 | exact (show Kept w _ (fun k_ => P0_ k_) from by repeat (first | (with_reducible first | exact HK.out | apply Kept.alloc | apply Kept.drewN | apply Kept.drew) | exact HK.out)).1) hk)), Kd.fresh' (Kd.R_lt (lR HO_0.out)) k_ hk⟩)); (case aO => exact (lR HO163.out)); (case aS => exact (below_size lB)); (case aL => have := LMc15.out; omega); intro v169 w21 ho hb hg hat; rw [← Ny168.out] at ho; have n0_ := Aside0.mk (Kd.R_after (ok := (fun k_ => (P0_ k_ ∨ w.heap.size ≤ k_))) (lR HO_0.out) hg hat); have n1_ := Aside0.mk (hb); have n2_ := Aside0.mk (Kept.of_grown (S := (fun k_ => P0_ k_)) hg (by repeat (first | (with_reducible first | exact HK.out | apply Kept.alloc | apply Kept.drewN | apply Kept.drew) | exact HK.out)) (fun k_ e_ => (HO163.out.1 k_ e_).1)); have n3_ := Aside0.mk ((show Kd.C (Kd.int .i64) w21 (some ad152) y154.length y154 from by rw [Ny154.out]; exact Kd.C_take (m := (x5_1 : Int).toNat) ((Kd.R_reads' (Kd.R_after (ok := (fun k_ => (P0_ k_ ∨ w.heap.size ≤ k_))) (lR HO_0.out) hg hat)).2.2) KL17.out)); have n4_ := Aside0.mk ((show Kd.C (Kd.int .i64) w21 A20 y164.length y164 from by rw [Ny164.out, KA20.out]; exact Kd.C_drop (m := (x5_1 : Int).toNat) (c := co16) ((Kd.R_reads' (Kd.R_after (ok := (fun k_ => (P0_ k_ ∨ w.heap.size ≤ k_))) (lR HO_0.out) hg hat)).2.2) KL20.out ((Kd.R_reads' (Kd.R_after (ok := (fun k_ => (P0_ k_ ∨ w.heap.size ≤ k_))) (lR HO_0.out) hg hat)).2.1))); have n5_ := Aside0.mk (ho); clear HO_0; clear HB; clear HK; clear HR157; clear HR167; clear HO163; have HO_0 := n0_; have HB := n1_; have HK := n2_; have HR157 := n3_; have HR167 := n4_; have HO170 := n5_; clear n0_ n1_ n2_ n3_ n4_ n5_; clear ho hb hg hat))
           go_ret
           exact ⟨_, lE, by (with_reducible repeat (first | apply Kd.R_alloc | apply Kd.R_drewN | apply Kd.R_drew)); exact Kd.R_mono HO170.out (fun _ hk => hk.1), lB, by repeat (first | (with_reducible first | exact HK.out | apply Kept.alloc | apply Kept.drewN | apply Kept.drew) | exact HK.out)⟩
          ·rw [if_neg c15] at H
           exact absurd H (by simp)
         ·rw [if_neg c12] at H
          exact absurd H (by simp)
        ·rw [if_neg c11] at H
         exact absurd H (by simp)
       ·rw [if_neg c10] at H
        exact absurd H (by simp)
    ·rw [if_neg c4] at H
     exact absurd H (by simp)
   ·rw [if_neg c3] at H
    have c3b0 : decide (x5_1 < (l0.length : Int)) = false := decide_eq_false c3
    clear c3
    by_cases c22 : 0 ≤ x5_1
    ·rw [if_pos c22] at H
     have c22b0 := eq_true c22
     have c22b1 : decide (0 ≤ x5_1) = true := decide_eq_true c22
     clear c22
     by_cases c23 : x5_1 ≤ (l0.length : Int)
     ·rw [if_pos c23] at H
      have c23b0 := eq_true c23
      have c23b1 : decide (x5_1 ≤ (l0.length : Int)) = true := decide_eq_true c23
      clear c23
      obtain ⟨y171, hy171⟩ : ∃ y_ : List Int, y_ = (l0.take (x5_1 : Int).toNat) := ⟨_, rfl⟩
      replace H : (if ([] : List Int).length + y171.length < 17592186044416 then ((some (([] : List Int) ++ y171 : List Int)).bind fun y175 => (if y175.length < 17592186044416 then ((some (y175 ++ [a1] : List Int)).bind fun y178 => ((some (l0.drop (x5_1 : Int).toNat : List Int)).bind fun y181 => (if y178.length + y181.length < 17592186044416 then (some (y178 ++ y181)) else (none)))) else (none))) else (none)) = some r := by first | (rw [hy171]; with_reducible exact H) | (have H2_ := (Option.bind_some _ _).symm.trans H; rw [hy171]; with_reducible exact H2_) | (have H2_ := (Option.bind_some _ _).symm.trans H; with_reducible exact H2_) | with_reducible exact H | (rw [hy171]; exact H) | exact H
      have Ny171 := Aside0.mk hy171
      clear hy171
      by_cases c24 : ([] : List Int).length + y171.length < 17592186044416
      ·rw [if_pos c24] at H
       have LMc24 := Aside0.mk c24
       clear c24
       obtain ⟨y175, hy175⟩ : ∃ y_ : List Int, y_ = (([] : List Int) ++ y171) := ⟨_, rfl⟩
       replace H : (if y175.length < 17592186044416 then ((some (y175 ++ [a1] : List Int)).bind fun y178 => ((some (l0.drop (x5_1 : Int).toNat : List Int)).bind fun y181 => (if y178.length + y181.length < 17592186044416 then (some (y178 ++ y181)) else (none)))) else (none)) = some r := by first | (rw [hy175]; with_reducible exact H) | (have H2_ := (Option.bind_some _ _).symm.trans H; rw [hy175]; with_reducible exact H2_) | (have H2_ := (Option.bind_some _ _).symm.trans H; with_reducible exact H2_) | with_reducible exact H | (rw [hy175]; exact H) | exact H
       have Ny175 := Aside0.mk hy175
       clear hy175
       by_cases c25 : y175.length < 17592186044416
       ·rw [if_pos c25] at H
        have LMc25 := Aside0.mk c25
        clear c25
        obtain ⟨y178, hy178⟩ : ∃ y_ : List Int, y_ = (y175 ++ [a1]) := ⟨_, rfl⟩
        replace H : ((some (l0.drop (x5_1 : Int).toNat : List Int)).bind fun y181 => (if y178.length + y181.length < 17592186044416 then (some (y178 ++ y181)) else (none))) = some r := by first | (rw [hy178]; with_reducible exact H) | (have H2_ := (Option.bind_some _ _).symm.trans H; rw [hy178]; with_reducible exact H2_) | (have H2_ := (Option.bind_some _ _).symm.trans H; with_reducible exact H2_) | with_reducible exact H | (rw [hy178]; exact H) | exact H
        have Ny178 := Aside0.mk hy178
        clear hy178
        have c26b0 := eq_true (lD : 0 ≤ x5_1)
        have c27b0 := eq_true (lD : x5_1 ≤ (l0.length : Int))
        obtain ⟨y181, hy181⟩ : ∃ y_ : List Int, y_ = (l0.drop (x5_1 : Int).toNat) := ⟨_, rfl⟩
        replace H : (if y178.length + y181.length < 17592186044416 then (some (y178 ++ y181)) else (none)) = some r := by first | (rw [hy181]; with_reducible exact H) | (have H2_ := (Option.bind_some _ _).symm.trans H; rw [hy181]; with_reducible exact H2_) | (have H2_ := (Option.bind_some _ _).symm.trans H; with_reducible exact H2_) | with_reducible exact H | (rw [hy181]; exact H) | exact H
        have Ny181 := Aside0.mk hy181
        clear hy181
        by_cases c28 : y178.length + y181.length < 17592186044416
        ·rw [if_pos c28] at H
         have LMc28 := Aside0.mk c28
         clear c28
         obtain ⟨y185, hy185⟩ : ∃ y_ : List Int, y_ = (y178 ++ y181) := ⟨_, rfl⟩
         replace H : (some y185) = some r := by first | (rw [hy185]; with_reducible exact H) | (have H2_ := (Option.bind_some _ _).symm.trans H; rw [hy185]; with_reducible exact H2_) | (have H2_ := (Option.bind_some _ _).symm.trans H; with_reducible exact H2_) | with_reducible exact H | (rw [hy185]; exact H) | exact H
         have Ny185 := Aside0.mk hy185
         clear hy185
         obtain rfl := Option.some.inj H
         obtain ⟨Ao29, co29, eo29⟩ := Kd.R_slice HO_0.out
         subst eo29
         have q30 : (x5_1 : Int) ≤ ((l0.length : Int) : Int) := lD
         obtain ⟨i030, hi030, _, hsz30, _⟩ := info_parts info3
         have hroom30 : l0.length ≤ co29 := (Kd.R_reads' HO_0.out).2.1
         have hC30 : Kd.C (Kd.int .i64) _ Ao29 l0.length l0 := (Kd.R_reads' HO_0.out).2.2
         have hcut30 := cut_to (P := Try.prog) 45 3 .i64 Try.underlying45 hi030 Ao29 l0.length co29 x5_1 (lD) q30 hroom30
         have hr30 := Kd.C_take (m := (x5_1 : Int).toNat) hC30 (by omega)
         have hy30 : y171.length = (x5_1 : Int).toNat := (by rw [Ny171.out, List.length_take]; omega)
         rw [← Ny171.out] at hr30
         rw [← hy30] at hcut30
         have HR174 := Aside0.mk hr30
         have HC174 := Aside0.mk (show y171.length ≤ co29 from by omega)
         clear hr30 hC30 hroom30 hi030 hsz30
         have KY30 := Aside0.mk hy30
         clear hy30
         have KL30 := Aside0.mk (show (x5_1 : Int).toNat ≤ l0.length from by omega)
         replace q30 := eq_true q30
         go_wp2_with (first | ((with_reducible refine gate_builtin (b := .append) (xs := #[.tmp 34, .tmp 37]) rfl ?_); at_builtin; refine Kd.R_append_rows (Kd.int .i64) (w0 := w0) w0.heap.size rfl (.tmp 34) (.tmp 37) 45 3 (.int .i64 0) 8 rfl Try.underlying45 info3 rfl (by decide) (by omega) (.slice none 0 0) ([] : List Int) y171 _ _ _ (fun k_ => (P0_ k_ ∨ w.heap.size ≤ k_) ∧ some k_ ≠ (.slice Ao29 l0.length co29 : Value).ownBlock) (fun _ => False) rfl rfl ?aO ?aR (fun _ _ h => h) (fun _ h => h.elim) ?aF ?aB ?aS ?aL ?_; (case aR => repeat (first | exact (by repeat (first | (with_reducible exact HR174.out) | (with_reducible refine Kd.C_alloc ?_ _) | (with_reducible refine Kd.C_drewN ?_ _) | (with_reducible refine Kd.C_drew ?_) | exact HR174.out)) | (with_reducible refine Kd.C_alloc ?_ _) | (with_reducible refine Kd.C_drewN ?_ _) | (with_reducible refine Kd.C_drew ?_))); (case aB => exact lB); (case aF => exact (fun k_ hk => ⟨(.inr (Nat.le_trans (by first | exact HK.out.1 | exact (show Kept w _ (fun k_ => P0_ k_) from by repeat (first | (with_reducible first | exact HK.out | apply Kept.alloc | apply Kept.drewN | apply Kept.drew) | exact HK.out)).1) hk)), Kd.fresh' (Kd.R_lt (lR HO_0.out)) k_ hk⟩)); (case aO => exact ((Kd.R_nil _ _ _ _ (fun k_ => (P0_ k_ ∨ w.heap.size ≤ k_) ∧ some k_ ≠ (.slice Ao29 l0.length co29 : Value).ownBlock)))); (case aS => exact (below_size lB)); (case aL => have := LMc24.out; omega); intro v176 w31 ho hb hg hat; rw [← Ny175.out] at ho; have n0_ := Aside0.mk (Kd.R_after (Kd.R_apart_nil (lR HO_0.out)) hg hat); have n1_ := Aside0.mk (hb); have n2_ := Aside0.mk (Kept.of_grown (S := (fun k_ => P0_ k_)) hg (by repeat (first | (with_reducible first | exact HK.out | apply Kept.alloc | apply Kept.drewN | apply Kept.drew) | exact HK.out)) (fun k_ e_ => by simp [Value.ownBlock] at e_)); have n3_ := Aside0.mk ((show Kd.C (Kd.int .i64) w31 Ao29 y171.length y171 from by rw [Ny171.out]; exact Kd.C_take (m := (x5_1 : Int).toNat) ((Kd.R_reads' (Kd.R_after (Kd.R_apart_nil (lR HO_0.out)) hg hat)).2.2) KL30.out)); have n4_ := Aside0.mk (ho); clear HO_0; clear HB; clear HK; clear HR174; have HO_0 := n0_; have HB := n1_; have HK := n2_; have HR174 := n3_; have HO177 := n4_; clear n0_ n1_ n2_ n3_ n4_; clear ho hb hg hat) | ((with_reducible refine gate_builtin (b := .append) (xs := #[.tmp 39, .tmp 41]) rfl ?_); at_builtin; refine Kd.R_append (Kd.int .i64) (w0 := w0) w0.heap.size rfl (.tmp 39) (.tmp 41) 45 3 (.int .i64 0) 8 rfl Try.underlying45 info3 rfl (by decide) (by omega) v176 y175 a1 [.int .i64 a1] (fun k_ => (P0_ k_ ∨ w.heap.size ≤ k_) ∧ some k_ ≠ (.slice Ao29 l0.length co29 : Value).ownBlock) (fun _ => False) rfl rfl ?aP (fun _ hk => hk.elim) ?aF ?aO ?aB ?aS ?aL ?_; (case aP => exact rfl); (case aB => exact lB); (case aF => exact (fun k_ hk => ⟨(.inr (Nat.le_trans (by first | exact HK.out.1 | exact (show Kept w _ (fun k_ => P0_ k_) from by repeat (first | (with_reducible first | exact HK.out | apply Kept.alloc | apply Kept.drewN | apply Kept.drew) | exact HK.out)).1) hk)), Kd.fresh' (Kd.R_lt (lR HO_0.out)) k_ hk⟩)); (case aO => exact (lR HO177.out)); (case aS => exact (below_size lB)); (case aL => have := LMc25.out; omega); intro v179 w32 ho hb hg hat; rw [← Ny178.out] at ho; have n0_ := Aside0.mk (Kd.R_after (ok := (fun k_ => (P0_ k_ ∨ w.heap.size ≤ k_))) (lR HO_0.out) hg hat); have n1_ := Aside0.mk (hb); have n2_ := Aside0.mk (Kept.of_grown (S := (fun k_ => P0_ k_)) hg (by repeat (first | (with_reducible first | exact HK.out | apply Kept.alloc | apply Kept.drewN | apply Kept.drew) | exact HK.out)) (fun k_ e_ => (HO177.out.1 k_ e_).1)); have n3_ := Aside0.mk ((show Kd.C (Kd.int .i64) w32 Ao29 y171.length y171 from by rw [Ny171.out]; exact Kd.C_take (m := (x5_1 : Int).toNat) ((Kd.R_reads' (Kd.R_after (ok := (fun k_ => (P0_ k_ ∨ w.heap.size ≤ k_))) (lR HO_0.out) hg hat)).2.2) KL30.out)); have n4_ := Aside0.mk (ho); clear HO_0; clear HB; clear HK; clear HR174; clear HO177; have HO_0 := n0_; have HB := n1_; have HK := n2_; have HR174 := n3_; have HO180 := n4_; clear n0_ n1_ n2_ n3_ n4_; clear ho hb hg hat; have q33 : (x5_1 : Int) ≤ ((l0.length : Int) : Int) := lD; obtain ⟨i033, hi033, _, hsz33, _⟩ := info_parts info3; have hroom33 : l0.length ≤ co29 := (Kd.R_reads' HO_0.out).2.1; have hC33 : Kd.C (Kd.int .i64) _ Ao29 l0.length l0 := (Kd.R_reads' HO_0.out).2.2; have q033 : (0 : Int) ≤ (x5_1 : Int) := lD; have hcut33 := cut_from (P := Try.prog) 45 3 .i64 Try.underlying45 hi033 1 hsz33 Ao29 l0.length co29 x5_1 q033 q33; have hr33 := Kd.C_drop (m := (x5_1 : Int).toNat) (c := co29) hC33 (by omega) hroom33; obtain ⟨A33, hA33⟩ : ∃ A1, A1 = (if co29 = (x5_1 : Int).toNat then Ao29 else (Ao29 : Option Addr).map (·.add ((x5_1 : Int).toNat * 1))) := ⟨_, rfl⟩; obtain ⟨c33, hc33⟩ : ∃ c1, c1 = co29 - (x5_1 : Int).toNat := ⟨_, rfl⟩; have hy33 : y181.length = l0.length - (x5_1 : Int).toNat := (by rw [Ny181.out, List.length_drop] <;> omega); rw [show (l0).drop (x5_1 : Int).toNat = y181 from Ny181.out.symm] at hr33; replace hr33 : Kd.C (Kd.int .i64) _ A33 y181.length y181 := (by rw [hA33]; exact hr33); rw [← hy33, ← hA33, ← hc33] at hcut33; have HR184 := Aside0.mk hr33; have HC184 := Aside0.mk (show y181.length ≤ c33 from by rw [hy33, hc33]; exact Nat.sub_le_sub_right hroom33 _); clear hr33 hC33 hroom33 hi033 hsz33 hc33; have KY33 := Aside0.mk hy33; have KA33 := Aside0.mk hA33; clear hy33 hA33; have KL33 := Aside0.mk (show (x5_1 : Int).toNat ≤ l0.length from by omega); replace q33 := eq_true q33) | ((with_reducible refine gate_builtin (b := .append) (xs := #[.tmp 43, .tmp 46]) rfl ?_); at_builtin; refine Kd.R_append_rows (Kd.int .i64) (w0 := w0) w0.heap.size rfl (.tmp 43) (.tmp 46) 45 3 (.int .i64 0) 8 rfl Try.underlying45 info3 rfl (by decide) (by omega) v179 y178 y181 _ _ _ (fun k_ => (P0_ k_ ∨ w.heap.size ≤ k_) ∧ some k_ ≠ (.slice Ao29 l0.length co29 : Value).ownBlock) (fun _ => False) rfl rfl ?aO ?aR (fun _ _ h => h) (fun _ h => h.elim) ?aF ?aB ?aS ?aL ?_; (case aR => repeat (first | exact (by repeat (first | (with_reducible exact HR184.out) | (with_reducible refine Kd.C_alloc ?_ _) | (with_reducible refine Kd.C_drewN ?_ _) | (with_reducible refine Kd.C_drew ?_) | exact HR184.out)) | (with_reducible refine Kd.C_alloc ?_ _) | (with_reducible refine Kd.C_drewN ?_ _) | (with_reducible refine Kd.C_drew ?_))); (case aB => exact lB); (case aF => exact (fun k_ hk => ⟨(.inr (Nat.le_trans (by first | exact HK.out.1 | exact (show Kept w _ (fun k_ => P0_ k_) from by repeat (first | (with_reducible first | exact HK.out | apply Kept.alloc | apply Kept.drewN | apply Kept.drew) | exact HK.out)).1) hk)), Kd.fresh' (Kd.R_lt (lR HO_0.out)) k_ hk⟩)); (case aO => exact (lR HO180.out)); (case aS => exact (below_size lB)); (case aL => have := LMc28.out; omega); intro v186 w34 ho hb hg hat; rw [← Ny185.out] at ho; have n0_ := Aside0.mk (Kd.R_after (ok := (fun k_ => (P0_ k_ ∨ w.heap.size ≤ k_))) (lR HO_0.out) hg hat); have n1_ := Aside0.mk (hb); have n2_ := Aside0.mk (Kept.of_grown (S := (fun k_ => P0_ k_)) hg (by repeat (first | (with_reducible first | exact HK.out | apply Kept.alloc | apply Kept.drewN | apply Kept.drew) | exact HK.out)) (fun k_ e_ => (HO180.out.1 k_ e_).1)); have n3_ := Aside0.mk ((show Kd.C (Kd.int .i64) w34 Ao29 y171.length y171 from by rw [Ny171.out]; exact Kd.C_take (m := (x5_1 : Int).toNat) ((Kd.R_reads' (Kd.R_after (ok := (fun k_ => (P0_ k_ ∨ w.heap.size ≤ k_))) (lR HO_0.out) hg hat)).2.2) KL30.out)); have n4_ := Aside0.mk ((show Kd.C (Kd.int .i64) w34 A33 y181.length y181 from by rw [Ny181.out, KA33.out]; exact Kd.C_drop (m := (x5_1 : Int).toNat) (c := co29) ((Kd.R_reads' (Kd.R_after (ok := (fun k_ => (P0_ k_ ∨ w.heap.size ≤ k_))) (lR HO_0.out) hg hat)).2.2) KL33.out ((Kd.R_reads' (Kd.R_after (ok := (fun k_ => (P0_ k_ ∨ w.heap.size ≤ k_))) (lR HO_0.out) hg hat)).2.1))); have n5_ := Aside0.mk (ho); clear HO_0; clear HB; clear HK; clear HR174; clear HR184; clear HO180; have HO_0 := n0_; have HB := n1_; have HK := n2_; have HR174 := n3_; have HR184 := n4_; have HO187 := n5_; clear n0_ n1_ n2_ n3_ n4_ n5_; clear ho hb hg hat))
         go_ret
         exact ⟨_, lE, by (with_reducible repeat (first | apply Kd.R_alloc | apply Kd.R_drewN | apply Kd.R_drew)); exact Kd.R_mono HO187.out (fun _ hk => hk.1), lB, by repeat (first | (with_reducible first | exact HK.out | apply Kept.alloc | apply Kept.drewN | apply Kept.drew) | exact HK.out)⟩
        ·rw [if_neg c28] at H
         exact absurd H (by simp)
       ·rw [if_neg c25] at H
        exact absurd H (by simp)
      ·rw [if_neg c24] at H
       exact absurd H (by simp)
     ·rw [if_neg c23] at H
      exact absurd H (by simp)
    ·rw [if_neg c22] at H
     exact absurd H (by simp)

/-! ### spec_l16May: function 60 -/
theorem Sm.info3 : (Try.prog.info? 3).map (fun i => (i.zero, i.size, i.bytes)) = some (some (.int .i64 0), 1, 8) := by kernel_rfl
abbrev Sm.F := Option (List Int)
def Sm.second (fs : List Sm.F) : Sm.F := match fs[1]? with
  | none => none
  | some f => f.bind fun s => if s.length < 1048576 then some s else none
def Sm.put (k : Nat) : List Int → List Int → Sm.F
  | b, [] => some b
  | b, x :: xs => (spec_l1Put.f k b x).bind fun q => Sm.put k q xs
def Sm.hit (n x : Int) : Bool := decide (n = 0) || decide (n = x)
def Sm.left (n : Int) : List Int → List Int
  | [] => []
  | x :: xs => if Sm.hit n x = true then Sm.left n xs else x :: Sm.left n xs
def Sm.caught (n : Int) : List Int → Bool
  | [] => false
  | x :: xs => if Sm.hit n x = true then true else Sm.caught n xs
def Sm.node (k : Nat) (kd n : Int) (fs : List Sm.F) : Sm.F :=
  if kd = 1 then some []
  else if kd = 2 then some [n]
  else match fs[0]? with
    | none => none
    | some f => if kd = 6 then (if n = 0 then some [] else f)
      else f.bind fun b =>
        if kd = 4 then (if b.length < 1048576 then (if Sm.caught n b = true then (Sm.second fs).bind fun s => Sm.put k (Sm.left n b) s else some (Sm.left n b)) else none)
        else (Sm.second fs).bind fun s => Sm.put k b s
mutual
def Sm.may (k : Nat) : S72 → Sm.F
  | ⟨kd, n, ts⟩ => Sm.node k kd n (Sm.mays k ts)
def Sm.mays (k : Nat) : List S72 → List Sm.F
  | [] => []
  | t :: ts => Sm.may k t :: Sm.mays k ts
end
theorem Sm.add0 (a : Addr) : a.add 0 = a := by unfold Addr.add; rw [if_pos rfl]
theorem Sm.add3 (a : Addr) : a.add 3 = ⟨a.block, a.off + 3, none⟩ := by unfold Addr.add; rw [if_neg (by decide)]
theorem Sm.mays_at (k : Nat) : ∀ (ts : List S72) (i : Nat) (f : Sm.F), (Sm.mays k ts)[i]? = some f → ∃ t, ts[i]? = some t ∧ f = Sm.may k t
  | [], i, f, h => by simp [Sm.mays] at h
  | t :: ts, 0, f, h => by
    simp only [Sm.mays, List.getElem?_cons_zero, Option.some.injEq] at h
    exact ⟨t, rfl, h.symm⟩
  | t :: ts, i + 1, f, h => by
    simp only [Sm.mays, List.getElem?_cons_succ] at h ⊢
    exact Sm.mays_at k ts i f h
theorem Sm.drop_rd {s : List Int} {i : Nat} (h : i < s.length) : s.drop i = rd s (i : Int) :: s.drop (i + 1) := by
  rw [List.drop_eq_getElem_cons h]
  congr 1
  unfold rd
  simp [h]
def Sm.Post (w : World) (r : List Int) (e : Ending) (w' : World) : Prop := ∃ v', e = .returned v' ∧ (Kd.int .i64).R 3 w' w.heap.size (fun _ => True) v' r ∧ Below w.heap.size w w'
abbrev Sm.Ok (w0 : World) (f : Sm.F) (kd n : Int) (A : Option Addr) (m c : Nat) : Prop :=
  ∀ (w : World) (r : List Int), Below w0.heap.size w0 w → f = some r →
    Calls Try.prog 60 #[.agg #[.int .i64 kd, .int .i64 n, .slice A m c]] w (Sm.Post w r)
structure Sm.Nd (w0 : World) (A : Option Addr) (m : Nat) (fs : List Sm.F) : Prop where
  kid : ∀ i f, fs[i]? = some f → i < m ∧ ∃ ad k' n' A' m' c', A = some ad ∧ w0.cell? (ad.add (i * 3)) = some (.int .i64 k') ∧ w0.cell? ⟨(ad.add (i * 3)).block, (ad.add (i * 3)).off + 1, none⟩ = some (.int .i64 n') ∧ w0.cell? ⟨(ad.add (i * 3)).block, (ad.add (i * 3)).off + 2, none⟩ = some (.slice A' m' c') ∧ Sm.Ok w0 f k' n' A' m' c'
theorem Sm.kid {w0 : World} {A : Option Addr} {m : Nat} {fs : List Sm.F} (hN : Sm.Nd w0 A m fs) {i : Nat} {f : Sm.F} (hf : fs[i]? = some f) : ∃ ad k' n' A' m' c', A = some ad ∧ i < m ∧ (∀ w, Below w0.heap.size w0 w → w.cell? (ad.add (i * 3)) = some (.int .i64 k') ∧ w.cell? ⟨(ad.add (i * 3)).block, (ad.add (i * 3)).off + 1, none⟩ = some (.int .i64 n') ∧ w.cell? ⟨(ad.add (i * 3)).block, (ad.add (i * 3)).off + 2, none⟩ = some (.slice A' m' c')) ∧ Sm.Ok w0 f k' n' A' m' c' := by
  obtain ⟨h1, ad, k', n', A', m', c', h2, h3, h4, h5, h6⟩ := hN.kid i f hf
  exact ⟨ad, k', n', A', m', c', h2, h1, fun w hw => ⟨pw_cell_below hw h3, pw_cell_below hw h4, pw_cell_below hw h5⟩, h6⟩
set_option maxHeartbeats 8000000 in
set_option maxRecDepth 100000 in
theorem Sm.node_ok (k : Nat) {w0 : World} {kd n : Int} {A : Option Addr} {m c : Nat} {fs : List Sm.F} (hN : Sm.Nd w0 A m fs) : Sm.Ok w0 (Sm.node k kd n fs) kd n A m c := by
 intro w r hB0 h
 have hu45 := Try.underlying45
 have hu70 := Try.underlying70
 have hu72 := Try.underlying72
 have HN := Aside0.mk hN
 have HB := Aside0.mk (Below.refl w.heap.size w)
 have HB0 := Aside0.mk hB0
 have HS := Aside0.mk hB0.size
 clear hB0 hN
 unfold Sm.node at h
 by_cases k1 : kd = 1
 ·rw [if_pos k1] at h
  subst k1
  obtain rfl := Option.some.inj h
  clear h
  go_enter Try.func60, Try.ntmps60
  go_wp2_with (first | ((with_reducible refine gate_dst (N := 1) rfl ?_); refine bxe 1 #[.int .i64 1, .int .i64 n, .slice A m c] 72 ?_; intro gb hgb_ w4 hbox hb_; have n0_ := Aside0.mk (below_step HB.out hb_); have n1_ := Aside0.mk hbox; clear HB; have HB := n0_; have BK := n1_; clear n0_ n1_ hbox hb_ hgb_; obtain ⟨hcz0, hfz0, hcz1, hfz1, hcz2, hfz2⟩ := bk3 BK.out))
  go_ret
  exact ⟨_, lE, Kd.R_nil _ _ _ _ _, HB.out⟩
 ·rw [if_neg k1] at h
  have k1b : (kd == 1) = false := beq_eq_false_iff_ne.mpr k1
  by_cases k2 : kd = 2
  ·rw [if_pos k2] at h
   subst k2
   obtain rfl := Option.some.inj h
   clear h
   go_enter Try.func60, Try.ntmps60
   go_wp2_with (first | ((with_reducible refine gate_dst (N := 1) rfl ?_); refine bxe 1 #[.int .i64 2, .int .i64 n, .slice A m c] 72 ?_; intro gb hgb_ w4 hbox hb_; have n0_ := Aside0.mk (below_step HB.out hb_); have n1_ := Aside0.mk hbox; clear HB; have HB := n0_; have BK := n1_; clear n0_ n1_ hbox hb_ hgb_; obtain ⟨hcz0, hfz0, hcz1, hfz1, hcz2, hfz2⟩ := bk3 BK.out) | ((with_reducible refine gate_dst (N := 18) rfl ?_); refine Kd.R_lit (Kd.int .i64) w.heap.size 3 ?hg (N := 18) ?hd (w0 := w) (xs := [n]) (inner := [.int .i64 n]) (ok := fun _ => True) (okp := fun _ => True) ?hr ?hp (fun _ hk => hk) trivial HB.out (below_size HB.out) (by simp) ?_; (case hd => rfl); (case hg => rfl); (case hr => first | (go_simp; done) | (go_simp; rfl)); (case hp => exact (Reps.one (show Kd.M (Kd.int .i64) _ _ _ n [.int .i64 n] from rfl) (Reps.none _ _))); intro v6 w6 ho hb hg_ hnew_; clear hg_ hnew_; have n0_ := Aside0.mk ho; have n1_ := Aside0.mk hb; clear HB ho hb; have HO := n0_; have HB := n1_; clear n0_ n1_; obtain ⟨Ap, cp, ep⟩ := Kd.R_slice HO.out; subst ep))
   go_ret
   exact ⟨_, lE, HO.out, HB.out⟩
  ·rw [if_neg k2] at h
   have k2b : (kd == 2) = false := beq_eq_false_iff_ne.mpr k2
   split at h
   ·cases h
   rename_i f0 hf0
   obtain ⟨ad0, k0_, n0_, A0, m0, c0, eA0, hm0, hc0, hok0⟩ := Sm.kid HN.out hf0
   have HOK0 := Aside0.mk hok0
   have HC0 := Aside0.mk hc0
   clear hok0 hc0
   have hm0b : (0 < m) = True := eq_true hm0
   have hm0c : ((0 : Int) < (m : Int)) = True := eq_true (by omega)
   clear hm0
   subst eA0
   by_cases k6 : kd = 6
   ·rw [if_pos k6] at h
    subst k6
    by_cases hn0 : n = 0
    ·subst hn0
     rw [if_pos rfl] at h
     obtain rfl := Option.some.inj h
     clear h
     go_enter Try.func60, Try.ntmps60
     go_wp2_with (first | ((with_reducible refine gate_dst (N := 1) rfl ?_); refine bxe 1 #[.int .i64 6, .int .i64 0, .slice (some ad0) m c] 72 ?_; intro gb hgb_ w4 hbox hb_; have n0_ := Aside0.mk (below_step HB.out hb_); have n1_ := Aside0.mk hbox; clear HB; have HB := n0_; have BK := n1_; clear n0_ n1_ hbox hb_ hgb_; obtain ⟨hcz0, hfz0, hcz1, hfz1, hcz2, hfz2⟩ := bk3 BK.out))
     go_ret
     exact ⟨_, lE, Kd.R_nil _ _ _ _ _, HB.out⟩
    ·rw [if_neg hn0] at h
     have hn0b : (n == 0) = false := beq_eq_false_iff_ne.mpr hn0
     have A2 := Aside0.mk h
     clear h
     go_enter Try.func60, Try.ntmps60
     go_upto_region 9 with (first | ((with_reducible refine gate_dst (N := 1) rfl ?_); refine bxe 1 #[.int .i64 6, .int .i64 n, .slice (some ad0) m c] 72 ?_; intro gb hgb_ w4 hbox hb_; have n0_ := Aside0.mk (below_step HB.out hb_); have n1_ := Aside0.mk hbox; clear HB; have HB := n0_; have BK := n1_; clear n0_ n1_ hbox hb_ hgb_; obtain ⟨hcz0, hfz0, hcz1, hfz1, hcz2, hfz2⟩ := bk3 BK.out))
     obtain ⟨ha0, hb0, hd0⟩ := HC0.out _ (HB0.out.trans (HB.out.mono HS.out))
     simp only [Nat.zero_mul, Nat.one_mul, Sm.add0, Sm.add3] at ha0 hb0 hd0
     go_wp2_with (first | (go_at_call 60; (with_reducible refine (HOK0.out _ _ (HB0.out.trans (HB.out.mono HS.out)) A2.out).mono ?_); rintro e w5 ⟨v5, rfl, hro_, hb_⟩; have HC5 := Aside0.mk (below_size HB.out); have n0_ := Aside0.mk (below_step HB.out hb_); have n2_ := Aside0.mk (Kd.R_bound hro_); have n3_ := Aside0.mk ((hb_.block gb (blk_lt BK.out)).trans BK.out); clear HB BK hcz0 hfz0 hcz1 hfz1 hcz2 hfz2 hb_ hro_; have HB := n0_; have HO0 := n2_; have BK := n3_; clear n0_ n2_ n3_; obtain ⟨hcz0, hfz0, hcz1, hfz1, hcz2, hfz2⟩ := bk3 BK.out; obtain ⟨Av0, cv0, ev0⟩ := Kd.R_slice HO0.out; subst ev0))
     go_ret
     exact ⟨_, lE, Kd.R_lower (Kd.R_mono HO0.out (fun _ _ => trivial)) HC5.out, HB.out⟩
   ·rw [if_neg k6] at h
    have k6b : (kd == 6) = false := beq_eq_false_iff_ne.mpr k6
    replace h := lO h; obtain ⟨b, A2, h⟩ := h
    by_cases k4 : kd = 4
    ·rw [if_pos k4] at h
     subst k4
     split at h
     case isFalse => cases h
     rename_i hbl
     have HBL := Aside0.mk hbl
     clear hbl
     have H := Aside0.mk h
     clear h
     go_enter Try.func60, Try.ntmps60
     go_upto_region 10 with (first | ((with_reducible refine gate_dst (N := 1) rfl ?_); refine bxe 1 #[.int .i64 4, .int .i64 n, .slice (some ad0) m c] 72 ?_; intro gb hgb_ w4 hbox hb_; have n0_ := Aside0.mk (below_step HB.out hb_); have n1_ := Aside0.mk hbox; clear HB; have HB := n0_; have BK := n1_; clear n0_ n1_ hbox hb_ hgb_; obtain ⟨hcz0, hfz0, hcz1, hfz1, hcz2, hfz2⟩ := bk3 BK.out))
     obtain ⟨ha0, hb0, hd0⟩ := HC0.out _ (HB0.out.trans (HB.out.mono HS.out))
     simp only [Nat.zero_mul, Nat.one_mul, Sm.add0, Sm.add3] at ha0 hb0 hd0
     go_wp2_with (first | (go_at_call 60; (with_reducible refine (HOK0.out _ _ (HB0.out.trans (HB.out.mono HS.out)) A2.out).mono ?_); rintro e w1 ⟨v5, rfl, hro_, hb_⟩; have HC5 := Aside0.mk (below_size HB.out); have n0_ := Aside0.mk (below_step HB.out hb_); have n2_ := Aside0.mk (Kd.R_bound hro_); have n3_ := Aside0.mk ((hb_.block gb (blk_lt BK.out)).trans BK.out); clear HB BK hcz0 hfz0 hcz1 hfz1 hcz2 hfz2 hb_ hro_; have HB := n0_; have HO0 := n2_; have BK := n3_; clear n0_ n2_ n3_; obtain ⟨hcz0, hfz0, hcz1, hfz1, hcz2, hfz2⟩ := bk3 BK.out; obtain ⟨Av0, cv0, ev0⟩ := Kd.R_slice HO0.out; subst ev0))
     go_loopg [4, 5, 39] (b.length + 1) (fun j v4 v5 v39 wr => ∃ (i q : Nat) (o : List Int) (ct : Bool), v39 = .int .i64 (i : Int) ∧ v5 = .bool ct ∧ j = q + 1 ∧ i + q = b.length ∧ Aside0 (o ++ Sm.left n (b.drop i) = Sm.left n b) ∧ Aside0 ((ct || Sm.caught n (b.drop i)) = Sm.caught n b) ∧ Aside0 (o.length ≤ i) ∧ Aside0 (Kd.R (Kd.int .i64) 3  wr w1.heap.size (fun _ => True) v4 o) ∧ Aside0 (Below w1.heap.size w1 wr))
     case atStart => exact ⟨0, b.length, [], false, rfl, rfl, rfl, by omega, ⟨rfl⟩, ⟨rfl⟩, ⟨Nat.le_refl _⟩, ⟨Kd.R_nil _ _ _ _ _⟩, ⟨Below.refl _ _⟩⟩
     case round =>
      clear hcz0 hfz0 hcz1 hfz1 hcz2 hfz2
      obtain ⟨i, q, o, ct, rfl, rfl, rfl, hiq, HL1, HL2, HL3, HO4, HB1⟩ := hrel
      obtain ⟨Aw, cw, ew⟩ := Kd.R_slice HO4.out
      subst ew
      have BK2 := Aside0.mk ((HB1.out.block gb (blk_lt BK.out)).trans BK.out)
      obtain ⟨hcz0, hfz0, hcz1, hfz1, hcz2, hfz2⟩ := bk3 BK2.out
      cases q with
      | zero =>
       have hd1 : decide ((i : Int) < (b.length : Int)) = false := decide_eq_false (by omega)
       have hl1 := HL1.out
       have hl2 := HL2.out
       rw [List.drop_eq_nil_of_le (by omega)] at hl1 hl2
       simp only [Sm.left, Sm.caught, List.append_nil, Bool.or_false] at hl1 hl2
       have h := H.out
       rw [← hl1, ← hl2] at h
       clear HL1 HL2 H hl1 hl2
       have n0_ := Aside0.mk (below_step HB.out HB1.out)
       have HSZ1 := Aside0.mk (below_size HB.out)
       clear HB BK
       have HB := n0_
       have BK := BK2
       clear n0_ BK2
       cases ct with
       | false =>
        rw [if_neg (by simp)] at h
        obtain rfl := Option.some.inj h
        clear h
        go_wp2
        go_ret
        exact ⟨_, lE, Kd.R_lower HO4.out HSZ1.out, HB.out⟩
       | true =>
        rw [if_pos rfl] at h
        go_upto_region 24 with (fail)
        obtain ⟨W1, hW1⟩ : ∃ W1 : Nat, W1 = wr.heap.size := ⟨_, rfl⟩
        have HOb : Aside0 (Kd.R (Kd.int .i64) 3  wr w.heap.size (fun k => k < W1) (.slice Aw o.length cw) o) := ⟨Kd.R_lower (Kd.R_mono (Kd.R_bound HO4.out) (fun k hk => hW1 ▸ hk.2.2.1)) HSZ1.out⟩
        clear HO4 HSZ1 HC5 HO0
        replace h := lO h; obtain ⟨sO, A4, h⟩ := h
        have h5 := A4.out
        unfold Sm.second at h5
        split at h5
        ·cases h5
        rename_i f1 hf1
        obtain ⟨ad1, k1_, n1_, A1, m1, c1, eA1, hm1, hc1, hok1⟩ := Sm.kid HN.out hf1
        have HOK1 := Aside0.mk hok1
        have HC1 := Aside0.mk hc1
        clear hok1 hc1
        obtain rfl : ad0 = ad1 := by injection eA1
        have hm1b : (1 < m) = True := eq_true hm1
        have hm1c : ((1 : Int) < (m : Int)) = True := eq_true (by omega)
        replace h5 := lO h5; obtain ⟨s, A3, h5⟩ := h5
        split at h5
        case isFalse => cases h5
        rename_i hsl
        obtain rfl := Option.some.inj h5
        have HP := Aside0.mk h
        clear h h5 A4 hm1 eA1
        obtain ⟨ha1, hb1, hd1⟩ := HC1.out _ (HB0.out.trans (HB.out.mono HS.out))
        simp only [Nat.zero_mul, Nat.one_mul, Sm.add0, Sm.add3] at ha1 hb1 hd1
        go_wp2_with (first | (go_at_call 60; (with_reducible refine (HOK1.out _ _ (HB0.out.trans (HB.out.mono HS.out)) A3.out).mono ?_); rintro e w2 ⟨v5, rfl, hro_, hb_⟩; have HC5 := Aside0.mk (below_size HB.out); have n0_ := Aside0.mk (below_step HB.out hb_); have n2_ := Aside0.mk (Kd.R_bound hro_); have n3_ := Aside0.mk ((hb_.block gb (blk_lt BK.out)).trans BK.out); have n9_ := Aside0.mk (Kd.R_mono (Kd.R_below HOb.out hb_) (fun k hk => (Or.inl hk : k < W1 ∨ w2.heap.size ≤ k))); clear HOb; have HOb := n9_; clear n9_; clear HB BK hcz0 hfz0 hcz1 hfz1 hcz2 hfz2 hb_ hro_; have HB := n0_; have HO1 := n2_; have BK := n3_; clear n0_ n2_ n3_; obtain ⟨hcz0, hfz0, hcz1, hfz1, hcz2, hfz2⟩ := bk3 BK.out; obtain ⟨Av1, cv1, ev1⟩ := Kd.R_slice HO1.out; subst ev1))
        have HOs : Aside0 (Kd.R (Kd.int .i64) 3  w2 w.heap.size (fun k => ¬ (k < W1 ∨ w2.heap.size ≤ k)) (.slice Av1 s.length cv1) s) := ⟨Kd.R_lower (Kd.R_mono HO1.out (fun k hk => by have := hk.2.1; have := hk.2.2.1; omega)) HC5.out⟩
        clear HO1 HC5
        go_loopg [3, 67] (s.length + 1) (fun j v3 v67 wz => ∃ (i q : Nat) (b1 : List Int), v67 = .int .i64 (i : Int) ∧ j = q + 1 ∧ i + q = s.length ∧ Aside0 (Sm.put k b1 (s.drop i) = some r) ∧ Aside0 (Kd.R (Kd.int .i64) 3  wz w.heap.size (fun k => k < W1 ∨ w2.heap.size ≤ k) v3 b1) ∧ Aside0 (Kd.R (Kd.int .i64) 3  wz w.heap.size (fun k => ¬ (k < W1 ∨ w2.heap.size ≤ k)) (.slice Av1 s.length cv1) s) ∧ Aside0 (Below w.heap.size w wz) ∧ Aside0 (w2.heap.size ≤ wz.heap.size))
        case atStart => exact ⟨0, s.length, o, rfl, rfl, by omega, HP, HOb, HOs, HB, ⟨Nat.le_refl _⟩⟩
        case round =>
         clear HOb HOs HB BK HP hcz0 hfz0 hcz1 hfz1 hcz2 hfz2
         obtain ⟨i, q, b1, rfl, rfl, hiq, HP, HOb, HOs, HB, HSZ⟩ := hrel
         obtain ⟨Aw, cw, ew⟩ := Kd.R_slice HOb.out
         subst ew
         have h := HP.out
         clear HP
         cases q with
         | zero =>
          have hd1 : decide ((i : Int) < (s.length : Int)) = false := decide_eq_false (by omega)
          rw [List.drop_eq_nil_of_le (by omega)] at h
          obtain rfl := Option.some.inj h
          clear h
          go_wp2
          go_ret
          exact ⟨_, lE, Kd.R_mono HOb.out (fun _ _ => trivial), HB.out⟩
         | succ q =>
          have hil : i < s.length := by omega
          have hd1 : decide ((i : Int) < (s.length : Int)) = true := decide_eq_true (by omega)
          rw [Sm.drop_rd hil] at h
          simp only [Sm.put] at h
          replace h := lO h; obtain ⟨b2, A5, h⟩ := h
          have HP := Aside0.mk h
          clear h
          have p70 : 0 ≤ (i : Int) := by omega
          have q70 : (i : Int) < (s.length : Int) := by omega
          obtain ⟨ad70, e70, hx70⟩ := Kd.at_int (Kd.R_reads' HOs.out).2.2 (i : Int) p70 q70
          subst e70
          rw [Int.toNat_natCast] at hx70
          replace p70 := eq_true p70
          replace q70 := eq_true q70
          go_wp2_with (first | (go_at_call 86; (with_reducible refine (spec_l1Put.calls k (fun k => k < W1 ∨ w2.heap.size ≤ k) _ b1 (rd s (i : Int)) b2 w _ HB.out HOb.out A5.out).mono ?_); rintro e w6 ⟨v6, rfl, ho, hb, hk⟩; have n0_ := Aside0.mk (Kd.R_mono ho (fun k hk2 => (hk2.elim (fun a => a) (fun a => Or.inr (Nat.le_trans HSZ.out a)) : k < W1 ∨ w2.heap.size ≤ k))); have n1_ := Aside0.mk hb; have n2_ := Aside0.mk (Kd.R_kept HOs.out hk (fun k a => a)); have n3_ := Aside0.mk (Nat.le_trans HSZ.out hk.1); clear HOb HOs HB HSZ ho hb hk hx70; have HOb := n0_; have HB := n1_; have HOs := n2_; have HSZ := n3_; clear n0_ n1_ n2_ n3_; obtain ⟨Az, cz, ez⟩ := Kd.R_slice HOb.out; subst ez))
          go_roundg (q + 1)
          case measure => omega
          case rel => exact ⟨i + 1, q, b2, by go_num, rfl, by omega, HP, HOb, HOs, HB, HSZ⟩
      | succ q =>
       have hil : i < b.length := by omega
       have hd1 : decide ((i : Int) < (b.length : Int)) = true := decide_eq_true (by omega)
       have hl1 := HL1.out
       have hl2 := HL2.out
       rw [Sm.drop_rd hil] at hl1 hl2
       simp only [Sm.left, Sm.caught] at hl1 hl2
       clear HL1 HL2
       have HO2 := Aside0.mk (Kd.R_below HO0.out HB1.out)
       have p70 : 0 ≤ (i : Int) := by omega
       have q70 : (i : Int) < (b.length : Int) := by omega
       obtain ⟨ad70, e70, hx70⟩ := Kd.at_int (Kd.R_reads' HO2.out).2.2 (i : Int) p70 q70
       subst e70
       rw [Int.toNat_natCast] at hx70
       replace p70 := eq_true p70
       replace q70 := eq_true q70
       have hbl := HBL.out
       have hil3 := HL3.out
       by_cases hn0 : n = 0
       ·subst hn0
        have hh : Sm.hit 0 (rd b (i : Int)) = true := by simp [Sm.hit]
        rw [if_pos hh] at hl1 hl2
        go_wp2
        go_roundg (q + 1)
        case measure => omega
        case rel => exact ⟨i + 1, q, o, true, by go_num, rfl, rfl, by omega, ⟨hl1⟩, ⟨by rw [← hl2]; cases ct <;> rfl⟩, ⟨by omega⟩, ⟨lR HO4.out⟩, HB1⟩
       ·have hn0b : (n == 0) = false := beq_eq_false_iff_ne.mpr hn0
        by_cases hnx : n = rd b (i : Int)
        ·have hh : Sm.hit n (rd b (i : Int)) = true := by simp [Sm.hit, hnx]
         have hnxb : (n == rd b (i : Int)) = true := beq_iff_eq.mpr hnx
         clear hnx
         rw [if_pos hh] at hl1 hl2
         go_wp2
         go_roundg (q + 1)
         case measure => omega
         case rel => exact ⟨i + 1, q, o, true, by go_num, rfl, rfl, by omega, ⟨hl1⟩, ⟨by rw [← hl2]; cases ct <;> rfl⟩, ⟨by omega⟩, ⟨lR HO4.out⟩, HB1⟩
        ·have hh : ¬ Sm.hit n (rd b (i : Int)) = true := by simp [Sm.hit, hn0, hnx]
         have hnxb : (n == rd b (i : Int)) = false := beq_eq_false_iff_ne.mpr hnx
         rw [if_neg hh] at hl1 hl2
         go_wp2_with (first | ((with_reducible refine gate_builtin (b := .append) (xs := #[.tmp 52, .tmp 54]) rfl ?_); at_builtin; refine Kd.R_append (Kd.int .i64) (w0 := w1) w1.heap.size rfl (.tmp 52) (.tmp 54) 45 3 (.int .i64 0) 8 rfl Try.underlying45 Sm.info3 rfl (by decide) (by omega) (.slice Aw o.length cw) o (rd b (i : Int)) [.int .i64 (rd b (i : Int))] (fun _ => True) (fun _ => False) rfl (by first | (go_simp; done) | (go_simp; rfl)) ?aP (fun _ hk => hk.elim) (fun _ _ => trivial) ?aO ?aB ?aS ?aL ?_; (case aP => exact rfl); (case aO => exact HO4.out); (case aB => exact HB1.out); (case aS => exact HB1.out.size); (case aL => omega); intro v6 w6 ho hb hg hat; clear HO4 HB1 hg hat BK2 HO2 hx70 hcz0 hfz0 hcz1 hfz1 hcz2 hfz2; have HO4 := Aside0.mk ho; have HB1 := Aside0.mk hb; clear ho hb; obtain ⟨Ap, cp, ep⟩ := Kd.R_slice HO4.out; subst ep))
         have HO4' : Aside0 (Kd.R (Kd.int .i64) 3 w6 w1.heap.size (fun _ => True) (.slice Ap (o.length + 1) cp) (o ++ [rd b (i : Int)])) := ⟨by have h_ := HO4.out; rw [List.length_append] at h_; exact h_⟩
         go_roundg (q + 1)
         case measure => omega
         case rel => exact ⟨i + 1, q, o ++ [rd b (i : Int)], ct, by go_num, rfl, rfl, by omega, ⟨by rw [← hl1]; simp⟩, ⟨hl2⟩, ⟨by simp; omega⟩, HO4', HB1⟩
    ·rw [if_neg k4] at h
     have k4b : (kd == 4) = false := beq_eq_false_iff_ne.mpr k4
     go_enter Try.func60, Try.ntmps60
     go_upto_region 10 with (first | ((with_reducible refine gate_dst (N := 1) rfl ?_); refine bxe 1 #[.int .i64 kd, .int .i64 n, .slice (some ad0) m c] 72 ?_; intro gb hgb_ w4 hbox hb_; have n0_ := Aside0.mk (below_step HB.out hb_); have n1_ := Aside0.mk hbox; clear HB; have HB := n0_; have BK := n1_; clear n0_ n1_ hbox hb_ hgb_; obtain ⟨hcz0, hfz0, hcz1, hfz1, hcz2, hfz2⟩ := bk3 BK.out))
     obtain ⟨ha0, hb0, hd0⟩ := HC0.out _ (HB0.out.trans (HB.out.mono HS.out))
     simp only [Nat.zero_mul, Nat.one_mul, Sm.add0, Sm.add3] at ha0 hb0 hd0
     go_upto_region 24 with (first | (go_at_call 60; (with_reducible refine (HOK0.out _ _ (HB0.out.trans (HB.out.mono HS.out)) A2.out).mono ?_); rintro e w1 ⟨v5, rfl, hro_, hb_⟩; have HC5 := Aside0.mk (below_size HB.out); have n0_ := Aside0.mk (below_step HB.out hb_); have n2_ := Aside0.mk (Kd.R_bound hro_); have n3_ := Aside0.mk ((hb_.block gb (blk_lt BK.out)).trans BK.out); clear HB BK hcz0 hfz0 hcz1 hfz1 hcz2 hfz2 hb_ hro_; have HB := n0_; have HO0 := n2_; have BK := n3_; clear n0_ n2_ n3_; obtain ⟨hcz0, hfz0, hcz1, hfz1, hcz2, hfz2⟩ := bk3 BK.out; obtain ⟨Av0, cv0, ev0⟩ := Kd.R_slice HO0.out; subst ev0))
     obtain ⟨W1, hW1⟩ : ∃ W1 : Nat, W1 = w1.heap.size := ⟨_, rfl⟩
     have HOb : Aside0 (Kd.R (Kd.int .i64) 3  w1 w.heap.size (fun k => k < W1) (.slice Av0 b.length cv0) b) := ⟨Kd.R_lower (Kd.R_mono HO0.out (fun k hk => hW1 ▸ hk.2.2.1)) HC5.out⟩
     clear HO0 HC5
     replace h := lO h; obtain ⟨sO, A4, h⟩ := h
     have h5 := A4.out
     unfold Sm.second at h5
     split at h5
     ·cases h5
     rename_i f1 hf1
     obtain ⟨ad1, k1_, n1_, A1, m1, c1, eA1, hm1, hc1, hok1⟩ := Sm.kid HN.out hf1
     have HOK1 := Aside0.mk hok1
     have HC1 := Aside0.mk hc1
     clear hok1 hc1
     obtain rfl : ad0 = ad1 := by injection eA1
     have hm1b : (1 < m) = True := eq_true hm1
     have hm1c : ((1 : Int) < (m : Int)) = True := eq_true (by omega)
     replace h5 := lO h5; obtain ⟨s, A3, h5⟩ := h5
     split at h5
     case isFalse => cases h5
     rename_i hsl
     obtain rfl := Option.some.inj h5
     have HP := Aside0.mk h
     clear h h5 A4 hm1 eA1
     obtain ⟨ha1, hb1, hd1⟩ := HC1.out _ (HB0.out.trans (HB.out.mono HS.out))
     simp only [Nat.zero_mul, Nat.one_mul, Sm.add0, Sm.add3] at ha1 hb1 hd1
     go_wp2_with (first | (go_at_call 60; (with_reducible refine (HOK1.out _ _ (HB0.out.trans (HB.out.mono HS.out)) A3.out).mono ?_); rintro e w2 ⟨v5, rfl, hro_, hb_⟩; have HC5 := Aside0.mk (below_size HB.out); have n0_ := Aside0.mk (below_step HB.out hb_); have n2_ := Aside0.mk (Kd.R_bound hro_); have n3_ := Aside0.mk ((hb_.block gb (blk_lt BK.out)).trans BK.out); have n9_ := Aside0.mk (Kd.R_mono (Kd.R_below HOb.out hb_) (fun k hk => (Or.inl hk : k < W1 ∨ w2.heap.size ≤ k))); clear HOb; have HOb := n9_; clear n9_; clear HB BK hcz0 hfz0 hcz1 hfz1 hcz2 hfz2 hb_ hro_; have HB := n0_; have HO1 := n2_; have BK := n3_; clear n0_ n2_ n3_; obtain ⟨hcz0, hfz0, hcz1, hfz1, hcz2, hfz2⟩ := bk3 BK.out; obtain ⟨Av1, cv1, ev1⟩ := Kd.R_slice HO1.out; subst ev1))
     have HOs : Aside0 (Kd.R (Kd.int .i64) 3  w2 w.heap.size (fun k => ¬ (k < W1 ∨ w2.heap.size ≤ k)) (.slice Av1 s.length cv1) s) := ⟨Kd.R_lower (Kd.R_mono HO1.out (fun k hk => by have := hk.2.1; have := hk.2.2.1; omega)) HC5.out⟩
     clear HO1 HC5
     go_loopg [3, 67] (s.length + 1) (fun j v3 v67 wz => ∃ (i q : Nat) (b1 : List Int), v67 = .int .i64 (i : Int) ∧ j = q + 1 ∧ i + q = s.length ∧ Aside0 (Sm.put k b1 (s.drop i) = some r) ∧ Aside0 (Kd.R (Kd.int .i64) 3  wz w.heap.size (fun k => k < W1 ∨ w2.heap.size ≤ k) v3 b1) ∧ Aside0 (Kd.R (Kd.int .i64) 3  wz w.heap.size (fun k => ¬ (k < W1 ∨ w2.heap.size ≤ k)) (.slice Av1 s.length cv1) s) ∧ Aside0 (Below w.heap.size w wz) ∧ Aside0 (w2.heap.size ≤ wz.heap.size))
     case atStart => exact ⟨0, s.length, b, rfl, rfl, by omega, HP, HOb, HOs, HB, ⟨Nat.le_refl _⟩⟩
     case round =>
      clear HOb HOs HB BK HP hcz0 hfz0 hcz1 hfz1 hcz2 hfz2
      obtain ⟨i, q, b1, rfl, rfl, hiq, HP, HOb, HOs, HB, HSZ⟩ := hrel
      obtain ⟨Aw, cw, ew⟩ := Kd.R_slice HOb.out
      subst ew
      have h := HP.out
      clear HP
      cases q with
      | zero =>
       have hd1 : decide ((i : Int) < (s.length : Int)) = false := decide_eq_false (by omega)
       rw [List.drop_eq_nil_of_le (by omega)] at h
       obtain rfl := Option.some.inj h
       clear h
       go_wp2
       go_ret
       exact ⟨_, lE, Kd.R_mono HOb.out (fun _ _ => trivial), HB.out⟩
      | succ q =>
       have hil : i < s.length := by omega
       have hd1 : decide ((i : Int) < (s.length : Int)) = true := decide_eq_true (by omega)
       rw [Sm.drop_rd hil] at h
       simp only [Sm.put] at h
       replace h := lO h; obtain ⟨b2, A5, h⟩ := h
       have HP := Aside0.mk h
       clear h
       have p70 : 0 ≤ (i : Int) := by omega
       have q70 : (i : Int) < (s.length : Int) := by omega
       obtain ⟨ad70, e70, hx70⟩ := Kd.at_int (Kd.R_reads' HOs.out).2.2 (i : Int) p70 q70
       subst e70
       rw [Int.toNat_natCast] at hx70
       replace p70 := eq_true p70
       replace q70 := eq_true q70
       go_wp2_with (first | (go_at_call 86; (with_reducible refine (spec_l1Put.calls k (fun k => k < W1 ∨ w2.heap.size ≤ k) _ b1 (rd s (i : Int)) b2 w _ HB.out HOb.out A5.out).mono ?_); rintro e w6 ⟨v6, rfl, ho, hb, hk⟩; have n0_ := Aside0.mk (Kd.R_mono ho (fun k hk2 => (hk2.elim (fun a => a) (fun a => Or.inr (Nat.le_trans HSZ.out a)) : k < W1 ∨ w2.heap.size ≤ k))); have n1_ := Aside0.mk hb; have n2_ := Aside0.mk (Kd.R_kept HOs.out hk (fun k a => a)); have n3_ := Aside0.mk (Nat.le_trans HSZ.out hk.1); clear HOb HOs HB HSZ ho hb hk hx70; have HOb := n0_; have HB := n1_; have HOs := n2_; have HSZ := n3_; clear n0_ n1_ n2_ n3_; obtain ⟨Az, cz, ez⟩ := Kd.R_slice HOb.out; subst ez))
       go_roundg (q + 1)
       case measure => omega
       case rel => exact ⟨i + 1, q, b2, by go_num, rfl, by omega, HP, HOb, HOs, HB, HSZ⟩
def spec_l16May.f (k : Nat) (t : S72) : Option (List Int) := Sm.may k t
theorem Sm.put_mono (k : Nat) : ∀ (s b : List Int), LeO (Sm.put k b s) (Sm.put (k + 1) b s)
  | [], b => LeO.refl _
  | x :: xs, b => LeO.bind (spec_l1Put.mono _ _ _) (fun q => Sm.put_mono k xs q)
/-- Piece by piece no less is told. -/
def Sm.Les (fs gs : List Sm.F) : Prop := ∀ (i : Nat) (f : Sm.F), fs[i]? = some f → ∃ g : Sm.F, gs[i]? = some g ∧ LeO f g
theorem Sm.second_mono {fs gs : List Sm.F} (h : Sm.Les fs gs) : LeO (Sm.second fs) (Sm.second gs) := by
  intro r hr
  unfold Sm.second at hr ⊢
  split at hr
  · cases hr
  · rename_i f hf
    obtain ⟨g, hg, hl⟩ := h 1 f hf
    rw [hg]
    exact LeO.bind hl (fun _ => LeO.refl _) r hr
theorem Sm.node_mono (k : Nat) (kd n : Int) {fs gs : List Sm.F} (h : Sm.Les fs gs) : LeO (Sm.node k kd n fs) (Sm.node (k + 1) kd n gs) := by
  intro r hr
  unfold Sm.node at hr ⊢
  by_cases k1 : kd = 1
  · rw [if_pos k1] at hr ⊢; exact hr
  rw [if_neg k1] at hr ⊢
  by_cases k2 : kd = 2
  · rw [if_pos k2] at hr ⊢; exact hr
  rw [if_neg k2] at hr ⊢
  split at hr
  · cases hr
  · rename_i f hf
    obtain ⟨g, hg, hl⟩ := h 0 f hf
    rw [hg]
    simp only
    by_cases k6 : kd = 6
    · rw [if_pos k6] at hr ⊢
      by_cases hn : n = 0
      · rw [if_pos hn] at hr ⊢; exact hr
      · rw [if_neg hn] at hr ⊢; exact hl r hr
    · rw [if_neg k6] at hr ⊢
      refine LeO.bind hl (fun b => ?_) r hr
      by_cases k4 : kd = 4
      · rw [if_pos k4, if_pos k4]
        split
        · split
          · exact LeO.bind (Sm.second_mono h) (fun s => Sm.put_mono k s _)
          · exact LeO.refl _
        · exact LeO.refl _
      · rw [if_neg k4, if_neg k4]
        exact LeO.bind (Sm.second_mono h) (fun s => Sm.put_mono k s b)
mutual
theorem Sm.may_mono (k : Nat) : ∀ t : S72, LeO (Sm.may k t) (Sm.may (k + 1) t)
  | ⟨kd, n, ts⟩ => by unfold Sm.may; exact Sm.node_mono k kd n (Sm.mays_mono k ts)
theorem Sm.mays_mono (k : Nat) : ∀ ts : List S72, Sm.Les (Sm.mays k ts) (Sm.mays (k + 1) ts)
  | [] => fun i f hf => by simp [Sm.mays] at hf
  | t :: ts => by
    intro i f hf
    unfold Sm.mays at hf ⊢
    cases i with
    | zero =>
      simp only [List.getElem?_cons_zero, Option.some.injEq] at hf ⊢
      subst hf
      exact ⟨_, rfl, Sm.may_mono k t⟩
    | succ i =>
      simp only [List.getElem?_cons_succ] at hf ⊢
      exact Sm.mays_mono k ts i f hf
end
theorem spec_l16May.mono : ∀ a0 k, LeO (spec_l16May.f k a0) (spec_l16May.f (k + 1) a0) := fun t k => Sm.may_mono k t
theorem spec_l16May.calls (k : Nat) : ∀ (t : S72) (w0 : World) (A : Option Addr) (c : Nat), Kd.C k72 w0 A t.f2.length t.f2 → Sm.Ok w0 (Sm.may k t) t.f0 t.f1 A t.f2.length c := by
 intro t
 induction hN : SizeOf.sizeOf t using Nat.strongRecOn generalizing t with
 | _ N ih =>
 subst hN
 intro w0 A c h
 obtain ⟨kd, n, ks⟩ := t
 have e : Sm.may k ⟨kd, n, ks⟩ = Sm.node k kd n (Sm.mays k ks) := by unfold Sm.may; rfl
 rw [e]
 simp only at h ⊢
 refine Sm.node_ok k ⟨fun i f hf => ?_⟩
 obtain ⟨t, ht, rfl⟩ := Sm.mays_at k ks i f hf
 have hil : i < ks.length := by
  by_cases hl : i < ks.length
  ·exact hl
  ·rw [List.getElem?_eq_none (by omega)] at ht; cases ht
 obtain ⟨ad, A2, c2, e1, h1, h2, h3, h4, h5⟩ := at_T72 h (i : Int) (by omega) (by omega)
 have e2 : rd_T72 ks (i : Int) = t := by unfold rd_T72; rw [Int.toNat_natCast, List.getD, ht]; rfl
 rw [e2, Int.toNat_natCast] at h1 h2 h3
 rw [e2] at h4 h5
 refine ⟨hil, ad, t.f0, t.f1, A2, t.f2.length, c2, e1, h1, h2, h3, ih (SizeOf.sizeOf t) ?_ t rfl w0 A2 c2 h5⟩
 have hm : t ∈ ks := List.mem_of_getElem? ht
 have := List.sizeOf_lt_of_mem hm
 simp
 omega


/-! ### spec_MayRaise: function 24 -/
def spec_MayRaise.f (k : Nat) (l : List S76) : Option (List Int × Bool) := (spec_l16Tree.f k l).bind fun b => if b.2.2.2 = true then (Sm.may k ⟨b.1, b.2.1, b.2.2.1⟩).bind fun q => some (q, true) else some ([], false)
theorem spec_MayRaise.mono : ∀ a0 k, LeO (spec_MayRaise.f k a0) (spec_MayRaise.f (k + 1) a0) := by
 intro a0 k
 unfold spec_MayRaise.f
 refine LeO.bind (spec_l16Tree.mono _ _) (fun b => ?_)
 split
 ·exact LeO.bind (Sm.may_mono k _) (fun _ => LeO.refl _)
 ·exact LeO.refl _
set_option maxHeartbeats 8000000 in
set_option maxRecDepth 100000 in
theorem spec_MayRaise.calls (k : Nat) (A0 : Option Addr) (c0 : Nat) (l0 : List S76) (r1 : List Int) (r2 : Bool) (w : World) (hr0 : Kd.C k76 w A0 l0.length l0) (hc0 : l0.length ≤ c0) (h : spec_MayRaise.f k l0 = some (r1, r2)) :
  Calls Try.prog 24 #[.slice A0 l0.length c0] w fun e w' => ∃ v0_ : Value, e = .returned (.tuple #[v0_, .bool r2]) ∧ Kd.R (Kd.int .i64) 3 w' w.heap.size (fun _ => True) v0_ r1 ∧ Below w.heap.size w w' := by
 unfold spec_MayRaise.f at h
 have hu72 := Try.underlying72
 have HR0 := Aside0.mk hr0
 have HC0 := Aside0.mk hc0
 have HB := Aside0.mk (Below.refl w.heap.size w)
 clear hr0 hc0
 replace h := lO h
 obtain ⟨⟨tk, tn, ts, tb⟩, A1, h⟩ := h
 simp only at h
 cases tb with
 | false =>
  rw [if_neg (by simp)] at h
  simp only [Option.some.injEq, Prod.mk.injEq] at h
  obtain ⟨rfl, rfl⟩ := h
  go_enter Try.func24, Try.ntmps24
  go_wp2_with (first | (go_at_call 44; (with_reducible refine (spec_l16Tree.calls k _ _ l0 tk tn ts false _ (lC HR0.out) HC0.out A1.out).mono ?_); rintro e w5 ⟨v5, rfl, ho, hb⟩; have n0_ := Aside0.mk (below_step lB hb); have n1_ := Aside0.mk ho; clear HB; have HB := n0_; have HO := n1_; clear n0_ n1_ hb ho; obtain ⟨Av, cv, ev⟩ := Kd.R_slice HO.out; subst ev) | ((with_reducible refine gate_dst (N := 4) rfl ?_); refine bxe 4 #[.int .i64 0, .int .i64 0, .slice none 0 0] 72 ?_; intro gb hg w7 hbox hb; have n0_ := Aside0.mk (below_step lB hb); have n1_ := Aside0.mk hbox; have n2_ := lG w hg; clear HB; have HB := n0_; have BK := n1_; have GE := n2_; clear n0_ n1_ n2_ hg hbox hb; obtain ⟨hcz0, hfz0, hcz1, hfz1, hcz2, hfz2⟩ := bk3 BK.out))
  refine bodyPost_ret (results_list (rs := [.tmp 2, .tmp 3]) rfl (by simp) (.tmp (.tmp .nil))) rfl ?_
  exact ⟨_, lE, Kd.R_nil _ _ _ _ _, lB⟩
 | true =>
  rw [if_pos rfl] at h
  replace h := lO h
  obtain ⟨qs, A2, h⟩ := h
  simp only [Option.some.injEq, Prod.mk.injEq] at h
  obtain ⟨rfl, rfl⟩ := h
  go_enter Try.func24, Try.ntmps24
  go_upto_region 4 with (first | (go_at_call 44; (with_reducible refine (spec_l16Tree.calls k _ _ l0 tk tn ts true _ (lC HR0.out) HC0.out A1.out).mono ?_); rintro e w5 ⟨v5, rfl, ho, hb⟩; have n0_ := Aside0.mk (below_step lB hb); have n1_ := Aside0.mk ho; clear HB; have HB := n0_; have HO := n1_; clear n0_ n1_ hb ho; obtain ⟨Av, cv, ev⟩ := Kd.R_slice HO.out; subst ev) | ((with_reducible refine gate_dst (N := 4) rfl ?_); refine bxe 4 #[.int .i64 0, .int .i64 0, .slice none 0 0] 72 ?_; intro gb hg w7 hbox hb; have n0_ := Aside0.mk (below_step lB hb); have n1_ := Aside0.mk hbox; have n2_ := lG w hg; have n3_ := Aside0.mk (Kd.R_below HO.out hb); have n4_ : Aside0 (Kd.R k72 72 w7 w.heap.size (fun k => True ∧ k ≠ gb) (.slice Av ts.length cv) ts) := ⟨Kd.R_mono (Kd.R_below (Kd.R_bound HO.out) hb) (fun k hk => ⟨trivial, by have := hk.2.2.1; omega⟩)⟩; clear HB HO; have HB := n0_; have BK := n1_; have GE := n2_; have HO := n3_; have HOE := n4_; clear n4_; clear n0_ n1_ n2_ n3_ hg hbox hb; obtain ⟨hcz0, hfz0, hcz1, hfz1, hcz2, hfz2⟩ := bk3 BK.out))
  have n0_ : Aside0 ((((w7.setCell ⟨gb, 0, none⟩ (.int .i64 tk)).setCell ⟨gb, 1, none⟩ (.int .i64 tn)).setCell ⟨gb, 2, none⟩ (.slice Av ts.length cv)).heap[gb]? = some (.cells #[.int .i64 tk, .int .i64 tn, .slice Av ts.length cv] 72 (0, 0))) := ⟨blk_put (cs := #[.int .i64 tk, .int .i64 tn, .slice none 0 0]) (blk_put (cs := #[.int .i64 tk, .int .i64 0, .slice none 0 0]) (blk_put (cs := #[.int .i64 0, .int .i64 0, .slice none 0 0]) BK.out 0 _ rfl) 1 _ rfl) 2 _ rfl⟩
  have n1_ : Aside0 (Kd.R k72 72 (((w7.setCell ⟨gb, 0, none⟩ (.int .i64 tk)).setCell ⟨gb, 1, none⟩ (.int .i64 tn)).setCell ⟨gb, 2, none⟩ (.slice Av ts.length cv)) w.heap.size (fun k => True ∧ k ≠ gb) (.slice Av ts.length cv) ts) := ⟨Kd.R_far (p := ⟨gb, 2, none⟩) (Kd.R_far (p := ⟨gb, 1, none⟩) (Kd.R_far (p := ⟨gb, 0, none⟩) (HOE.out) (fun _ hk => hk.2) _) (fun _ hk => hk.2) _) (fun _ hk => hk.2) _⟩
  have n2_ : Aside0 (Below w.heap.size w (((w7.setCell ⟨gb, 0, none⟩ (.int .i64 tk)).setCell ⟨gb, 1, none⟩ (.int .i64 tn)).setCell ⟨gb, 2, none⟩ (.slice Av ts.length cv))) := ⟨below_set (below_set (below_set HB.out GE.out) GE.out) GE.out⟩
  clear BK HO HOE HB hcz0 hfz0 hcz1 hfz1 hcz2 hfz2
  generalize ((w7.setCell ⟨gb, 0, none⟩ (.int .i64 tk)).setCell ⟨gb, 1, none⟩ (.int .i64 tn)).setCell ⟨gb, 2, none⟩ (.slice Av ts.length cv) = w8 at n0_ n1_ n2_ ⊢
  have BK := n0_
  have HO := n1_
  have HB := n2_
  clear n0_ n1_ n2_
  obtain ⟨hcz0, hfz0, hcz1, hfz1, hcz2, hfz2⟩ := bk3 BK.out
  have hOk := spec_l16May.calls k ⟨tk, tn, ts⟩ w8 Av cv (Kd.R_reads' HO.out).2.2
  have HOK := Aside0.mk (hOk w8 _ (Below.refl _ _) A2.out)
  clear hOk
  have HSZ := Aside0.mk (below_size HB.out)
  go_wp2_with (first | (go_at_call 60; (with_reducible refine HOK.out.mono ?_); rintro e w9 ⟨v9, rfl, hro, hgr⟩; have n0_ := Aside0.mk (below_step HB.out hgr); have n1_ := Aside0.mk (Kd.R_lower hro HSZ.out); clear HB hro hgr; have HB := n0_; have HO9 := n1_; clear n0_ n1_; obtain ⟨A9, c9, e9⟩ := Kd.R_slice HO9.out; subst e9))
  refine bodyPost_ret (results_list (rs := [.tmp 2, .tmp 3]) rfl (by simp) (.tmp (.tmp .nil))) rfl ?_
  exact ⟨_, lE, HO9.out, lB⟩


/-! ### impl_in: function 58 -/
def impl_in.f (a0 : Int) (a1 : Int) (a2 : Int) : Option (Bool) := if a0 ≥ a1 then (some (decide (a0 ≤ a2))) else (some false)
set_option maxHeartbeats 8000000 in
set_option maxRecDepth 100000 in
theorem impl_in.calls (a0 : Int) (a1 : Int) (a2 : Int) (r : Bool) (w : World) (h : impl_in.f a0 a1 a2 = some r) :
  Calls Try.prog 58 #[.int .i64 a0, .int .i64 a1, .int .i64 a2] w fun e w' => e = .returned (.bool r) ∧ Drawn0 w w' := by
 have H : (if a0 ≥ a1 then (some (decide (a0 ≤ a2))) else (some false)) = some r := h
 clear h
 by_cases c4 : a0 ≥ a1
 ·rw [if_pos c4] at H
  have c4b0 : decide (a1 ≤ a0) = true := decide_eq_true c4
  clear c4
  obtain rfl := Option.some.inj H
  go_enter Try.func58, Try.ntmps58
  first | (go_wp2; go_ret; exact ⟨by first | rfl | (simp; done) | (simp [*]; done), by repeat (first | exact Drawn0.refl _ | apply Drawn0.step)⟩) | (exfalso; simp only [decide_eq_false_iff_not, decide_eq_true_eq] at *; omega)
 ·rw [if_neg c4] at H
  have c4b0 : decide (a1 ≤ a0) = false := decide_eq_false c4
  clear c4
  obtain rfl := Option.some.inj H
  go_enter Try.func58, Try.ntmps58
  first | (go_wp2; go_ret; exact ⟨by first | rfl | (simp; done) | (simp [*]; done), by repeat (first | exact Drawn0.refl _ | apply Drawn0.step)⟩) | (exfalso; simp only [decide_eq_false_iff_not, decide_eq_true_eq] at *; omega)

end Go.Proofs.Ytgjojppbichaiaa.Q
