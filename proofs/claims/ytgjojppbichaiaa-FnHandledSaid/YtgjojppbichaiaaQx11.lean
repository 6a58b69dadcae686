-- Written by the program wip/tools/pr.py of this claim's session, over the kit's print.py.
import Derived.Test.YtgjojppbichaiaaQx0
import Derived.Test.YtgjojppbichaiaaQx3
import Derived.Test.YtgjojppbichaiaaQx4
import Derived.Test.YtgjojppbichaiaaQx10
namespace Go.Proofs.Ytgjojppbichaiaa.Q
open Go.RowKit Go.Proofs.YtgjojppbichaiaaW.PrintWords Go.Proofs.YtgjojppbichaiaaW.PrintLast Go.Proofs.YtgjojppbichaiaaW.PrintMore
attribute [local go_sem] max2_int min2_int max_two min_two max_three min_three max_four min_four   -- for this text's walks alone
set_option linter.unusedVariables false
set_option linter.unusedSimpArgs false
theorem arr64_9_build {ops : Array Oper} {rest : List Oper} {o : Oper} {a : Act} {w : World} {Q : Exit → Act → World → Prop} (hg : o.guard = none) (ho : o.op = .build 136 #[]) (h : wpList Try.prog ops Q rest (a.put o.dst (.agg (List.replicate 40 (Value.int .i64 0)).toArray)) w) : wpList Try.prog ops Q (o :: rest) a w := by
 have hz : Try.prog.built 136 ((#[] : Array (Nat × Operand)).map fun (i, x) => (i, a.eval x)).toList = some (List.replicate 40 (Value.int .i64 0)).toArray := by
  simp only [Array.map_empty, List.map_toArray, List.map_nil]; kernel_rfl
 exact wpList_build hg 136 #[] ho (by rw [hz]; rfl) (by rw [hz]; exact h)
mutual
def impl_runLined.l0 : Nat → Int → List Int → List Int → Int → Int → List (S86) → List (S63) → Option (List Int × Int × Int × Bool)
  | 0, _, _, _, _, _, _, _ => none
  | k + 1, x1, x8, x9, x10, x11, x193000, x193001 => if x10 < (x193000.length : Int) then (if x11 = x1 then (some (([] : List Int), 0, 0, false)) else (if 0 ≤ x10 then (if ((rd_T86 x193000 x10).f0) = 1 then (if x8.length < 17592186044416 then ((some (x8 ++ [(rd_T86 x193000 x10).f1] : List Int)).bind fun y201 => (if (y201.length : Int) > 200 then (some (([] : List Int), 0, 0, false)) else (impl_runLined.j1 k x1 y201 x9 x10 (wrap64 (x11 + 1)) 0 (wrap64 (x10 + 1)) x193000 x193001))) else (none)) else (if ((rd_T86 x193000 x10).f0) = 2 then (impl_runLined.j1 k x1 x8 x9 x10 (wrap64 (x11 + 1)) ((rd_T86 x193000 x10).f1) (wrap64 (x10 + 1)) x193000 x193001) else (if ((rd_T86 x193000 x10).f0) = 3 then (if 0 ≤ ((rd_T86 x193000 x10).f1) then (if ((rd_T86 x193000 x10).f1) < (x9.length : Int) then (impl_runLined.j1 k x1 x8 x9 x10 (wrap64 (x11 + 1)) (rd x9 ((rd_T86 x193000 x10).f1)) (wrap64 (x10 + 1)) x193000 x193001) else (none)) else (none)) else (if ((rd_T86 x193000 x10).f0) = 4 then (impl_runLined.j1 k x1 x8 x9 x10 (wrap64 (x11 + 1)) 0 ((rd_T86 x193000 x10).f2) x193000 x193001) else (if ((rd_T86 x193000 x10).f0) = 5 then (if 0 ≤ ((rd_T86 x193000 x10).f1) then (if ((rd_T86 x193000 x10).f1) < (x9.length : Int) then (impl_runLined.j1 k x1 x8 (x9.set (((rd_T86 x193000 x10).f1) : Int).toNat 0) x10 (wrap64 (x11 + 1)) 0 (wrap64 (x10 + 1)) x193000 x193001) else (none)) else (none)) else (if ((rd_T86 x193000 x10).f0) = 6 then (if 0 ≤ ((rd_T86 x193000 x10).f1) then (if ((rd_T86 x193000 x10).f1) < (x9.length : Int) then (if (rd x9 ((rd_T86 x193000 x10).f1)) = ((rd_T86 x193000 x10).f2) then (impl_runLined.j1 k x1 x8 x9 x10 (wrap64 (x11 + 1)) 0 (wrap64 (x10 + 1)) x193000 x193001) else (impl_runLined.j1 k x1 x8 (x9.set (((rd_T86 x193000 x10).f1) : Int).toNat (wrap64 ((rd x9 ((rd_T86 x193000 x10).f1)) + 1))) x10 (wrap64 (x11 + 1)) 0 (wrap64 ((wrap64 (x10 + 1)) + 1)) x193000 x193001)) else (none)) else (none)) else (impl_runLined.j1 k x1 x8 x9 x10 (wrap64 (x11 + 1)) 0 (wrap64 (x10 + 1)) x193000 x193001))))))) else (none))) else (some (x8, 0, x11, true))
def impl_runLined.j1 : Nat → Int → List Int → List Int → Int → Int → Int → Int → List (S86) → List (S63) → Option (List Int × Int × Int × Bool)
  | 0, _, _, _, _, _, _, _, _, _ => none
  | k + 1, x1, x8, x9, x10, x11, x13, x14, x193000, x193001 => if x13 = 0 then (impl_runLined.l0 k x1 x8 x9 x14 x11 x193000 x193001) else ((impl_guardAt.f x193000 x193001 x10 x13).bind fun t209 => (if t209 < 0 then (some (x8, x13, x11, true)) else (if 0 ≤ t209 then (if t209 < (x9.length : Int) then (if t209 < (x193001.length : Int) then (impl_runLined.l0 k x1 x8 (x9.set (t209 : Int).toNat x13) ((rd_T63 x193001 t209).f3) x11 x193000 x193001) else (none)) else (none)) else (none))))
end
def impl_runLined.f (k : Nat) (l0_0 : List (S86)) (l0_1 : List (S63)) (a1 : Int) : Option (List Int × Int × Int × Bool) := if 40 ≤ 35184372088832 then (impl_runLined.l0 k a1 (([] : List Int)) (List.replicate 40 0) 0 0 l0_0 l0_1) else (none)
set_option maxHeartbeats 8000000 in
set_option maxRecDepth 100000 in
theorem impl_runLined.calls (k : Nat) (A0_0 : Option Addr) (c0_0 : Nat) (l0_0 : List (S86)) (A0_1 : Option Addr) (c0_1 : Nat) (l0_1 : List (S63)) (a1 : Int) (r1 : List Int) (r2 : Int) (r3 : Int) (r4 : Bool) (w : World) (hr0_0 : Kd.C k86 w A0_0 l0_0.length l0_0) (hc0_0 : l0_0.length ≤ c0_0) (hr0_1 : Kd.C k63 w A0_1 l0_1.length l0_1) (hc0_1 : l0_1.length ≤ c0_1) (h : impl_runLined.f k l0_0 l0_1 a1 = some (r1, r2, r3, r4)) :
    Calls Try.prog 64 #[.agg #[.slice A0_0 l0_0.length c0_0, .slice A0_1 l0_1.length c0_1], .int .i64 a1] w fun e w' => ∃ v0_ : Value, e = .returned (.tuple #[v0_, .int .i64 r2, .int .i64 r3, .bool r4]) ∧ Kd.R (Kd.int .i64) 3 w' w.heap.size (fun _ => True) v0_ r1 ∧ Below w.heap.size w w' := by
  have hu38 := Try.underlying38
  have hu86 := Try.underlying86
  have HR0_0 := Aside0.mk hr0_0
  have HC0_0 := Aside0.mk hc0_0
  clear hr0_0 hc0_0
  have HR0_1 := Aside0.mk hr0_1
  have HC0_1 := Aside0.mk hc0_1
  clear hr0_1 hc0_1
  have HB := Aside0.mk (Below.refl w.heap.size w)
  have H : (if 40 ≤ 35184372088832 then (impl_runLined.l0 k a1 (([] : List Int)) (List.replicate 40 0) 0 0 l0_0 l0_1) else (none)) = some (r1, r2, r3, r4) := h
  clear h
  obtain ⟨y193, hy193⟩ : ∃ y_ : List Int, y_ = (([] : List Int)) := ⟨_, rfl⟩
  replace H : (if 40 ≤ 35184372088832 then (impl_runLined.l0 k a1 y193 (List.replicate 40 0) 0 0 l0_0 l0_1) else (none)) = some (r1, r2, r3, r4) := by first | (rw [hy193]; with_reducible exact H) | (have H2_ := (Option.bind_some _ _).symm.trans H; rw [hy193]; with_reducible exact H2_) | (have H2_ := (Option.bind_some _ _).symm.trans H; with_reducible exact H2_) | with_reducible exact H | (rw [hy193]; exact H) | exact H
  have Ny193 := Aside0.mk hy193
  clear hy193
  by_cases c3 : 40 ≤ 35184372088832
  · rw [if_pos c3] at H
    have c3b0 := eq_true c3
    have c3b1 : decide (40 ≤ 35184372088832) = true := decide_eq_true c3
    clear c3
    obtain ⟨y196, hy196⟩ : ∃ y_ : List Int, y_ = (List.replicate 40 0) := ⟨_, rfl⟩
    replace H : (impl_runLined.l0 k a1 y193 y196 0 0 l0_0 l0_1) = some (r1, r2, r3, r4) := by first | (rw [hy196]; with_reducible exact H) | (have H2_ := (Option.bind_some _ _).symm.trans H; rw [hy196]; with_reducible exact H2_) | (have H2_ := (Option.bind_some _ _).symm.trans H; with_reducible exact H2_) | with_reducible exact H | (rw [hy196]; exact H) | exact H
    have Ny196 := Aside0.mk hy196
    clear hy196
    have H' := Aside0.mk H
    clear H
    go_enter Try.func64, Try.ntmps64
    go_wp2_with (first | ((with_reducible refine gate_dst (N := 2) rfl ?_); refine bxe 2 #[.slice A0_0 l0_0.length c0_0, .slice A0_1 l0_1.length c0_1] 38 ?_; intro gb192 hg w4 hbox hb; have n0_ := Aside0.mk (below_step lB hb); have n1_ := Aside0.mk (hbox); have n2_ := lG w hg; have n3_ := lG w hg; clear HB; have HB := n0_; have BK192 := n1_; have GW192 := n2_; have GE192 := n3_; clear n0_ n1_ n2_ n3_; clear hb hbox hg) | ((with_reducible refine gate_dst (N := 16) rfl ?_); refine Kd.R_lit (Kd.int .i64) _ 3 ?hg (N := 16) ?hd (xs := ([] : List Int)) (inner := []) (ok := fun _ => True) (okp := fun _ => True) ?hr ?hp (fun _ hk => hk) trivial (Below.refl _ _) (Nat.le_refl _) (by simp) ?_; (case hd => rfl); (case hg => rfl); (case hr => first | (go_simp; done) | (go_simp; rfl)); (case hp => exact (Reps.none _ _)); intro v194 w5 ho6 hb hg_ hnew_; clear hg_ hnew_; (first | rw [← Ny193.out] at ho6 | (simp only [Int.reduceToNat] at ho6; rw [← Ny193.out] at ho6)); have n0_ := Aside0.mk (Kd.R_lower ho6 (below_size lB)); have n1_ := Aside0.mk (blk_below (lK BK192.out) hb); have n2_ := Aside0.mk (below_step lB hb); clear BK192; clear HB; have HO195 := n0_; have BK192 := n1_; have HB := n2_; clear n0_ n1_ n2_; clear hb ho6) | ((with_reducible refine gate_dst (N := 17) rfl ?_); refine arr64_9_build rfl rfl ?_) | ((with_reducible refine gate_dst (N := 9) rfl ?_); refine bxe 9 (List.replicate 40 (Value.int .i64 0)).toArray 136 ?_; intro gA9 hgA w7 hboxA hb; have BArr := Aside0.mk hboxA; have ho8 := arr_row_new (k := .i64) (e := 136) (n := 40) (by decide) (by decide) hboxA (Nat.le_of_eq hgA.symm); clear hgA hboxA; rw [← Ny196.out] at ho8; have n0_ := Aside0.mk (Kd.R_elder' (lR HO195.out) (Kd.R_base ho8) hb); have n1_ := Aside0.mk (Kd.R_lower (Kd.R_new' ho8 (Kd.R_lt (lR HO195.out))) (below_size lB)); have n2_ := Aside0.mk (blk_below (lK BK192.out) hb); have n3_ := Aside0.mk (below_step lB hb); clear HO195; clear BK192; clear HB; have HO195 := n0_; have HO198 := n1_; have BK192 := n2_; have HB := n3_; clear n0_ n1_ n2_ n3_; clear hb ho8) | ((with_reducible refine gate_store (t := 136) (p := 9) rfl ?_); refine wpList_store_row rfl 136 (.tmp 9) (.tmp 17) rfl gA9 (List.replicate 40 (Value.int .i64 0)).toArray rfl rfl 136 (List.replicate 40 (Value.int .i64 0)).toArray BArr.out (by kernel_rfl) rfl (by kernel_rfl) ?_; rw [setRow_self _ _ _ _ _ BArr.out]; clear BArr))
    repeat (go_quiet (fail); try go_wp2_with (first | ((with_reducible refine gate_dst (N := 2) rfl ?_); refine bxe 2 #[.slice A0_0 l0_0.length c0_0, .slice A0_1 l0_1.length c0_1] 38 ?_; intro gb192 hg w4 hbox hb; have n0_ := Aside0.mk (below_step lB hb); have n1_ := Aside0.mk (hbox); have n2_ := lG w hg; have n3_ := lG w hg; clear HB; have HB := n0_; have BK192 := n1_; have GW192 := n2_; have GE192 := n3_; clear n0_ n1_ n2_ n3_; clear hb hbox hg) | ((with_reducible refine gate_dst (N := 16) rfl ?_); refine Kd.R_lit (Kd.int .i64) _ 3 ?hg (N := 16) ?hd (xs := ([] : List Int)) (inner := []) (ok := fun _ => True) (okp := fun _ => True) ?hr ?hp (fun _ hk => hk) trivial (Below.refl _ _) (Nat.le_refl _) (by simp) ?_; (case hd => rfl); (case hg => rfl); (case hr => first | (go_simp; done) | (go_simp; rfl)); (case hp => exact (Reps.none _ _)); intro v194 w5 ho6 hb hg_ hnew_; clear hg_ hnew_; (first | rw [← Ny193.out] at ho6 | (simp only [Int.reduceToNat] at ho6; rw [← Ny193.out] at ho6)); have n0_ := Aside0.mk (Kd.R_lower ho6 (below_size lB)); have n1_ := Aside0.mk (blk_below (lK BK192.out) hb); have n2_ := Aside0.mk (below_step lB hb); clear BK192; clear HB; have HO195 := n0_; have BK192 := n1_; have HB := n2_; clear n0_ n1_ n2_; clear hb ho6) | ((with_reducible refine gate_dst (N := 17) rfl ?_); refine arr64_9_build rfl rfl ?_) | ((with_reducible refine gate_dst (N := 9) rfl ?_); refine bxe 9 (List.replicate 40 (Value.int .i64 0)).toArray 136 ?_; intro gA9 hgA w7 hboxA hb; have BArr := Aside0.mk hboxA; have ho8 := arr_row_new (k := .i64) (e := 136) (n := 40) (by decide) (by decide) hboxA (Nat.le_of_eq hgA.symm); clear hgA hboxA; rw [← Ny196.out] at ho8; have n0_ := Aside0.mk (Kd.R_elder' (lR HO195.out) (Kd.R_base ho8) hb); have n1_ := Aside0.mk (Kd.R_lower (Kd.R_new' ho8 (Kd.R_lt (lR HO195.out))) (below_size lB)); have n2_ := Aside0.mk (blk_below (lK BK192.out) hb); have n3_ := Aside0.mk (below_step lB hb); clear HO195; clear BK192; clear HB; have HO195 := n0_; have HO198 := n1_; have BK192 := n2_; have HB := n3_; clear n0_ n1_ n2_ n3_; clear hb ho8) | ((with_reducible refine gate_store (t := 136) (p := 9) rfl ?_); refine wpList_store_row rfl 136 (.tmp 9) (.tmp 17) rfl gA9 (List.replicate 40 (Value.int .i64 0)).toArray rfl rfl 136 (List.replicate 40 (Value.int .i64 0)).toArray BArr.out (by kernel_rfl) rfl (by kernel_rfl) ?_; rw [setRow_self _ _ _ _ _ BArr.out]; clear BArr)))
    go_loopg [8, 10, 11] k (fun kq v8 v10 v11 w' => ∃ (x8_1 : List Int) (x9_1 : List Int) (x10_1 : Int) (x11_1 : Int), v10 = .int .i64 x10_1 ∧ v11 = .int .i64 x11_1 ∧ Aside0 (impl_runLined.l0 kq a1 x8_1 x9_1 x10_1 x11_1 l0_0 l0_1 = some (r1, r2, r3, r4)) ∧ Aside0 (kq ≤ k) ∧ Aside0 (Kd.R (Kd.int .i64) 3 w' w.heap.size (fun k_ => some k_ ≠ (.slice (some ⟨gA9, 0, none⟩) 40 40 : Value).ownBlock) v8 x8_1) ∧ Aside0 (Kd.R (Kd.int .i64) 136 w' w.heap.size (fun k_ => some k_ ≠ (v8 : Value).ownBlock) (.slice (some ⟨gA9, 0, none⟩) 40 40) x9_1) ∧ Aside0 (w'.heap[gb192]? = some (.cells #[(.slice A0_0 l0_0.length c0_0), (.slice A0_1 l0_1.length c0_1)] 38 (0, 0))) ∧ Aside0 (Below w.heap.size w w'))
    case atStart => exact ⟨(y193), (y196), (0), (0), lF, lF, H', ⟨Nat.le_refl _⟩, ⟨by (with_reducible repeat (first | apply Kd.R_alloc | apply Kd.R_drewN | apply Kd.R_drew)); exact Kd.R_mono HO195.out (fun _ hk => hk.2)⟩, ⟨by (with_reducible repeat (first | apply Kd.R_alloc | apply Kd.R_drewN | apply Kd.R_drew)); exact Kd.R_mono HO198.out (fun _ hk => hk.2)⟩, ⟨lK BK192.out⟩, ⟨lB⟩⟩
    case round =>
      clear H'
      try clear p2
      try clear c3
      try clear c3b0
      try clear c3b1
      try clear c6
      obtain ⟨x8_1, x9_1, x10_1, x11_1, rfl, rfl, HA, HK1, HO_8, HO_9, BK192, HB⟩ := hrel
      cases gk with
      | zero => exact absurd HA.out (by simp [impl_runLined.l0])
      | succ k1 =>
        have H := HA.out
        clear HA
        simp only [impl_runLined.l0] at H
        by_cases c9 : x10_1 < (l0_0.length : Int)
        · rw [if_pos c9] at H
          have c9b0 : decide (x10_1 < (l0_0.length : Int)) = true := decide_eq_true c9
          clear c9
          by_cases c10 : x11_1 = a1
          · rw [if_pos c10] at H
            have c10b0 : (x11_1 == a1) = true := beq_iff_eq.mpr c10
            have c10b1 : (x11_1 != a1) = false := bne_eq_false_iff_eq.mpr c10
            clear c10
            simp only [Option.some.injEq, Prod.mk.injEq] at H
            obtain ⟨rfl, rfl, rfl, rfl⟩ := H
            obtain ⟨hcz11_0, hfz11_0, hcz11_1, hfz11_1⟩ := bk2 BK192.out
            go_wp2
            repeat (go_quiet (fail); try go_wp2)
            refine bodyPost_ret (results_list (rs := [.tmp 4, .tmp 5, .tmp 6, .tmp 7]) rfl (by simp) (.tmp (.tmp (.tmp (.tmp .nil))))) rfl ?_
            exact ⟨_, lE, by first | exact Kd.R_nil _ _ _ _ _ | exact Kd.N_nil _ _ _ _ _ | exact Kd.V_nil _ _ _ _ _ | exact Kd.Q_nil _ _ _ _ _ | exact Kd.S_nil _ _ _ _ _, lB⟩
          · rw [if_neg c10] at H
            have c10b0 : (x11_1 == a1) = false := beq_eq_false_iff_ne.mpr c10
            have c10b1 : (x11_1 != a1) = true := bne_iff_ne.mpr c10
            by_cases c12 : 0 ≤ x10_1
            · rw [if_pos c12] at H
              have c12b0 : decide (0 ≤ x10_1) = true := decide_eq_true c12
              clear c12
              have HC13 := Aside0.mk H
              clear H
              obtain ⟨hcz14_0, hfz14_0, hcz14_1, hfz14_1⟩ := bk2 BK192.out
              have p199 : 0 ≤ (x10_1 : Int) := lD
              have q199 : x10_1 < (l0_0.length : Int) := lD
              obtain ⟨ad199, e199, hx199_0, hx199_1, hx199_2⟩ := at_T86 HR0_0.out x10_1 p199 q199
              cases e199
              replace hx199_0 := pw_cell_below HB.out hx199_0
              replace hx199_1 := pw_cell_below HB.out hx199_1
              replace hx199_2 := pw_cell_below HB.out hx199_2
              replace p199 := eq_true p199
              replace q199 := eq_true q199
              go_upto_block 2 with (first | ((with_reducible refine gate_dst (N := 12) rfl ?_); refine bxe 12 #[.int .i64 0, .int .i64 0, .int .i64 0] 86 ?_; intro gb200 hg w15 hbox hb; have n0_ := Aside0.mk (Kd.R_below (lR HO_8.out) hb); have n1_ := Aside0.mk (Kd.R_below (lR HO_9.out) hb); have n2_ := Aside0.mk (blk_below (lK BK192.out) hb); have n3_ := Aside0.mk (below_step lB hb); have n4_ := Aside0.mk (hbox); have n5_ := lG w hg; have n6_ := lG w hg; have n7_ := Aside0.mk ((by rw [hg]; exact Nat.ne_of_lt (blk_lt (lK BK192.out)) : gb192 ≠ gb200)); have n8_ := Aside0.mk ((by rw [hg]; exact Nat.ne_of_gt (blk_lt (lK BK192.out)) : gb200 ≠ gb192)); clear HO_8; clear HO_9; clear BK192; clear HB; have HO_8 := n0_; have HO_9 := n1_; have BK192 := n2_; have HB := n3_; have BK200 := n4_; have GW200 := n5_; have GE200 := n6_; have NB192_200 := n7_; have NB200_192 := n8_; clear n0_ n1_ n2_ n3_ n4_ n5_ n6_ n7_ n8_; clear hb hbox hg; have hnb16 := NB200_192.out; have hnc16 := NB192_200.out; obtain ⟨hcz17_0, hfz17_0, hcz17_1, hfz17_1, hcz17_2, hfz17_2⟩ := bk3 BK200.out))
              repeat (go_quiet (fail); go_upto_block 2 with (first | ((with_reducible refine gate_dst (N := 12) rfl ?_); refine bxe 12 #[.int .i64 0, .int .i64 0, .int .i64 0] 86 ?_; intro gb200 hg w15 hbox hb; have n0_ := Aside0.mk (Kd.R_below (lR HO_8.out) hb); have n1_ := Aside0.mk (Kd.R_below (lR HO_9.out) hb); have n2_ := Aside0.mk (blk_below (lK BK192.out) hb); have n3_ := Aside0.mk (below_step lB hb); have n4_ := Aside0.mk (hbox); have n5_ := lG w hg; have n6_ := lG w hg; have n7_ := Aside0.mk ((by rw [hg]; exact Nat.ne_of_lt (blk_lt (lK BK192.out)) : gb192 ≠ gb200)); have n8_ := Aside0.mk ((by rw [hg]; exact Nat.ne_of_gt (blk_lt (lK BK192.out)) : gb200 ≠ gb192)); clear HO_8; clear HO_9; clear BK192; clear HB; have HO_8 := n0_; have HO_9 := n1_; have BK192 := n2_; have HB := n3_; have BK200 := n4_; have GW200 := n5_; have GE200 := n6_; have NB192_200 := n7_; have NB200_192 := n8_; clear n0_ n1_ n2_ n3_ n4_ n5_ n6_ n7_ n8_; clear hb hbox hg; have hnb16 := NB200_192.out; have hnc16 := NB192_200.out; obtain ⟨hcz17_0, hfz17_0, hcz17_1, hfz17_1, hcz17_2, hfz17_2⟩ := bk3 BK200.out)))
              (try simp only [Act.put, List.setIfInBounds_toArray, List.set_cons_zero, List.set_cons_succ])
              go_cut [8, 13, 14] (fun v8 v13 v14 wc => ∃ (kq : Nat) (x8_12 : List Int) (x9_12 : List Int) (x13_12 : Int) (x14_12 : Int), v13 = .int .i64 x13_12 ∧ v14 = .int .i64 x14_12 ∧ Aside0 (impl_runLined.j1 kq a1 x8_12 x9_12 x10_1 (wrap64 (x11_1 + 1)) x13_12 x14_12 l0_0 l0_1 = some (r1, r2, r3, r4)) ∧ Aside0 (kq ≤ k1) ∧ Aside0 (Kd.R (Kd.int .i64) 3 wc w.heap.size (fun k_ => some k_ ≠ (.slice (some ⟨gA9, 0, none⟩) 40 40 : Value).ownBlock) v8 x8_12) ∧ Aside0 (Kd.R (Kd.int .i64) 136 wc w.heap.size (fun k_ => some k_ ≠ (v8 : Value).ownBlock) (.slice (some ⟨gA9, 0, none⟩) 40 40) x9_12) ∧ Aside0 (wc.heap[gb192]? = some (.cells #[(.slice (some ad199) l0_0.length c0_0), (.slice A0_1 l0_1.length c0_1)] 38 (0, 0))) ∧ Aside0 (wc.heap[gb200]? = some (.cells #[.int .i64 ((rd_T86 l0_0 x10_1).f0), .int .i64 ((rd_T86 l0_0 x10_1).f1), .int .i64 ((rd_T86 l0_0 x10_1).f2)] 86 (0, 0))) ∧ Aside0 (Below w.heap.size w wc))
              case first =>
                have H := HC13.out
                clear HC13
                by_cases c18 : ((rd_T86 l0_0 x10_1).f0) = 1
                · rw [if_pos c18] at H
                  have c18b0 : (((rd_T86 l0_0 x10_1).f0) == 1) = true := beq_iff_eq.mpr c18
                  have c18b1 : (((rd_T86 l0_0 x10_1).f0) != 1) = false := bne_eq_false_iff_eq.mpr c18
                  clear c18
                  (first | rw [c18b0] | (simp only [i64_w, i32_w]; rw [c18b0]) | skip)
                  by_cases c19 : x8_1.length < 17592186044416
                  · rw [if_pos c19] at H
                    have LMc19 := Aside0.mk c19
                    clear c19
                    obtain ⟨y201, hy201⟩ : ∃ y_ : List Int, y_ = (x8_1 ++ [(rd_T86 l0_0 x10_1).f1]) := ⟨_, rfl⟩
                    replace H : (if (y201.length : Int) > 200 then (some (([] : List Int), 0, 0, false)) else (impl_runLined.j1 k1 a1 y201 x9_1 x10_1 (wrap64 (x11_1 + 1)) 0 (wrap64 (x10_1 + 1)) l0_0 l0_1)) = some (r1, r2, r3, r4) := by first | (rw [hy201]; with_reducible exact H) | (have H2_ := (Option.bind_some _ _).symm.trans H; rw [hy201]; with_reducible exact H2_) | (have H2_ := (Option.bind_some _ _).symm.trans H; with_reducible exact H2_) | with_reducible exact H | (rw [hy201]; exact H) | exact H
                    have Ny201 := Aside0.mk hy201
                    clear hy201
                    by_cases c20 : (y201.length : Int) > 200
                    · rw [if_pos c20] at H
                      have c20b0 : decide (200 < (y201.length : Int)) = true := decide_eq_true c20
                      have c20b1 : decide (200 < y201.length) = true := decide_eq_true (by omega)
                      clear c20
                      simp only [Option.some.injEq, Prod.mk.injEq] at H
                      obtain ⟨rfl, rfl, rfl, rfl⟩ := H
                      have hnb21 := NB200_192.out
                      have hnc21 := NB192_200.out
                      obtain ⟨hcz22_0, hfz22_0, hcz22_1, hfz22_1, hcz22_2, hfz22_2⟩ := bk3 BK200.out
                      go_wp2_with (first | ((with_reducible refine gate_builtin (b := .append) (xs := #[.tmp 39, .tmp 42]) rfl ?_); at_builtin; refine Kd.R_append (Kd.int .i64) (w0 := w) w.heap.size rfl (.tmp 39) (.tmp 42) 45 3 (.int .i64 0) 8 rfl Try.underlying45 info3 rfl (by decide) (by omega) u8 x8_1 ((rd_T86 l0_0 x10_1).f1) [.int .i64 ((rd_T86 l0_0 x10_1).f1)] (fun k_ => some k_ ≠ (.slice (some ⟨gA9, 0, none⟩) 40 40 : Value).ownBlock) (fun _ => False) rfl (by first | (go_simp; done) | (go_simp; rfl)) ?aP (fun _ hk => hk.elim) ?aF ?aO ?aB ?aS ?aL ?_; (case aP => exact rfl); (case aB => exact lB); (case aF => exact (fun k_ hk => Kd.fresh' (Kd.R_lt (by (with_reducible repeat (first | apply Kd.R_alloc | apply Kd.R_drewN | apply Kd.R_drew)); exact (Kd.R_mono (Kd.R_far (p := ⟨gb200, 2, none⟩) (Kd.R_far (p := ⟨gb200, 1, none⟩) (Kd.R_far (p := ⟨gb200, 0, none⟩) (Kd.R_types HO_9.out BK200.out (by decide)) (fun _ hk => hk.2) (.int .i64 ((rd_T86 l0_0 x10_1).f0))) (fun _ hk => hk.2) (.int .i64 ((rd_T86 l0_0 x10_1).f1))) (fun _ hk => hk.2) (.int .i64 ((rd_T86 l0_0 x10_1).f2))) (fun _ h_ => h_.1)))) k_ hk)); (case aO => exact (by (with_reducible repeat (first | apply Kd.R_alloc | apply Kd.R_drewN | apply Kd.R_drew)); exact Kd.R_mono (Kd.R_far (p := ⟨gb200, 2, none⟩) (Kd.R_far (p := ⟨gb200, 1, none⟩) (Kd.R_far (p := ⟨gb200, 0, none⟩) (Kd.R_types HO_8.out BK200.out (by decide)) (fun _ hk => hk.2) (.int .i64 ((rd_T86 l0_0 x10_1).f0))) (fun _ hk => hk.2) (.int .i64 ((rd_T86 l0_0 x10_1).f1))) (fun _ hk => hk.2) (.int .i64 ((rd_T86 l0_0 x10_1).f2))) (fun _ hk => hk.1))); (case aS => exact (below_size lB)); (case aL => have := LMc19.out; omega); intro v202 w23 ho hb hg hat; rw [← Ny201.out] at ho; have n0_ := Aside0.mk (Kd.R_after (ok := (fun _ => True)) (by (with_reducible repeat (first | apply Kd.R_alloc | apply Kd.R_drewN | apply Kd.R_drew)); exact Kd.R_mono (Kd.R_far (p := ⟨gb200, 2, none⟩) (Kd.R_far (p := ⟨gb200, 1, none⟩) (Kd.R_far (p := ⟨gb200, 0, none⟩) (Kd.R_types HO_9.out BK200.out (by decide)) (fun _ hk => hk.2) (.int .i64 ((rd_T86 l0_0 x10_1).f0))) (fun _ hk => hk.2) (.int .i64 ((rd_T86 l0_0 x10_1).f1))) (fun _ hk => hk.2) (.int .i64 ((rd_T86 l0_0 x10_1).f2))) (fun _ hk => ⟨trivial, hk.1⟩)) hg hat); have n1_ := Aside0.mk (blk_grown (lJ BK192.out) hg (Kd.R_ne HO_8.out BK192.out (by decide))); have n2_ := Aside0.mk (blk_grown (g := gb200) (o := .cells #[.int .i64 ((rd_T86 l0_0 x10_1).f0), .int .i64 ((rd_T86 l0_0 x10_1).f1), .int .i64 ((rd_T86 l0_0 x10_1).f2)] 86 (0, 0)) (by (with_reducible repeat first | apply bN | apply bD | apply bA); refine blk_put (cs := #[.int .i64 ((rd_T86 l0_0 x10_1).f0), .int .i64 ((rd_T86 l0_0 x10_1).f1), .int .i64 0]) ?_ 2 _ rfl; (with_reducible repeat first | apply bN | apply bD | apply bA); refine blk_put (cs := #[.int .i64 ((rd_T86 l0_0 x10_1).f0), .int .i64 0, .int .i64 0]) ?_ 1 _ rfl; (with_reducible repeat first | apply bN | apply bD | apply bA); refine blk_put (cs := #[.int .i64 0, .int .i64 0, .int .i64 0]) ?_ 0 _ rfl; (with_reducible repeat first | apply bN | apply bD | apply bA); exact BK200.out) hg (Kd.R_ne HO_8.out BK200.out (by decide))); have n3_ := Aside0.mk (hb); have n4_ := Aside0.mk (ho); clear HO_9; clear BK192; clear BK200; clear HB; clear HO_8; have HO_9 := n0_; have BK192 := n1_; have BK200 := n2_; have HB := n3_; have HO203 := n4_; clear n0_ n1_ n2_ n3_ n4_; clear ho hb hg hat; obtain ⟨Ao24, co24, eo24⟩ := Kd.R_slice HO203.out; subst eo24))
                      repeat (go_quiet (fail); try go_wp2_with (first | ((with_reducible refine gate_builtin (b := .append) (xs := #[.tmp 39, .tmp 42]) rfl ?_); at_builtin; refine Kd.R_append (Kd.int .i64) (w0 := w) w.heap.size rfl (.tmp 39) (.tmp 42) 45 3 (.int .i64 0) 8 rfl Try.underlying45 info3 rfl (by decide) (by omega) u8 x8_1 ((rd_T86 l0_0 x10_1).f1) [.int .i64 ((rd_T86 l0_0 x10_1).f1)] (fun k_ => some k_ ≠ (.slice (some ⟨gA9, 0, none⟩) 40 40 : Value).ownBlock) (fun _ => False) rfl (by first | (go_simp; done) | (go_simp; rfl)) ?aP (fun _ hk => hk.elim) ?aF ?aO ?aB ?aS ?aL ?_; (case aP => exact rfl); (case aB => exact lB); (case aF => exact (fun k_ hk => Kd.fresh' (Kd.R_lt (by (with_reducible repeat (first | apply Kd.R_alloc | apply Kd.R_drewN | apply Kd.R_drew)); exact (Kd.R_mono (Kd.R_far (p := ⟨gb200, 2, none⟩) (Kd.R_far (p := ⟨gb200, 1, none⟩) (Kd.R_far (p := ⟨gb200, 0, none⟩) (Kd.R_types HO_9.out BK200.out (by decide)) (fun _ hk => hk.2) (.int .i64 ((rd_T86 l0_0 x10_1).f0))) (fun _ hk => hk.2) (.int .i64 ((rd_T86 l0_0 x10_1).f1))) (fun _ hk => hk.2) (.int .i64 ((rd_T86 l0_0 x10_1).f2))) (fun _ h_ => h_.1)))) k_ hk)); (case aO => exact (by (with_reducible repeat (first | apply Kd.R_alloc | apply Kd.R_drewN | apply Kd.R_drew)); exact Kd.R_mono (Kd.R_far (p := ⟨gb200, 2, none⟩) (Kd.R_far (p := ⟨gb200, 1, none⟩) (Kd.R_far (p := ⟨gb200, 0, none⟩) (Kd.R_types HO_8.out BK200.out (by decide)) (fun _ hk => hk.2) (.int .i64 ((rd_T86 l0_0 x10_1).f0))) (fun _ hk => hk.2) (.int .i64 ((rd_T86 l0_0 x10_1).f1))) (fun _ hk => hk.2) (.int .i64 ((rd_T86 l0_0 x10_1).f2))) (fun _ hk => hk.1))); (case aS => exact (below_size lB)); (case aL => have := LMc19.out; omega); intro v202 w23 ho hb hg hat; rw [← Ny201.out] at ho; have n0_ := Aside0.mk (Kd.R_after (ok := (fun _ => True)) (by (with_reducible repeat (first | apply Kd.R_alloc | apply Kd.R_drewN | apply Kd.R_drew)); exact Kd.R_mono (Kd.R_far (p := ⟨gb200, 2, none⟩) (Kd.R_far (p := ⟨gb200, 1, none⟩) (Kd.R_far (p := ⟨gb200, 0, none⟩) (Kd.R_types HO_9.out BK200.out (by decide)) (fun _ hk => hk.2) (.int .i64 ((rd_T86 l0_0 x10_1).f0))) (fun _ hk => hk.2) (.int .i64 ((rd_T86 l0_0 x10_1).f1))) (fun _ hk => hk.2) (.int .i64 ((rd_T86 l0_0 x10_1).f2))) (fun _ hk => ⟨trivial, hk.1⟩)) hg hat); have n1_ := Aside0.mk (blk_grown (lJ BK192.out) hg (Kd.R_ne HO_8.out BK192.out (by decide))); have n2_ := Aside0.mk (blk_grown (g := gb200) (o := .cells #[.int .i64 ((rd_T86 l0_0 x10_1).f0), .int .i64 ((rd_T86 l0_0 x10_1).f1), .int .i64 ((rd_T86 l0_0 x10_1).f2)] 86 (0, 0)) (by (with_reducible repeat first | apply bN | apply bD | apply bA); refine blk_put (cs := #[.int .i64 ((rd_T86 l0_0 x10_1).f0), .int .i64 ((rd_T86 l0_0 x10_1).f1), .int .i64 0]) ?_ 2 _ rfl; (with_reducible repeat first | apply bN | apply bD | apply bA); refine blk_put (cs := #[.int .i64 ((rd_T86 l0_0 x10_1).f0), .int .i64 0, .int .i64 0]) ?_ 1 _ rfl; (with_reducible repeat first | apply bN | apply bD | apply bA); refine blk_put (cs := #[.int .i64 0, .int .i64 0, .int .i64 0]) ?_ 0 _ rfl; (with_reducible repeat first | apply bN | apply bD | apply bA); exact BK200.out) hg (Kd.R_ne HO_8.out BK200.out (by decide))); have n3_ := Aside0.mk (hb); have n4_ := Aside0.mk (ho); clear HO_9; clear BK192; clear BK200; clear HB; clear HO_8; have HO_9 := n0_; have BK192 := n1_; have BK200 := n2_; have HB := n3_; have HO203 := n4_; clear n0_ n1_ n2_ n3_ n4_; clear ho hb hg hat; obtain ⟨Ao24, co24, eo24⟩ := Kd.R_slice HO203.out; subst eo24)))
                      refine bodyPost_ret (results_list (rs := [.tmp 4, .tmp 5, .tmp 6, .tmp 7]) rfl (by simp) (.tmp (.tmp (.tmp (.tmp .nil))))) rfl ?_
                      exact ⟨_, lE, by first | exact Kd.R_nil _ _ _ _ _ | exact Kd.N_nil _ _ _ _ _ | exact Kd.V_nil _ _ _ _ _ | exact Kd.Q_nil _ _ _ _ _ | exact Kd.S_nil _ _ _ _ _, lB⟩
                    · rw [if_neg c20] at H
                      have c20b0 : decide (200 < (y201.length : Int)) = false := decide_eq_false c20
                      have c20b1 : decide (200 < y201.length) = false := decide_eq_false (by omega)
                      clear c20
                      have H' := Aside0.mk H
                      clear H
                      have hnb25 := NB200_192.out
                      have hnc25 := NB192_200.out
                      obtain ⟨hcz26_0, hfz26_0, hcz26_1, hfz26_1, hcz26_2, hfz26_2⟩ := bk3 BK200.out
                      go_wp2_with (first | ((with_reducible refine gate_builtin (b := .append) (xs := #[.tmp 39, .tmp 42]) rfl ?_); at_builtin; refine Kd.R_append (Kd.int .i64) (w0 := w) w.heap.size rfl (.tmp 39) (.tmp 42) 45 3 (.int .i64 0) 8 rfl Try.underlying45 info3 rfl (by decide) (by omega) u8 x8_1 ((rd_T86 l0_0 x10_1).f1) [.int .i64 ((rd_T86 l0_0 x10_1).f1)] (fun k_ => some k_ ≠ (.slice (some ⟨gA9, 0, none⟩) 40 40 : Value).ownBlock) (fun _ => False) rfl (by first | (go_simp; done) | (go_simp; rfl)) ?aP (fun _ hk => hk.elim) ?aF ?aO ?aB ?aS ?aL ?_; (case aP => exact rfl); (case aB => exact lB); (case aF => exact (fun k_ hk => Kd.fresh' (Kd.R_lt (by (with_reducible repeat (first | apply Kd.R_alloc | apply Kd.R_drewN | apply Kd.R_drew)); exact (Kd.R_mono (Kd.R_far (p := ⟨gb200, 2, none⟩) (Kd.R_far (p := ⟨gb200, 1, none⟩) (Kd.R_far (p := ⟨gb200, 0, none⟩) (Kd.R_types HO_9.out BK200.out (by decide)) (fun _ hk => hk.2) (.int .i64 ((rd_T86 l0_0 x10_1).f0))) (fun _ hk => hk.2) (.int .i64 ((rd_T86 l0_0 x10_1).f1))) (fun _ hk => hk.2) (.int .i64 ((rd_T86 l0_0 x10_1).f2))) (fun _ h_ => h_.1)))) k_ hk)); (case aO => exact (by (with_reducible repeat (first | apply Kd.R_alloc | apply Kd.R_drewN | apply Kd.R_drew)); exact Kd.R_mono (Kd.R_far (p := ⟨gb200, 2, none⟩) (Kd.R_far (p := ⟨gb200, 1, none⟩) (Kd.R_far (p := ⟨gb200, 0, none⟩) (Kd.R_types HO_8.out BK200.out (by decide)) (fun _ hk => hk.2) (.int .i64 ((rd_T86 l0_0 x10_1).f0))) (fun _ hk => hk.2) (.int .i64 ((rd_T86 l0_0 x10_1).f1))) (fun _ hk => hk.2) (.int .i64 ((rd_T86 l0_0 x10_1).f2))) (fun _ hk => hk.1))); (case aS => exact (below_size lB)); (case aL => have := LMc19.out; omega); intro v202 w27 ho hb hg hat; rw [← Ny201.out] at ho; have n0_ := Aside0.mk (Kd.R_after (ok := (fun _ => True)) (by (with_reducible repeat (first | apply Kd.R_alloc | apply Kd.R_drewN | apply Kd.R_drew)); exact Kd.R_mono (Kd.R_far (p := ⟨gb200, 2, none⟩) (Kd.R_far (p := ⟨gb200, 1, none⟩) (Kd.R_far (p := ⟨gb200, 0, none⟩) (Kd.R_types HO_9.out BK200.out (by decide)) (fun _ hk => hk.2) (.int .i64 ((rd_T86 l0_0 x10_1).f0))) (fun _ hk => hk.2) (.int .i64 ((rd_T86 l0_0 x10_1).f1))) (fun _ hk => hk.2) (.int .i64 ((rd_T86 l0_0 x10_1).f2))) (fun _ hk => ⟨trivial, hk.1⟩)) hg hat); have n1_ := Aside0.mk (blk_grown (lJ BK192.out) hg (Kd.R_ne HO_8.out BK192.out (by decide))); have n2_ := Aside0.mk (blk_grown (g := gb200) (o := .cells #[.int .i64 ((rd_T86 l0_0 x10_1).f0), .int .i64 ((rd_T86 l0_0 x10_1).f1), .int .i64 ((rd_T86 l0_0 x10_1).f2)] 86 (0, 0)) (by (with_reducible repeat first | apply bN | apply bD | apply bA); refine blk_put (cs := #[.int .i64 ((rd_T86 l0_0 x10_1).f0), .int .i64 ((rd_T86 l0_0 x10_1).f1), .int .i64 0]) ?_ 2 _ rfl; (with_reducible repeat first | apply bN | apply bD | apply bA); refine blk_put (cs := #[.int .i64 ((rd_T86 l0_0 x10_1).f0), .int .i64 0, .int .i64 0]) ?_ 1 _ rfl; (with_reducible repeat first | apply bN | apply bD | apply bA); refine blk_put (cs := #[.int .i64 0, .int .i64 0, .int .i64 0]) ?_ 0 _ rfl; (with_reducible repeat first | apply bN | apply bD | apply bA); exact BK200.out) hg (Kd.R_ne HO_8.out BK200.out (by decide))); have n3_ := Aside0.mk (hb); have n4_ := Aside0.mk (ho); clear HO_9; clear BK192; clear BK200; clear HB; clear HO_8; have HO_9 := n0_; have BK192 := n1_; have BK200 := n2_; have HB := n3_; have HO203 := n4_; clear n0_ n1_ n2_ n3_ n4_; clear ho hb hg hat; obtain ⟨Ao28, co28, eo28⟩ := Kd.R_slice HO203.out; subst eo28))
                      repeat (go_quiet (fail); try go_wp2_with (first | ((with_reducible refine gate_builtin (b := .append) (xs := #[.tmp 39, .tmp 42]) rfl ?_); at_builtin; refine Kd.R_append (Kd.int .i64) (w0 := w) w.heap.size rfl (.tmp 39) (.tmp 42) 45 3 (.int .i64 0) 8 rfl Try.underlying45 info3 rfl (by decide) (by omega) u8 x8_1 ((rd_T86 l0_0 x10_1).f1) [.int .i64 ((rd_T86 l0_0 x10_1).f1)] (fun k_ => some k_ ≠ (.slice (some ⟨gA9, 0, none⟩) 40 40 : Value).ownBlock) (fun _ => False) rfl (by first | (go_simp; done) | (go_simp; rfl)) ?aP (fun _ hk => hk.elim) ?aF ?aO ?aB ?aS ?aL ?_; (case aP => exact rfl); (case aB => exact lB); (case aF => exact (fun k_ hk => Kd.fresh' (Kd.R_lt (by (with_reducible repeat (first | apply Kd.R_alloc | apply Kd.R_drewN | apply Kd.R_drew)); exact (Kd.R_mono (Kd.R_far (p := ⟨gb200, 2, none⟩) (Kd.R_far (p := ⟨gb200, 1, none⟩) (Kd.R_far (p := ⟨gb200, 0, none⟩) (Kd.R_types HO_9.out BK200.out (by decide)) (fun _ hk => hk.2) (.int .i64 ((rd_T86 l0_0 x10_1).f0))) (fun _ hk => hk.2) (.int .i64 ((rd_T86 l0_0 x10_1).f1))) (fun _ hk => hk.2) (.int .i64 ((rd_T86 l0_0 x10_1).f2))) (fun _ h_ => h_.1)))) k_ hk)); (case aO => exact (by (with_reducible repeat (first | apply Kd.R_alloc | apply Kd.R_drewN | apply Kd.R_drew)); exact Kd.R_mono (Kd.R_far (p := ⟨gb200, 2, none⟩) (Kd.R_far (p := ⟨gb200, 1, none⟩) (Kd.R_far (p := ⟨gb200, 0, none⟩) (Kd.R_types HO_8.out BK200.out (by decide)) (fun _ hk => hk.2) (.int .i64 ((rd_T86 l0_0 x10_1).f0))) (fun _ hk => hk.2) (.int .i64 ((rd_T86 l0_0 x10_1).f1))) (fun _ hk => hk.2) (.int .i64 ((rd_T86 l0_0 x10_1).f2))) (fun _ hk => hk.1))); (case aS => exact (below_size lB)); (case aL => have := LMc19.out; omega); intro v202 w27 ho hb hg hat; rw [← Ny201.out] at ho; have n0_ := Aside0.mk (Kd.R_after (ok := (fun _ => True)) (by (with_reducible repeat (first | apply Kd.R_alloc | apply Kd.R_drewN | apply Kd.R_drew)); exact Kd.R_mono (Kd.R_far (p := ⟨gb200, 2, none⟩) (Kd.R_far (p := ⟨gb200, 1, none⟩) (Kd.R_far (p := ⟨gb200, 0, none⟩) (Kd.R_types HO_9.out BK200.out (by decide)) (fun _ hk => hk.2) (.int .i64 ((rd_T86 l0_0 x10_1).f0))) (fun _ hk => hk.2) (.int .i64 ((rd_T86 l0_0 x10_1).f1))) (fun _ hk => hk.2) (.int .i64 ((rd_T86 l0_0 x10_1).f2))) (fun _ hk => ⟨trivial, hk.1⟩)) hg hat); have n1_ := Aside0.mk (blk_grown (lJ BK192.out) hg (Kd.R_ne HO_8.out BK192.out (by decide))); have n2_ := Aside0.mk (blk_grown (g := gb200) (o := .cells #[.int .i64 ((rd_T86 l0_0 x10_1).f0), .int .i64 ((rd_T86 l0_0 x10_1).f1), .int .i64 ((rd_T86 l0_0 x10_1).f2)] 86 (0, 0)) (by (with_reducible repeat first | apply bN | apply bD | apply bA); refine blk_put (cs := #[.int .i64 ((rd_T86 l0_0 x10_1).f0), .int .i64 ((rd_T86 l0_0 x10_1).f1), .int .i64 0]) ?_ 2 _ rfl; (with_reducible repeat first | apply bN | apply bD | apply bA); refine blk_put (cs := #[.int .i64 ((rd_T86 l0_0 x10_1).f0), .int .i64 0, .int .i64 0]) ?_ 1 _ rfl; (with_reducible repeat first | apply bN | apply bD | apply bA); refine blk_put (cs := #[.int .i64 0, .int .i64 0, .int .i64 0]) ?_ 0 _ rfl; (with_reducible repeat first | apply bN | apply bD | apply bA); exact BK200.out) hg (Kd.R_ne HO_8.out BK200.out (by decide))); have n3_ := Aside0.mk (hb); have n4_ := Aside0.mk (ho); clear HO_9; clear BK192; clear BK200; clear HB; clear HO_8; have HO_9 := n0_; have BK192 := n1_; have BK200 := n2_; have HB := n3_; have HO203 := n4_; clear n0_ n1_ n2_ n3_ n4_; clear ho hb hg hat; obtain ⟨Ao28, co28, eo28⟩ := Kd.R_slice HO203.out; subst eo28)))
                      go_meet
                      case rel => exact ⟨_, (y201), (x9_1), (0), (wrap64 (x10_1 + 1)), lF, lF, H', ⟨by have := HK1.out; first | omega | exact Nat.le_refl _⟩, ⟨lR HO203.out⟩, ⟨by (with_reducible repeat (first | apply Kd.R_alloc | apply Kd.R_drewN | apply Kd.R_drew)); exact Kd.R_mono HO_9.out (fun _ hk => hk.2)⟩, ⟨lK BK192.out⟩, ⟨lK BK200.out⟩, ⟨lB⟩⟩
                  · rw [if_neg c19] at H
                    exact absurd H (by simp)
                · rw [if_neg c18] at H
                  have c18b0 : (((rd_T86 l0_0 x10_1).f0) == 1) = false := beq_eq_false_iff_ne.mpr c18
                  have c18b1 : (((rd_T86 l0_0 x10_1).f0) != 1) = true := bne_iff_ne.mpr c18
                  (first | rw [c18b0] | (simp only [i64_w, i32_w]; rw [c18b0]) | skip)
                  by_cases c29 : ((rd_T86 l0_0 x10_1).f0) = 2
                  · rw [if_pos c29] at H
                    have c29b0 : (((rd_T86 l0_0 x10_1).f0) == 2) = true := beq_iff_eq.mpr c29
                    have c29b1 : (((rd_T86 l0_0 x10_1).f0) != 2) = false := bne_eq_false_iff_eq.mpr c29
                    clear c29
                    have H' := Aside0.mk H
                    clear H
                    have hnb30 := NB200_192.out
                    have hnc30 := NB192_200.out
                    obtain ⟨hcz31_0, hfz31_0, hcz31_1, hfz31_1, hcz31_2, hfz31_2⟩ := bk3 BK200.out
                    go_wp2
                    repeat (go_quiet (fail); try go_wp2)
                    go_meet
                    case rel => exact ⟨_, (x8_1), (x9_1), ((rd_T86 l0_0 x10_1).f1), (wrap64 (x10_1 + 1)), lF, lF, H', ⟨by have := HK1.out; first | omega | exact Nat.le_refl _⟩, ⟨by (with_reducible repeat (first | apply Kd.R_alloc | apply Kd.R_drewN | apply Kd.R_drew)); exact Kd.R_mono (Kd.R_far (p := ⟨gb200, 2, none⟩) (Kd.R_far (p := ⟨gb200, 1, none⟩) (Kd.R_far (p := ⟨gb200, 0, none⟩) (Kd.R_types HO_8.out BK200.out (by decide)) (fun _ hk => hk.2) (.int .i64 ((rd_T86 l0_0 x10_1).f0))) (fun _ hk => hk.2) (.int .i64 ((rd_T86 l0_0 x10_1).f1))) (fun _ hk => hk.2) (.int .i64 ((rd_T86 l0_0 x10_1).f2))) (fun _ hk => hk.1)⟩, ⟨by (with_reducible repeat (first | apply Kd.R_alloc | apply Kd.R_drewN | apply Kd.R_drew)); exact Kd.R_mono (Kd.R_far (p := ⟨gb200, 2, none⟩) (Kd.R_far (p := ⟨gb200, 1, none⟩) (Kd.R_far (p := ⟨gb200, 0, none⟩) (Kd.R_types HO_9.out BK200.out (by decide)) (fun _ hk => hk.2) (.int .i64 ((rd_T86 l0_0 x10_1).f0))) (fun _ hk => hk.2) (.int .i64 ((rd_T86 l0_0 x10_1).f1))) (fun _ hk => hk.2) (.int .i64 ((rd_T86 l0_0 x10_1).f2))) (fun _ hk => hk.1)⟩, ⟨lJ BK192.out⟩, ⟨by (with_reducible repeat first | apply bN | apply bD | apply bA); refine blk_put (cs := #[.int .i64 ((rd_T86 l0_0 x10_1).f0), .int .i64 ((rd_T86 l0_0 x10_1).f1), .int .i64 0]) ?_ 2 _ rfl; (with_reducible repeat first | apply bN | apply bD | apply bA); refine blk_put (cs := #[.int .i64 ((rd_T86 l0_0 x10_1).f0), .int .i64 0, .int .i64 0]) ?_ 1 _ rfl; (with_reducible repeat first | apply bN | apply bD | apply bA); refine blk_put (cs := #[.int .i64 0, .int .i64 0, .int .i64 0]) ?_ 0 _ rfl; (with_reducible repeat first | apply bN | apply bD | apply bA); exact BK200.out⟩, ⟨lB⟩⟩
                  · rw [if_neg c29] at H
                    have c29b0 : (((rd_T86 l0_0 x10_1).f0) == 2) = false := beq_eq_false_iff_ne.mpr c29
                    have c29b1 : (((rd_T86 l0_0 x10_1).f0) != 2) = true := bne_iff_ne.mpr c29
                    by_cases c32 : ((rd_T86 l0_0 x10_1).f0) = 3
                    · rw [if_pos c32] at H
                      have c32b0 : (((rd_T86 l0_0 x10_1).f0) == 3) = true := beq_iff_eq.mpr c32
                      have c32b1 : (((rd_T86 l0_0 x10_1).f0) != 3) = false := bne_eq_false_iff_eq.mpr c32
                      clear c32
                      by_cases c33 : 0 ≤ ((rd_T86 l0_0 x10_1).f1)
                      · rw [if_pos c33] at H
                        have c33b0 : decide (0 ≤ ((rd_T86 l0_0 x10_1).f1)) = true := decide_eq_true c33
                        clear c33
                        by_cases c34 : ((rd_T86 l0_0 x10_1).f1) < (x9_1.length : Int)
                        · rw [if_pos c34] at H
                          have c34b0 : decide (((rd_T86 l0_0 x10_1).f1) < (x9_1.length : Int)) = true := decide_eq_true c34
                          clear c34
                          have H' := Aside0.mk H
                          clear H
                          have hnb35 := NB200_192.out
                          have hnc35 := NB192_200.out
                          obtain ⟨hcz36_0, hfz36_0, hcz36_1, hfz36_1, hcz36_2, hfz36_2⟩ := bk3 BK200.out
                          have p204 : 0 ≤ (((rd_T86 l0_0 x10_1).f1) : Int) := lD
                          have q204 : ((rd_T86 l0_0 x10_1).f1) < (x9_1.length : Int) := lD
                          obtain ⟨ad204, e204, hx204_0⟩ := Kd.at_int (Kd.R_reads' HO_9.out).2.2 ((rd_T86 l0_0 x10_1).f1) p204 q204
                          cases e204
                          have hn204_0 : (⟨gA9, 0, none⟩ : Addr).block ≠ gb200 := Kd.own_blk (Kd.R_ne HO_9.out BK200.out (by decide))
                          have hn204_1 : (⟨gA9, 0, none⟩ : Addr).block ≠ gb200 := Kd.own_blk (Kd.R_ne HO_9.out BK200.out (by decide))
                          have hn204_2 : (⟨gA9, 0, none⟩ : Addr).block ≠ gb200 := Kd.own_blk (Kd.R_ne HO_9.out BK200.out (by decide))
                          replace hx204_0 := (cell_far (p := ⟨gb200, 0, none⟩) (by first | (rw [add_block]; exact hn204_0) | (show (Addr.add _ _).block ≠ _; rw [add_block]; exact hn204_0) | exact hn204_0) (.int .i64 ((rd_T86 l0_0 x10_1).f0))).trans hx204_0
                          replace hx204_0 := (cell_far (p := ⟨gb200, 1, none⟩) (by first | (rw [add_block]; exact hn204_1) | (show (Addr.add _ _).block ≠ _; rw [add_block]; exact hn204_1) | exact hn204_1) (.int .i64 ((rd_T86 l0_0 x10_1).f1))).trans hx204_0
                          replace hx204_0 := (cell_far (p := ⟨gb200, 2, none⟩) (by first | (rw [add_block]; exact hn204_2) | (show (Addr.add _ _).block ≠ _; rw [add_block]; exact hn204_2) | exact hn204_2) (.int .i64 ((rd_T86 l0_0 x10_1).f2))).trans hx204_0
                          (try have hy204_0 := fun (n_ : Nat) => (show (((((w15.drewN n_).setCell ⟨gb200, 0, none⟩ (.int .i64 ((rd_T86 l0_0 x10_1).f0))).setCell ⟨gb200, 1, none⟩ (.int .i64 ((rd_T86 l0_0 x10_1).f1))).setCell ⟨gb200, 2, none⟩ (.int .i64 ((rd_T86 l0_0 x10_1).f2)))).cell? _ = some _ from hx204_0))
                          clear hn204_0
                          clear hn204_1
                          clear hn204_2
                          replace p204 := eq_true p204
                          replace q204 := eq_true q204
                          have bA204 := eq_true (arr_lt2 40 HO_9.out (of_eq_true q204) rfl)
                          have hA204 := hx204_0
                          simp only [add_plain] at hA204
                          clear hx204_0
                          go_wp2
                          repeat (go_quiet (fail); try go_wp2)
                          go_meet
                          case rel => exact ⟨_, (x8_1), (x9_1), (rd x9_1 ((rd_T86 l0_0 x10_1).f1)), (wrap64 (x10_1 + 1)), lF, lF, H', ⟨by have := HK1.out; first | omega | exact Nat.le_refl _⟩, ⟨by (with_reducible repeat (first | apply Kd.R_alloc | apply Kd.R_drewN | apply Kd.R_drew)); exact Kd.R_mono (Kd.R_far (p := ⟨gb200, 2, none⟩) (Kd.R_far (p := ⟨gb200, 1, none⟩) (Kd.R_far (p := ⟨gb200, 0, none⟩) (Kd.R_types HO_8.out BK200.out (by decide)) (fun _ hk => hk.2) (.int .i64 ((rd_T86 l0_0 x10_1).f0))) (fun _ hk => hk.2) (.int .i64 ((rd_T86 l0_0 x10_1).f1))) (fun _ hk => hk.2) (.int .i64 ((rd_T86 l0_0 x10_1).f2))) (fun _ hk => hk.1)⟩, ⟨by (with_reducible repeat (first | apply Kd.R_alloc | apply Kd.R_drewN | apply Kd.R_drew)); exact Kd.R_mono (Kd.R_far (p := ⟨gb200, 2, none⟩) (Kd.R_far (p := ⟨gb200, 1, none⟩) (Kd.R_far (p := ⟨gb200, 0, none⟩) (Kd.R_types HO_9.out BK200.out (by decide)) (fun _ hk => hk.2) (.int .i64 ((rd_T86 l0_0 x10_1).f0))) (fun _ hk => hk.2) (.int .i64 ((rd_T86 l0_0 x10_1).f1))) (fun _ hk => hk.2) (.int .i64 ((rd_T86 l0_0 x10_1).f2))) (fun _ hk => hk.1)⟩, ⟨lJ BK192.out⟩, ⟨by (with_reducible repeat first | apply bN | apply bD | apply bA); refine blk_put (cs := #[.int .i64 ((rd_T86 l0_0 x10_1).f0), .int .i64 ((rd_T86 l0_0 x10_1).f1), .int .i64 0]) ?_ 2 _ rfl; (with_reducible repeat first | apply bN | apply bD | apply bA); refine blk_put (cs := #[.int .i64 ((rd_T86 l0_0 x10_1).f0), .int .i64 0, .int .i64 0]) ?_ 1 _ rfl; (with_reducible repeat first | apply bN | apply bD | apply bA); refine blk_put (cs := #[.int .i64 0, .int .i64 0, .int .i64 0]) ?_ 0 _ rfl; (with_reducible repeat first | apply bN | apply bD | apply bA); exact BK200.out⟩, ⟨lB⟩⟩
                        · rw [if_neg c34] at H
                          exact absurd H (by simp)
                      · rw [if_neg c33] at H
                        exact absurd H (by simp)
                    · rw [if_neg c32] at H
                      have c32b0 : (((rd_T86 l0_0 x10_1).f0) == 3) = false := beq_eq_false_iff_ne.mpr c32
                      have c32b1 : (((rd_T86 l0_0 x10_1).f0) != 3) = true := bne_iff_ne.mpr c32
                      by_cases c38 : ((rd_T86 l0_0 x10_1).f0) = 4
                      · rw [if_pos c38] at H
                        have c38b0 : (((rd_T86 l0_0 x10_1).f0) == 4) = true := beq_iff_eq.mpr c38
                        have c38b1 : (((rd_T86 l0_0 x10_1).f0) != 4) = false := bne_eq_false_iff_eq.mpr c38
                        clear c38
                        have H' := Aside0.mk H
                        clear H
                        have hnb39 := NB200_192.out
                        have hnc39 := NB192_200.out
                        obtain ⟨hcz40_0, hfz40_0, hcz40_1, hfz40_1, hcz40_2, hfz40_2⟩ := bk3 BK200.out
                        go_wp2
                        repeat (go_quiet (fail); try go_wp2)
                        go_meet
                        case rel => exact ⟨_, (x8_1), (x9_1), (0), ((rd_T86 l0_0 x10_1).f2), lF, lF, H', ⟨by have := HK1.out; first | omega | exact Nat.le_refl _⟩, ⟨by (with_reducible repeat (first | apply Kd.R_alloc | apply Kd.R_drewN | apply Kd.R_drew)); exact Kd.R_mono (Kd.R_far (p := ⟨gb200, 2, none⟩) (Kd.R_far (p := ⟨gb200, 1, none⟩) (Kd.R_far (p := ⟨gb200, 0, none⟩) (Kd.R_types HO_8.out BK200.out (by decide)) (fun _ hk => hk.2) (.int .i64 ((rd_T86 l0_0 x10_1).f0))) (fun _ hk => hk.2) (.int .i64 ((rd_T86 l0_0 x10_1).f1))) (fun _ hk => hk.2) (.int .i64 ((rd_T86 l0_0 x10_1).f2))) (fun _ hk => hk.1)⟩, ⟨by (with_reducible repeat (first | apply Kd.R_alloc | apply Kd.R_drewN | apply Kd.R_drew)); exact Kd.R_mono (Kd.R_far (p := ⟨gb200, 2, none⟩) (Kd.R_far (p := ⟨gb200, 1, none⟩) (Kd.R_far (p := ⟨gb200, 0, none⟩) (Kd.R_types HO_9.out BK200.out (by decide)) (fun _ hk => hk.2) (.int .i64 ((rd_T86 l0_0 x10_1).f0))) (fun _ hk => hk.2) (.int .i64 ((rd_T86 l0_0 x10_1).f1))) (fun _ hk => hk.2) (.int .i64 ((rd_T86 l0_0 x10_1).f2))) (fun _ hk => hk.1)⟩, ⟨lJ BK192.out⟩, ⟨by (with_reducible repeat first | apply bN | apply bD | apply bA); refine blk_put (cs := #[.int .i64 ((rd_T86 l0_0 x10_1).f0), .int .i64 ((rd_T86 l0_0 x10_1).f1), .int .i64 0]) ?_ 2 _ rfl; (with_reducible repeat first | apply bN | apply bD | apply bA); refine blk_put (cs := #[.int .i64 ((rd_T86 l0_0 x10_1).f0), .int .i64 0, .int .i64 0]) ?_ 1 _ rfl; (with_reducible repeat first | apply bN | apply bD | apply bA); refine blk_put (cs := #[.int .i64 0, .int .i64 0, .int .i64 0]) ?_ 0 _ rfl; (with_reducible repeat first | apply bN | apply bD | apply bA); exact BK200.out⟩, ⟨lB⟩⟩
                      · rw [if_neg c38] at H
                        have c38b0 : (((rd_T86 l0_0 x10_1).f0) == 4) = false := beq_eq_false_iff_ne.mpr c38
                        have c38b1 : (((rd_T86 l0_0 x10_1).f0) != 4) = true := bne_iff_ne.mpr c38
                        by_cases c41 : ((rd_T86 l0_0 x10_1).f0) = 5
                        · rw [if_pos c41] at H
                          have c41b0 : (((rd_T86 l0_0 x10_1).f0) == 5) = true := beq_iff_eq.mpr c41
                          have c41b1 : (((rd_T86 l0_0 x10_1).f0) != 5) = false := bne_eq_false_iff_eq.mpr c41
                          clear c41
                          by_cases c42 : 0 ≤ ((rd_T86 l0_0 x10_1).f1)
                          · rw [if_pos c42] at H
                            have c42b0 : decide (0 ≤ ((rd_T86 l0_0 x10_1).f1)) = true := decide_eq_true c42
                            clear c42
                            by_cases c43 : ((rd_T86 l0_0 x10_1).f1) < (x9_1.length : Int)
                            · rw [if_pos c43] at H
                              have c43b0 : decide (((rd_T86 l0_0 x10_1).f1) < (x9_1.length : Int)) = true := decide_eq_true c43
                              clear c43
                              obtain ⟨y205, hy205⟩ : ∃ y_ : List Int, y_ = (x9_1.set (((rd_T86 l0_0 x10_1).f1) : Int).toNat 0) := ⟨_, rfl⟩
                              replace H : (impl_runLined.j1 k1 a1 x8_1 y205 x10_1 (wrap64 (x11_1 + 1)) 0 (wrap64 (x10_1 + 1)) l0_0 l0_1) = some (r1, r2, r3, r4) := by first | (rw [hy205]; with_reducible exact H) | (have H2_ := (Option.bind_some _ _).symm.trans H; rw [hy205]; with_reducible exact H2_) | (have H2_ := (Option.bind_some _ _).symm.trans H; with_reducible exact H2_) | with_reducible exact H | (rw [hy205]; exact H) | exact H
                              have Ny205 := Aside0.mk hy205
                              clear hy205
                              have H' := Aside0.mk H
                              clear H
                              have hnb45 := NB200_192.out
                              have hnc45 := NB192_200.out
                              obtain ⟨hcz46_0, hfz46_0, hcz46_1, hfz46_1, hcz46_2, hfz46_2⟩ := bk3 BK200.out
                              have p44 : 0 ≤ (((rd_T86 l0_0 x10_1).f1) : Int) := lD
                              have q44 : (((rd_T86 l0_0 x10_1).f1) : Int) < ((x9_1.length : Int) : Int) := lD
                              obtain ⟨gb44, HG44⟩ := arr_form HO_9.out (by omega)
                              have GB44 := Aside0.mk gb44
                              have GG44 := Aside0.mk HG44
                              clear gb44 HG44
                              obtain ⟨hx44_0, hf44_0⟩ := Kd.R_celln 0 (Kd.R_far (p := ⟨gb200, 2, none⟩) (Kd.R_far (p := ⟨gb200, 1, none⟩) (Kd.R_far (p := ⟨gb200, 0, none⟩) (Kd.R_types HO_9.out BK200.out (by decide)) (fun _ hk => hk.2) (.int .i64 ((rd_T86 l0_0 x10_1).f0))) (fun _ hk => hk.2) (.int .i64 ((rd_T86 l0_0 x10_1).f1))) (fun _ hk => hk.2) (.int .i64 ((rd_T86 l0_0 x10_1).f2))) (((rd_T86 l0_0 x10_1).f1) : Int) p44 (arr_lt HO_9.out q44)
                              replace p44 := eq_true p44
                              replace q44 := eq_true q44
                              have bA44 := eq_true (arr_lt2 40 HO_9.out (of_eq_true q44) rfl)
                              go_wp2_with (first | ((with_reducible refine gate_store (t := 3) (p := 65) rfl ?_); have n0_ : Aside0 (Kd.R (Kd.int .i64) 3 (((w15.setCell ⟨gb200, 0, none⟩ (.int .i64 ((rd_T86 l0_0 x10_1).f0))).setCell ⟨gb200, 1, none⟩ (.int .i64 ((rd_T86 l0_0 x10_1).f1))).setCell ⟨gb200, 2, none⟩ (.int .i64 ((rd_T86 l0_0 x10_1).f2))) w.heap.size (fun k_ => some k_ ≠ (.slice (some ⟨gA9, 0, none⟩) 40 40 : Value).ownBlock) u8 x8_1) := ⟨by (with_reducible repeat (first | apply Kd.R_alloc | apply Kd.R_drewN | apply Kd.R_drew)); exact Kd.R_mono (Kd.R_far (p := ⟨gb200, 2, none⟩) (Kd.R_far (p := ⟨gb200, 1, none⟩) (Kd.R_far (p := ⟨gb200, 0, none⟩) (Kd.R_types HO_8.out BK200.out (by decide)) (fun _ hk => hk.2) (.int .i64 ((rd_T86 l0_0 x10_1).f0))) (fun _ hk => hk.2) (.int .i64 ((rd_T86 l0_0 x10_1).f1))) (fun _ hk => hk.2) (.int .i64 ((rd_T86 l0_0 x10_1).f2))) (fun _ hk => hk.1)⟩; have n1_ : Aside0 (Kd.R (Kd.int .i64) 136 (((w15.setCell ⟨gb200, 0, none⟩ (.int .i64 ((rd_T86 l0_0 x10_1).f0))).setCell ⟨gb200, 1, none⟩ (.int .i64 ((rd_T86 l0_0 x10_1).f1))).setCell ⟨gb200, 2, none⟩ (.int .i64 ((rd_T86 l0_0 x10_1).f2))) w.heap.size (fun k_ => some k_ ≠ (u8 : Value).ownBlock) (.slice (some ⟨gA9, 0, none⟩) 40 40) x9_1) := ⟨by (with_reducible repeat (first | apply Kd.R_alloc | apply Kd.R_drewN | apply Kd.R_drew)); exact Kd.R_mono (Kd.R_far (p := ⟨gb200, 2, none⟩) (Kd.R_far (p := ⟨gb200, 1, none⟩) (Kd.R_far (p := ⟨gb200, 0, none⟩) (Kd.R_types HO_9.out BK200.out (by decide)) (fun _ hk => hk.2) (.int .i64 ((rd_T86 l0_0 x10_1).f0))) (fun _ hk => hk.2) (.int .i64 ((rd_T86 l0_0 x10_1).f1))) (fun _ hk => hk.2) (.int .i64 ((rd_T86 l0_0 x10_1).f2))) (fun _ hk => hk.1)⟩; have n2_ : Aside0 ((((w15.setCell ⟨gb200, 0, none⟩ (.int .i64 ((rd_T86 l0_0 x10_1).f0))).setCell ⟨gb200, 1, none⟩ (.int .i64 ((rd_T86 l0_0 x10_1).f1))).setCell ⟨gb200, 2, none⟩ (.int .i64 ((rd_T86 l0_0 x10_1).f2))).heap[gb192]? = some (.cells #[.slice (some ad199) l0_0.length c0_0, .slice A0_1 l0_1.length c0_1] 38 (0, 0))) := ⟨lJ BK192.out⟩; have n3_ : Aside0 ((((w15.setCell ⟨gb200, 0, none⟩ (.int .i64 ((rd_T86 l0_0 x10_1).f0))).setCell ⟨gb200, 1, none⟩ (.int .i64 ((rd_T86 l0_0 x10_1).f1))).setCell ⟨gb200, 2, none⟩ (.int .i64 ((rd_T86 l0_0 x10_1).f2))).heap[gb200]? = some (.cells #[.int .i64 ((rd_T86 l0_0 x10_1).f0), .int .i64 ((rd_T86 l0_0 x10_1).f1), .int .i64 ((rd_T86 l0_0 x10_1).f2)] 86 (0, 0))) := ⟨by (with_reducible repeat first | apply bN | apply bD | apply bA); refine blk_put (cs := #[.int .i64 ((rd_T86 l0_0 x10_1).f0), .int .i64 ((rd_T86 l0_0 x10_1).f1), .int .i64 0]) ?_ 2 _ rfl; (with_reducible repeat first | apply bN | apply bD | apply bA); refine blk_put (cs := #[.int .i64 ((rd_T86 l0_0 x10_1).f0), .int .i64 0, .int .i64 0]) ?_ 1 _ rfl; (with_reducible repeat first | apply bN | apply bD | apply bA); refine blk_put (cs := #[.int .i64 0, .int .i64 0, .int .i64 0]) ?_ 0 _ rfl; (with_reducible repeat first | apply bN | apply bD | apply bA); exact BK200.out⟩; have n4_ : Aside0 (Below w.heap.size w (((w15.setCell ⟨gb200, 0, none⟩ (.int .i64 ((rd_T86 l0_0 x10_1).f0))).setCell ⟨gb200, 1, none⟩ (.int .i64 ((rd_T86 l0_0 x10_1).f1))).setCell ⟨gb200, 2, none⟩ (.int .i64 ((rd_T86 l0_0 x10_1).f2)))) := ⟨lB⟩; (try clear HO_8); (try clear HO_9); (try clear BK192); (try clear BK200); (try clear HB); generalize (((w15.setCell ⟨gb200, 0, none⟩ (.int .i64 ((rd_T86 l0_0 x10_1).f0))).setCell ⟨gb200, 1, none⟩ (.int .i64 ((rd_T86 l0_0 x10_1).f1))).setCell ⟨gb200, 2, none⟩ (.int .i64 ((rd_T86 l0_0 x10_1).f2))) = w49 at n0_ n1_ n2_ n3_ n4_ ⊢; have HO_8 := n0_; have HO_9 := n1_; have BK192 := n2_; have BK200 := n3_; have HB := n4_; clear n0_ n1_ n2_ n3_ n4_; (try (rw [drewN_self w49]; generalize hq_ : World.drewN w49 _ = w49; have n0_ := Aside0.mk (Kd.R_at hq_ HO_8.out); have n1_ := Aside0.mk (Kd.R_at hq_ HO_9.out); have n2_ := Aside0.mk (blk_at hq_ BK192.out); have n3_ := Aside0.mk (blk_at hq_ BK200.out); have n4_ := Aside0.mk (below_at hq_ HB.out); clear hq_ HO_8 HO_9 BK192 BK200 HB; have HO_8 := n0_; have HO_9 := n1_; have BK192 := n2_; have BK200 := n3_; have HB := n4_; clear n0_ n1_ n2_ n3_ n4_)); obtain ⟨hy47_, hz47_⟩ := Kd.R_celln 0 HO_9.out (((rd_T86 l0_0 x10_1).f1) : Int) (lD) (arr_lt HO_9.out (lD)); have HP47 := Kd.R_putg HO_9.out (((rd_T86 l0_0 x10_1).f1) : Int) 0; refine store_event (t := 3) (p := 65) (v := ?vo_w48) (w1 := (w49.setCell ⟨gA9, (((rd_T86 l0_0 x10_1).f1) : Int).toNat, none⟩ (.int .i64 0))) ?hg ?ho ?hn ?hr ?_; (case ho => rfl); (case hg => rfl); (case hn => rfl); (case hr => first | (go_simp; done) | (go_simp; rfl)); intro w48 hw; have hg : w49.grownBy w48 (some gA9) := (by rw [hw]; exact HP47.2); have hp_ : Kd.R (Kd.int .i64) 136 w48 w.heap.size (fun k_ => some k_ ≠ (u8 : Value).ownBlock) (.slice (some ⟨gA9, 0, none⟩) 40 40) y205 := (by rw [hw, Ny205.out]; exact HP47.1); clear HP47; have n0_ := Aside0.mk (Kd.R_after (v := (.slice (some ⟨gA9, 0, none⟩) 40 40)) (v1 := (.slice (some ⟨gA9, 0, none⟩) 40 40)) (ok := (fun _ => True)) (by (with_reducible repeat (first | apply Kd.R_alloc | apply Kd.R_drewN | apply Kd.R_drew)); exact Kd.R_mono HO_8.out (fun _ hk => ⟨trivial, hk⟩)) hg (.inl rfl)); have n1_ := Aside0.mk (hp_); have n2_ := Aside0.mk (blk_grown (lK BK192.out) hg (Kd.R_ne HO_9.out BK192.out (by decide))); have n3_ := Aside0.mk (blk_grown (lK BK200.out) hg (Kd.R_ne HO_9.out BK200.out (by decide))); have n4_ := Aside0.mk ((by rw [hw]; exact below_set (HB.out) GB44.out : Below w.heap.size w w48)); clear HO_8; clear HO_9; clear BK192; clear BK200; clear HB; have HO_8 := n0_; have HO_9 := n1_; have BK192 := n2_; have BK200 := n3_; have HB := n4_; clear n0_ n1_ n2_ n3_ n4_; clear hg hw hp_))
                              repeat (go_quiet (fail); try go_wp2_with (first | ((with_reducible refine gate_store (t := 3) (p := 65) rfl ?_); have n0_ : Aside0 (Kd.R (Kd.int .i64) 3 (((w15.setCell ⟨gb200, 0, none⟩ (.int .i64 ((rd_T86 l0_0 x10_1).f0))).setCell ⟨gb200, 1, none⟩ (.int .i64 ((rd_T86 l0_0 x10_1).f1))).setCell ⟨gb200, 2, none⟩ (.int .i64 ((rd_T86 l0_0 x10_1).f2))) w.heap.size (fun k_ => some k_ ≠ (.slice (some ⟨gA9, 0, none⟩) 40 40 : Value).ownBlock) u8 x8_1) := ⟨by (with_reducible repeat (first | apply Kd.R_alloc | apply Kd.R_drewN | apply Kd.R_drew)); exact Kd.R_mono (Kd.R_far (p := ⟨gb200, 2, none⟩) (Kd.R_far (p := ⟨gb200, 1, none⟩) (Kd.R_far (p := ⟨gb200, 0, none⟩) (Kd.R_types HO_8.out BK200.out (by decide)) (fun _ hk => hk.2) (.int .i64 ((rd_T86 l0_0 x10_1).f0))) (fun _ hk => hk.2) (.int .i64 ((rd_T86 l0_0 x10_1).f1))) (fun _ hk => hk.2) (.int .i64 ((rd_T86 l0_0 x10_1).f2))) (fun _ hk => hk.1)⟩; have n1_ : Aside0 (Kd.R (Kd.int .i64) 136 (((w15.setCell ⟨gb200, 0, none⟩ (.int .i64 ((rd_T86 l0_0 x10_1).f0))).setCell ⟨gb200, 1, none⟩ (.int .i64 ((rd_T86 l0_0 x10_1).f1))).setCell ⟨gb200, 2, none⟩ (.int .i64 ((rd_T86 l0_0 x10_1).f2))) w.heap.size (fun k_ => some k_ ≠ (u8 : Value).ownBlock) (.slice (some ⟨gA9, 0, none⟩) 40 40) x9_1) := ⟨by (with_reducible repeat (first | apply Kd.R_alloc | apply Kd.R_drewN | apply Kd.R_drew)); exact Kd.R_mono (Kd.R_far (p := ⟨gb200, 2, none⟩) (Kd.R_far (p := ⟨gb200, 1, none⟩) (Kd.R_far (p := ⟨gb200, 0, none⟩) (Kd.R_types HO_9.out BK200.out (by decide)) (fun _ hk => hk.2) (.int .i64 ((rd_T86 l0_0 x10_1).f0))) (fun _ hk => hk.2) (.int .i64 ((rd_T86 l0_0 x10_1).f1))) (fun _ hk => hk.2) (.int .i64 ((rd_T86 l0_0 x10_1).f2))) (fun _ hk => hk.1)⟩; have n2_ : Aside0 ((((w15.setCell ⟨gb200, 0, none⟩ (.int .i64 ((rd_T86 l0_0 x10_1).f0))).setCell ⟨gb200, 1, none⟩ (.int .i64 ((rd_T86 l0_0 x10_1).f1))).setCell ⟨gb200, 2, none⟩ (.int .i64 ((rd_T86 l0_0 x10_1).f2))).heap[gb192]? = some (.cells #[.slice (some ad199) l0_0.length c0_0, .slice A0_1 l0_1.length c0_1] 38 (0, 0))) := ⟨lJ BK192.out⟩; have n3_ : Aside0 ((((w15.setCell ⟨gb200, 0, none⟩ (.int .i64 ((rd_T86 l0_0 x10_1).f0))).setCell ⟨gb200, 1, none⟩ (.int .i64 ((rd_T86 l0_0 x10_1).f1))).setCell ⟨gb200, 2, none⟩ (.int .i64 ((rd_T86 l0_0 x10_1).f2))).heap[gb200]? = some (.cells #[.int .i64 ((rd_T86 l0_0 x10_1).f0), .int .i64 ((rd_T86 l0_0 x10_1).f1), .int .i64 ((rd_T86 l0_0 x10_1).f2)] 86 (0, 0))) := ⟨by (with_reducible repeat first | apply bN | apply bD | apply bA); refine blk_put (cs := #[.int .i64 ((rd_T86 l0_0 x10_1).f0), .int .i64 ((rd_T86 l0_0 x10_1).f1), .int .i64 0]) ?_ 2 _ rfl; (with_reducible repeat first | apply bN | apply bD | apply bA); refine blk_put (cs := #[.int .i64 ((rd_T86 l0_0 x10_1).f0), .int .i64 0, .int .i64 0]) ?_ 1 _ rfl; (with_reducible repeat first | apply bN | apply bD | apply bA); refine blk_put (cs := #[.int .i64 0, .int .i64 0, .int .i64 0]) ?_ 0 _ rfl; (with_reducible repeat first | apply bN | apply bD | apply bA); exact BK200.out⟩; have n4_ : Aside0 (Below w.heap.size w (((w15.setCell ⟨gb200, 0, none⟩ (.int .i64 ((rd_T86 l0_0 x10_1).f0))).setCell ⟨gb200, 1, none⟩ (.int .i64 ((rd_T86 l0_0 x10_1).f1))).setCell ⟨gb200, 2, none⟩ (.int .i64 ((rd_T86 l0_0 x10_1).f2)))) := ⟨lB⟩; (try clear HO_8); (try clear HO_9); (try clear BK192); (try clear BK200); (try clear HB); generalize (((w15.setCell ⟨gb200, 0, none⟩ (.int .i64 ((rd_T86 l0_0 x10_1).f0))).setCell ⟨gb200, 1, none⟩ (.int .i64 ((rd_T86 l0_0 x10_1).f1))).setCell ⟨gb200, 2, none⟩ (.int .i64 ((rd_T86 l0_0 x10_1).f2))) = w49 at n0_ n1_ n2_ n3_ n4_ ⊢; have HO_8 := n0_; have HO_9 := n1_; have BK192 := n2_; have BK200 := n3_; have HB := n4_; clear n0_ n1_ n2_ n3_ n4_; (try (rw [drewN_self w49]; generalize hq_ : World.drewN w49 _ = w49; have n0_ := Aside0.mk (Kd.R_at hq_ HO_8.out); have n1_ := Aside0.mk (Kd.R_at hq_ HO_9.out); have n2_ := Aside0.mk (blk_at hq_ BK192.out); have n3_ := Aside0.mk (blk_at hq_ BK200.out); have n4_ := Aside0.mk (below_at hq_ HB.out); clear hq_ HO_8 HO_9 BK192 BK200 HB; have HO_8 := n0_; have HO_9 := n1_; have BK192 := n2_; have BK200 := n3_; have HB := n4_; clear n0_ n1_ n2_ n3_ n4_)); obtain ⟨hy47_, hz47_⟩ := Kd.R_celln 0 HO_9.out (((rd_T86 l0_0 x10_1).f1) : Int) (lD) (arr_lt HO_9.out (lD)); have HP47 := Kd.R_putg HO_9.out (((rd_T86 l0_0 x10_1).f1) : Int) 0; refine store_event (t := 3) (p := 65) (v := ?vo_w48) (w1 := (w49.setCell ⟨gA9, (((rd_T86 l0_0 x10_1).f1) : Int).toNat, none⟩ (.int .i64 0))) ?hg ?ho ?hn ?hr ?_; (case ho => rfl); (case hg => rfl); (case hn => rfl); (case hr => first | (go_simp; done) | (go_simp; rfl)); intro w48 hw; have hg : w49.grownBy w48 (some gA9) := (by rw [hw]; exact HP47.2); have hp_ : Kd.R (Kd.int .i64) 136 w48 w.heap.size (fun k_ => some k_ ≠ (u8 : Value).ownBlock) (.slice (some ⟨gA9, 0, none⟩) 40 40) y205 := (by rw [hw, Ny205.out]; exact HP47.1); clear HP47; have n0_ := Aside0.mk (Kd.R_after (v := (.slice (some ⟨gA9, 0, none⟩) 40 40)) (v1 := (.slice (some ⟨gA9, 0, none⟩) 40 40)) (ok := (fun _ => True)) (by (with_reducible repeat (first | apply Kd.R_alloc | apply Kd.R_drewN | apply Kd.R_drew)); exact Kd.R_mono HO_8.out (fun _ hk => ⟨trivial, hk⟩)) hg (.inl rfl)); have n1_ := Aside0.mk (hp_); have n2_ := Aside0.mk (blk_grown (lK BK192.out) hg (Kd.R_ne HO_9.out BK192.out (by decide))); have n3_ := Aside0.mk (blk_grown (lK BK200.out) hg (Kd.R_ne HO_9.out BK200.out (by decide))); have n4_ := Aside0.mk ((by rw [hw]; exact below_set (HB.out) GB44.out : Below w.heap.size w w48)); clear HO_8; clear HO_9; clear BK192; clear BK200; clear HB; have HO_8 := n0_; have HO_9 := n1_; have BK192 := n2_; have BK200 := n3_; have HB := n4_; clear n0_ n1_ n2_ n3_ n4_; clear hg hw hp_)))
                              go_meet
                              case rel => exact ⟨_, (x8_1), (y205), (0), (wrap64 (x10_1 + 1)), lF, lF, H', ⟨by have := HK1.out; first | omega | exact Nat.le_refl _⟩, ⟨by (with_reducible repeat (first | apply Kd.R_alloc | apply Kd.R_drewN | apply Kd.R_drew)); exact Kd.R_mono HO_8.out (fun _ hk => hk.2)⟩, ⟨lR HO_9.out⟩, ⟨lK BK192.out⟩, ⟨lK BK200.out⟩, ⟨lB⟩⟩
                            · rw [if_neg c43] at H
                              exact absurd H (by simp)
                          · rw [if_neg c42] at H
                            exact absurd H (by simp)
                        · rw [if_neg c41] at H
                          have c41b0 : (((rd_T86 l0_0 x10_1).f0) == 5) = false := beq_eq_false_iff_ne.mpr c41
                          have c41b1 : (((rd_T86 l0_0 x10_1).f0) != 5) = true := bne_iff_ne.mpr c41
                          by_cases c50 : ((rd_T86 l0_0 x10_1).f0) = 6
                          · rw [if_pos c50] at H
                            have c50b0 : (((rd_T86 l0_0 x10_1).f0) == 6) = true := beq_iff_eq.mpr c50
                            have c50b1 : (((rd_T86 l0_0 x10_1).f0) != 6) = false := bne_eq_false_iff_eq.mpr c50
                            clear c50
                            by_cases c51 : 0 ≤ ((rd_T86 l0_0 x10_1).f1)
                            · rw [if_pos c51] at H
                              have c51b0 : decide (0 ≤ ((rd_T86 l0_0 x10_1).f1)) = true := decide_eq_true c51
                              clear c51
                              by_cases c52 : ((rd_T86 l0_0 x10_1).f1) < (x9_1.length : Int)
                              · rw [if_pos c52] at H
                                have c52b0 : decide (((rd_T86 l0_0 x10_1).f1) < (x9_1.length : Int)) = true := decide_eq_true c52
                                clear c52
                                by_cases c53 : (rd x9_1 ((rd_T86 l0_0 x10_1).f1)) = ((rd_T86 l0_0 x10_1).f2)
                                · rw [if_pos c53] at H
                                  have c53b0 : ((rd x9_1 ((rd_T86 l0_0 x10_1).f1)) == ((rd_T86 l0_0 x10_1).f2)) = true := beq_iff_eq.mpr c53
                                  have c53b1 : ((rd x9_1 ((rd_T86 l0_0 x10_1).f1)) != ((rd_T86 l0_0 x10_1).f2)) = false := bne_eq_false_iff_eq.mpr c53
                                  clear c53
                                  have H' := Aside0.mk H
                                  clear H
                                  have hnb54 := NB200_192.out
                                  have hnc54 := NB192_200.out
                                  obtain ⟨hcz55_0, hfz55_0, hcz55_1, hfz55_1, hcz55_2, hfz55_2⟩ := bk3 BK200.out
                                  have p206 : 0 ≤ (((rd_T86 l0_0 x10_1).f1) : Int) := lD
                                  have q206 : ((rd_T86 l0_0 x10_1).f1) < (x9_1.length : Int) := lD
                                  obtain ⟨ad206, e206, hx206_0⟩ := Kd.at_int (Kd.R_reads' HO_9.out).2.2 ((rd_T86 l0_0 x10_1).f1) p206 q206
                                  cases e206
                                  have hn206_0 : (⟨gA9, 0, none⟩ : Addr).block ≠ gb200 := Kd.own_blk (Kd.R_ne HO_9.out BK200.out (by decide))
                                  have hn206_1 : (⟨gA9, 0, none⟩ : Addr).block ≠ gb200 := Kd.own_blk (Kd.R_ne HO_9.out BK200.out (by decide))
                                  have hn206_2 : (⟨gA9, 0, none⟩ : Addr).block ≠ gb200 := Kd.own_blk (Kd.R_ne HO_9.out BK200.out (by decide))
                                  replace hx206_0 := (cell_far (p := ⟨gb200, 0, none⟩) (by first | (rw [add_block]; exact hn206_0) | (show (Addr.add _ _).block ≠ _; rw [add_block]; exact hn206_0) | exact hn206_0) (.int .i64 ((rd_T86 l0_0 x10_1).f0))).trans hx206_0
                                  replace hx206_0 := (cell_far (p := ⟨gb200, 1, none⟩) (by first | (rw [add_block]; exact hn206_1) | (show (Addr.add _ _).block ≠ _; rw [add_block]; exact hn206_1) | exact hn206_1) (.int .i64 ((rd_T86 l0_0 x10_1).f1))).trans hx206_0
                                  replace hx206_0 := (cell_far (p := ⟨gb200, 2, none⟩) (by first | (rw [add_block]; exact hn206_2) | (show (Addr.add _ _).block ≠ _; rw [add_block]; exact hn206_2) | exact hn206_2) (.int .i64 ((rd_T86 l0_0 x10_1).f2))).trans hx206_0
                                  (try have hy206_0 := fun (n_ : Nat) => (show (((((w15.drewN n_).setCell ⟨gb200, 0, none⟩ (.int .i64 ((rd_T86 l0_0 x10_1).f0))).setCell ⟨gb200, 1, none⟩ (.int .i64 ((rd_T86 l0_0 x10_1).f1))).setCell ⟨gb200, 2, none⟩ (.int .i64 ((rd_T86 l0_0 x10_1).f2)))).cell? _ = some _ from hx206_0))
                                  clear hn206_0
                                  clear hn206_1
                                  clear hn206_2
                                  replace p206 := eq_true p206
                                  replace q206 := eq_true q206
                                  have bA206 := eq_true (arr_lt2 40 HO_9.out (of_eq_true q206) rfl)
                                  have hA206 := hx206_0
                                  simp only [add_plain] at hA206
                                  clear hx206_0
                                  go_wp2
                                  repeat (go_quiet (fail); try go_wp2)
                                  go_meet
                                  case rel => exact ⟨_, (x8_1), (x9_1), (0), (wrap64 (x10_1 + 1)), lF, lF, H', ⟨by have := HK1.out; first | omega | exact Nat.le_refl _⟩, ⟨by (with_reducible repeat (first | apply Kd.R_alloc | apply Kd.R_drewN | apply Kd.R_drew)); exact Kd.R_mono (Kd.R_far (p := ⟨gb200, 2, none⟩) (Kd.R_far (p := ⟨gb200, 1, none⟩) (Kd.R_far (p := ⟨gb200, 0, none⟩) (Kd.R_types HO_8.out BK200.out (by decide)) (fun _ hk => hk.2) (.int .i64 ((rd_T86 l0_0 x10_1).f0))) (fun _ hk => hk.2) (.int .i64 ((rd_T86 l0_0 x10_1).f1))) (fun _ hk => hk.2) (.int .i64 ((rd_T86 l0_0 x10_1).f2))) (fun _ hk => hk.1)⟩, ⟨by (with_reducible repeat (first | apply Kd.R_alloc | apply Kd.R_drewN | apply Kd.R_drew)); exact Kd.R_mono (Kd.R_far (p := ⟨gb200, 2, none⟩) (Kd.R_far (p := ⟨gb200, 1, none⟩) (Kd.R_far (p := ⟨gb200, 0, none⟩) (Kd.R_types HO_9.out BK200.out (by decide)) (fun _ hk => hk.2) (.int .i64 ((rd_T86 l0_0 x10_1).f0))) (fun _ hk => hk.2) (.int .i64 ((rd_T86 l0_0 x10_1).f1))) (fun _ hk => hk.2) (.int .i64 ((rd_T86 l0_0 x10_1).f2))) (fun _ hk => hk.1)⟩, ⟨lJ BK192.out⟩, ⟨by (with_reducible repeat first | apply bN | apply bD | apply bA); refine blk_put (cs := #[.int .i64 ((rd_T86 l0_0 x10_1).f0), .int .i64 ((rd_T86 l0_0 x10_1).f1), .int .i64 0]) ?_ 2 _ rfl; (with_reducible repeat first | apply bN | apply bD | apply bA); refine blk_put (cs := #[.int .i64 ((rd_T86 l0_0 x10_1).f0), .int .i64 0, .int .i64 0]) ?_ 1 _ rfl; (with_reducible repeat first | apply bN | apply bD | apply bA); refine blk_put (cs := #[.int .i64 0, .int .i64 0, .int .i64 0]) ?_ 0 _ rfl; (with_reducible repeat first | apply bN | apply bD | apply bA); exact BK200.out⟩, ⟨lB⟩⟩
                                · rw [if_neg c53] at H
                                  have c53b0 : ((rd x9_1 ((rd_T86 l0_0 x10_1).f1)) == ((rd_T86 l0_0 x10_1).f2)) = false := beq_eq_false_iff_ne.mpr c53
                                  have c53b1 : ((rd x9_1 ((rd_T86 l0_0 x10_1).f1)) != ((rd_T86 l0_0 x10_1).f2)) = true := bne_iff_ne.mpr c53
                                  obtain ⟨y208, hy208⟩ : ∃ y_ : List Int, y_ = (x9_1.set (((rd_T86 l0_0 x10_1).f1) : Int).toNat (wrap64 ((rd x9_1 ((rd_T86 l0_0 x10_1).f1)) + 1))) := ⟨_, rfl⟩
                                  replace H : (impl_runLined.j1 k1 a1 x8_1 y208 x10_1 (wrap64 (x11_1 + 1)) 0 (wrap64 ((wrap64 (x10_1 + 1)) + 1)) l0_0 l0_1) = some (r1, r2, r3, r4) := by first | (rw [hy208]; with_reducible exact H) | (have H2_ := (Option.bind_some _ _).symm.trans H; rw [hy208]; with_reducible exact H2_) | (have H2_ := (Option.bind_some _ _).symm.trans H; with_reducible exact H2_) | with_reducible exact H | (rw [hy208]; exact H) | exact H
                                  have Ny208 := Aside0.mk hy208
                                  clear hy208
                                  have H' := Aside0.mk H
                                  clear H
                                  have hnb58 := NB200_192.out
                                  have hnc58 := NB192_200.out
                                  obtain ⟨hcz59_0, hfz59_0, hcz59_1, hfz59_1, hcz59_2, hfz59_2⟩ := bk3 BK200.out
                                  have p206 : 0 ≤ (((rd_T86 l0_0 x10_1).f1) : Int) := lD
                                  have q206 : ((rd_T86 l0_0 x10_1).f1) < (x9_1.length : Int) := lD
                                  obtain ⟨ad206, e206, hx206_0⟩ := Kd.at_int (Kd.R_reads' HO_9.out).2.2 ((rd_T86 l0_0 x10_1).f1) p206 q206
                                  cases e206
                                  have hn206_0 : (⟨gA9, 0, none⟩ : Addr).block ≠ gb200 := Kd.own_blk (Kd.R_ne HO_9.out BK200.out (by decide))
                                  have hn206_1 : (⟨gA9, 0, none⟩ : Addr).block ≠ gb200 := Kd.own_blk (Kd.R_ne HO_9.out BK200.out (by decide))
                                  have hn206_2 : (⟨gA9, 0, none⟩ : Addr).block ≠ gb200 := Kd.own_blk (Kd.R_ne HO_9.out BK200.out (by decide))
                                  replace hx206_0 := (cell_far (p := ⟨gb200, 0, none⟩) (by first | (rw [add_block]; exact hn206_0) | (show (Addr.add _ _).block ≠ _; rw [add_block]; exact hn206_0) | exact hn206_0) (.int .i64 ((rd_T86 l0_0 x10_1).f0))).trans hx206_0
                                  replace hx206_0 := (cell_far (p := ⟨gb200, 1, none⟩) (by first | (rw [add_block]; exact hn206_1) | (show (Addr.add _ _).block ≠ _; rw [add_block]; exact hn206_1) | exact hn206_1) (.int .i64 ((rd_T86 l0_0 x10_1).f1))).trans hx206_0
                                  replace hx206_0 := (cell_far (p := ⟨gb200, 2, none⟩) (by first | (rw [add_block]; exact hn206_2) | (show (Addr.add _ _).block ≠ _; rw [add_block]; exact hn206_2) | exact hn206_2) (.int .i64 ((rd_T86 l0_0 x10_1).f2))).trans hx206_0
                                  (try have hy206_0 := fun (n_ : Nat) => (show (((((w15.drewN n_).setCell ⟨gb200, 0, none⟩ (.int .i64 ((rd_T86 l0_0 x10_1).f0))).setCell ⟨gb200, 1, none⟩ (.int .i64 ((rd_T86 l0_0 x10_1).f1))).setCell ⟨gb200, 2, none⟩ (.int .i64 ((rd_T86 l0_0 x10_1).f2)))).cell? _ = some _ from hx206_0))
                                  clear hn206_0
                                  clear hn206_1
                                  clear hn206_2
                                  replace p206 := eq_true p206
                                  replace q206 := eq_true q206
                                  have bA206 := eq_true (arr_lt2 40 HO_9.out (of_eq_true q206) rfl)
                                  have hA206 := hx206_0
                                  simp only [add_plain] at hA206
                                  clear hx206_0
                                  have p207 : 0 ≤ (((rd_T86 l0_0 x10_1).f1) : Int) := lD
                                  have q207 : ((rd_T86 l0_0 x10_1).f1) < (x9_1.length : Int) := lD
                                  obtain ⟨ad207, e207, hx207_0⟩ := Kd.at_int (Kd.R_reads' HO_9.out).2.2 ((rd_T86 l0_0 x10_1).f1) p207 q207
                                  cases e207
                                  have hn207_0 : (⟨gA9, 0, none⟩ : Addr).block ≠ gb200 := Kd.own_blk (Kd.R_ne HO_9.out BK200.out (by decide))
                                  have hn207_1 : (⟨gA9, 0, none⟩ : Addr).block ≠ gb200 := Kd.own_blk (Kd.R_ne HO_9.out BK200.out (by decide))
                                  have hn207_2 : (⟨gA9, 0, none⟩ : Addr).block ≠ gb200 := Kd.own_blk (Kd.R_ne HO_9.out BK200.out (by decide))
                                  replace hx207_0 := (cell_far (p := ⟨gb200, 0, none⟩) (by first | (rw [add_block]; exact hn207_0) | (show (Addr.add _ _).block ≠ _; rw [add_block]; exact hn207_0) | exact hn207_0) (.int .i64 ((rd_T86 l0_0 x10_1).f0))).trans hx207_0
                                  replace hx207_0 := (cell_far (p := ⟨gb200, 1, none⟩) (by first | (rw [add_block]; exact hn207_1) | (show (Addr.add _ _).block ≠ _; rw [add_block]; exact hn207_1) | exact hn207_1) (.int .i64 ((rd_T86 l0_0 x10_1).f1))).trans hx207_0
                                  replace hx207_0 := (cell_far (p := ⟨gb200, 2, none⟩) (by first | (rw [add_block]; exact hn207_2) | (show (Addr.add _ _).block ≠ _; rw [add_block]; exact hn207_2) | exact hn207_2) (.int .i64 ((rd_T86 l0_0 x10_1).f2))).trans hx207_0
                                  (try have hy207_0 := fun (n_ : Nat) => (show (((((w15.drewN n_).setCell ⟨gb200, 0, none⟩ (.int .i64 ((rd_T86 l0_0 x10_1).f0))).setCell ⟨gb200, 1, none⟩ (.int .i64 ((rd_T86 l0_0 x10_1).f1))).setCell ⟨gb200, 2, none⟩ (.int .i64 ((rd_T86 l0_0 x10_1).f2)))).cell? _ = some _ from hx207_0))
                                  clear hn207_0
                                  clear hn207_1
                                  clear hn207_2
                                  replace p207 := eq_true p207
                                  replace q207 := eq_true q207
                                  have bA207 := eq_true (arr_lt2 40 HO_9.out (of_eq_true q207) rfl)
                                  have hA207 := hx207_0
                                  simp only [add_plain] at hA207
                                  clear hx207_0
                                  have p57 : 0 ≤ (((rd_T86 l0_0 x10_1).f1) : Int) := lD
                                  have q57 : (((rd_T86 l0_0 x10_1).f1) : Int) < ((x9_1.length : Int) : Int) := lD
                                  obtain ⟨gb57, HG57⟩ := arr_form HO_9.out (by omega)
                                  have GB57 := Aside0.mk gb57
                                  have GG57 := Aside0.mk HG57
                                  clear gb57 HG57
                                  (first | simp only [add_plain] at hx206_0 | skip)
                                  (first | simp only [add_plain] at hx207_0 | skip)
                                  obtain ⟨hx57_0, hf57_0⟩ := Kd.R_celln 0 (Kd.R_far (p := ⟨gb200, 2, none⟩) (Kd.R_far (p := ⟨gb200, 1, none⟩) (Kd.R_far (p := ⟨gb200, 0, none⟩) (Kd.R_types HO_9.out BK200.out (by decide)) (fun _ hk => hk.2) (.int .i64 ((rd_T86 l0_0 x10_1).f0))) (fun _ hk => hk.2) (.int .i64 ((rd_T86 l0_0 x10_1).f1))) (fun _ hk => hk.2) (.int .i64 ((rd_T86 l0_0 x10_1).f2))) (((rd_T86 l0_0 x10_1).f1) : Int) p57 (arr_lt HO_9.out q57)
                                  replace p57 := eq_true p57
                                  replace q57 := eq_true q57
                                  have bA57 := eq_true (arr_lt2 40 HO_9.out (of_eq_true q57) rfl)
                                  go_wp2_with (first | ((with_reducible refine gate_store (t := 3) (p := 80) rfl ?_); have n0_ : Aside0 (Kd.R (Kd.int .i64) 3 (((w15.setCell ⟨gb200, 0, none⟩ (.int .i64 ((rd_T86 l0_0 x10_1).f0))).setCell ⟨gb200, 1, none⟩ (.int .i64 ((rd_T86 l0_0 x10_1).f1))).setCell ⟨gb200, 2, none⟩ (.int .i64 ((rd_T86 l0_0 x10_1).f2))) w.heap.size (fun k_ => some k_ ≠ (.slice (some ⟨gA9, 0, none⟩) 40 40 : Value).ownBlock) u8 x8_1) := ⟨by (with_reducible repeat (first | apply Kd.R_alloc | apply Kd.R_drewN | apply Kd.R_drew)); exact Kd.R_mono (Kd.R_far (p := ⟨gb200, 2, none⟩) (Kd.R_far (p := ⟨gb200, 1, none⟩) (Kd.R_far (p := ⟨gb200, 0, none⟩) (Kd.R_types HO_8.out BK200.out (by decide)) (fun _ hk => hk.2) (.int .i64 ((rd_T86 l0_0 x10_1).f0))) (fun _ hk => hk.2) (.int .i64 ((rd_T86 l0_0 x10_1).f1))) (fun _ hk => hk.2) (.int .i64 ((rd_T86 l0_0 x10_1).f2))) (fun _ hk => hk.1)⟩; have n1_ : Aside0 (Kd.R (Kd.int .i64) 136 (((w15.setCell ⟨gb200, 0, none⟩ (.int .i64 ((rd_T86 l0_0 x10_1).f0))).setCell ⟨gb200, 1, none⟩ (.int .i64 ((rd_T86 l0_0 x10_1).f1))).setCell ⟨gb200, 2, none⟩ (.int .i64 ((rd_T86 l0_0 x10_1).f2))) w.heap.size (fun k_ => some k_ ≠ (u8 : Value).ownBlock) (.slice (some ⟨gA9, 0, none⟩) 40 40) x9_1) := ⟨by (with_reducible repeat (first | apply Kd.R_alloc | apply Kd.R_drewN | apply Kd.R_drew)); exact Kd.R_mono (Kd.R_far (p := ⟨gb200, 2, none⟩) (Kd.R_far (p := ⟨gb200, 1, none⟩) (Kd.R_far (p := ⟨gb200, 0, none⟩) (Kd.R_types HO_9.out BK200.out (by decide)) (fun _ hk => hk.2) (.int .i64 ((rd_T86 l0_0 x10_1).f0))) (fun _ hk => hk.2) (.int .i64 ((rd_T86 l0_0 x10_1).f1))) (fun _ hk => hk.2) (.int .i64 ((rd_T86 l0_0 x10_1).f2))) (fun _ hk => hk.1)⟩; have n2_ : Aside0 ((((w15.setCell ⟨gb200, 0, none⟩ (.int .i64 ((rd_T86 l0_0 x10_1).f0))).setCell ⟨gb200, 1, none⟩ (.int .i64 ((rd_T86 l0_0 x10_1).f1))).setCell ⟨gb200, 2, none⟩ (.int .i64 ((rd_T86 l0_0 x10_1).f2))).heap[gb192]? = some (.cells #[.slice (some ad199) l0_0.length c0_0, .slice A0_1 l0_1.length c0_1] 38 (0, 0))) := ⟨lJ BK192.out⟩; have n3_ : Aside0 ((((w15.setCell ⟨gb200, 0, none⟩ (.int .i64 ((rd_T86 l0_0 x10_1).f0))).setCell ⟨gb200, 1, none⟩ (.int .i64 ((rd_T86 l0_0 x10_1).f1))).setCell ⟨gb200, 2, none⟩ (.int .i64 ((rd_T86 l0_0 x10_1).f2))).heap[gb200]? = some (.cells #[.int .i64 ((rd_T86 l0_0 x10_1).f0), .int .i64 ((rd_T86 l0_0 x10_1).f1), .int .i64 ((rd_T86 l0_0 x10_1).f2)] 86 (0, 0))) := ⟨by (with_reducible repeat first | apply bN | apply bD | apply bA); refine blk_put (cs := #[.int .i64 ((rd_T86 l0_0 x10_1).f0), .int .i64 ((rd_T86 l0_0 x10_1).f1), .int .i64 0]) ?_ 2 _ rfl; (with_reducible repeat first | apply bN | apply bD | apply bA); refine blk_put (cs := #[.int .i64 ((rd_T86 l0_0 x10_1).f0), .int .i64 0, .int .i64 0]) ?_ 1 _ rfl; (with_reducible repeat first | apply bN | apply bD | apply bA); refine blk_put (cs := #[.int .i64 0, .int .i64 0, .int .i64 0]) ?_ 0 _ rfl; (with_reducible repeat first | apply bN | apply bD | apply bA); exact BK200.out⟩; have n4_ : Aside0 (Below w.heap.size w (((w15.setCell ⟨gb200, 0, none⟩ (.int .i64 ((rd_T86 l0_0 x10_1).f0))).setCell ⟨gb200, 1, none⟩ (.int .i64 ((rd_T86 l0_0 x10_1).f1))).setCell ⟨gb200, 2, none⟩ (.int .i64 ((rd_T86 l0_0 x10_1).f2)))) := ⟨lB⟩; (try clear HO_8); (try clear HO_9); (try clear BK192); (try clear BK200); (try clear HB); generalize (((w15.setCell ⟨gb200, 0, none⟩ (.int .i64 ((rd_T86 l0_0 x10_1).f0))).setCell ⟨gb200, 1, none⟩ (.int .i64 ((rd_T86 l0_0 x10_1).f1))).setCell ⟨gb200, 2, none⟩ (.int .i64 ((rd_T86 l0_0 x10_1).f2))) = w63 at n0_ n1_ n2_ n3_ n4_ ⊢; have HO_8 := n0_; have HO_9 := n1_; have BK192 := n2_; have BK200 := n3_; have HB := n4_; clear n0_ n1_ n2_ n3_ n4_; (try (rw [drewN_self w63]; generalize hq_ : World.drewN w63 _ = w63; have n0_ := Aside0.mk (Kd.R_at hq_ HO_8.out); have n1_ := Aside0.mk (Kd.R_at hq_ HO_9.out); have n2_ := Aside0.mk (blk_at hq_ BK192.out); have n3_ := Aside0.mk (blk_at hq_ BK200.out); have n4_ := Aside0.mk (below_at hq_ HB.out); clear hq_ HO_8 HO_9 BK192 BK200 HB; have HO_8 := n0_; have HO_9 := n1_; have BK192 := n2_; have BK200 := n3_; have HB := n4_; clear n0_ n1_ n2_ n3_ n4_)); obtain ⟨hy61_, hz61_⟩ := Kd.R_celln 0 HO_9.out (((rd_T86 l0_0 x10_1).f1) : Int) (lD) (arr_lt HO_9.out (lD)); have HP61 := Kd.R_putg HO_9.out (((rd_T86 l0_0 x10_1).f1) : Int) (wrap64 ((rd x9_1 ((rd_T86 l0_0 x10_1).f1)) + 1)); refine store_event (t := 3) (p := 80) (v := ?vo_w62) (w1 := (w63.setCell ⟨gA9, (((rd_T86 l0_0 x10_1).f1) : Int).toNat, none⟩ (.int .i64 (wrap64 ((rd x9_1 ((rd_T86 l0_0 x10_1).f1)) + 1))))) ?hg ?ho ?hn ?hr ?_; (case ho => rfl); (case hg => rfl); (case hn => rfl); (case hr => first | (go_simp; done) | (go_simp; rfl)); intro w62 hw; have hg : w63.grownBy w62 (some gA9) := (by rw [hw]; exact HP61.2); have hp_ : Kd.R (Kd.int .i64) 136 w62 w.heap.size (fun k_ => some k_ ≠ (u8 : Value).ownBlock) (.slice (some ⟨gA9, 0, none⟩) 40 40) y208 := (by rw [hw, Ny208.out]; exact HP61.1); clear HP61; have n0_ := Aside0.mk (Kd.R_after (v := (.slice (some ⟨gA9, 0, none⟩) 40 40)) (v1 := (.slice (some ⟨gA9, 0, none⟩) 40 40)) (ok := (fun _ => True)) (by (with_reducible repeat (first | apply Kd.R_alloc | apply Kd.R_drewN | apply Kd.R_drew)); exact Kd.R_mono HO_8.out (fun _ hk => ⟨trivial, hk⟩)) hg (.inl rfl)); have n1_ := Aside0.mk (hp_); have n2_ := Aside0.mk (blk_grown (lK BK192.out) hg (Kd.R_ne HO_9.out BK192.out (by decide))); have n3_ := Aside0.mk (blk_grown (lK BK200.out) hg (Kd.R_ne HO_9.out BK200.out (by decide))); have n4_ := Aside0.mk ((by rw [hw]; exact below_set (HB.out) GB57.out : Below w.heap.size w w62)); clear HO_8; clear HO_9; clear BK192; clear BK200; clear HB; have HO_8 := n0_; have HO_9 := n1_; have BK192 := n2_; have BK200 := n3_; have HB := n4_; clear n0_ n1_ n2_ n3_ n4_; clear hg hw hp_))
                                  repeat (go_quiet (fail); try go_wp2_with (first | ((with_reducible refine gate_store (t := 3) (p := 80) rfl ?_); have n0_ : Aside0 (Kd.R (Kd.int .i64) 3 (((w15.setCell ⟨gb200, 0, none⟩ (.int .i64 ((rd_T86 l0_0 x10_1).f0))).setCell ⟨gb200, 1, none⟩ (.int .i64 ((rd_T86 l0_0 x10_1).f1))).setCell ⟨gb200, 2, none⟩ (.int .i64 ((rd_T86 l0_0 x10_1).f2))) w.heap.size (fun k_ => some k_ ≠ (.slice (some ⟨gA9, 0, none⟩) 40 40 : Value).ownBlock) u8 x8_1) := ⟨by (with_reducible repeat (first | apply Kd.R_alloc | apply Kd.R_drewN | apply Kd.R_drew)); exact Kd.R_mono (Kd.R_far (p := ⟨gb200, 2, none⟩) (Kd.R_far (p := ⟨gb200, 1, none⟩) (Kd.R_far (p := ⟨gb200, 0, none⟩) (Kd.R_types HO_8.out BK200.out (by decide)) (fun _ hk => hk.2) (.int .i64 ((rd_T86 l0_0 x10_1).f0))) (fun _ hk => hk.2) (.int .i64 ((rd_T86 l0_0 x10_1).f1))) (fun _ hk => hk.2) (.int .i64 ((rd_T86 l0_0 x10_1).f2))) (fun _ hk => hk.1)⟩; have n1_ : Aside0 (Kd.R (Kd.int .i64) 136 (((w15.setCell ⟨gb200, 0, none⟩ (.int .i64 ((rd_T86 l0_0 x10_1).f0))).setCell ⟨gb200, 1, none⟩ (.int .i64 ((rd_T86 l0_0 x10_1).f1))).setCell ⟨gb200, 2, none⟩ (.int .i64 ((rd_T86 l0_0 x10_1).f2))) w.heap.size (fun k_ => some k_ ≠ (u8 : Value).ownBlock) (.slice (some ⟨gA9, 0, none⟩) 40 40) x9_1) := ⟨by (with_reducible repeat (first | apply Kd.R_alloc | apply Kd.R_drewN | apply Kd.R_drew)); exact Kd.R_mono (Kd.R_far (p := ⟨gb200, 2, none⟩) (Kd.R_far (p := ⟨gb200, 1, none⟩) (Kd.R_far (p := ⟨gb200, 0, none⟩) (Kd.R_types HO_9.out BK200.out (by decide)) (fun _ hk => hk.2) (.int .i64 ((rd_T86 l0_0 x10_1).f0))) (fun _ hk => hk.2) (.int .i64 ((rd_T86 l0_0 x10_1).f1))) (fun _ hk => hk.2) (.int .i64 ((rd_T86 l0_0 x10_1).f2))) (fun _ hk => hk.1)⟩; have n2_ : Aside0 ((((w15.setCell ⟨gb200, 0, none⟩ (.int .i64 ((rd_T86 l0_0 x10_1).f0))).setCell ⟨gb200, 1, none⟩ (.int .i64 ((rd_T86 l0_0 x10_1).f1))).setCell ⟨gb200, 2, none⟩ (.int .i64 ((rd_T86 l0_0 x10_1).f2))).heap[gb192]? = some (.cells #[.slice (some ad199) l0_0.length c0_0, .slice A0_1 l0_1.length c0_1] 38 (0, 0))) := ⟨lJ BK192.out⟩; have n3_ : Aside0 ((((w15.setCell ⟨gb200, 0, none⟩ (.int .i64 ((rd_T86 l0_0 x10_1).f0))).setCell ⟨gb200, 1, none⟩ (.int .i64 ((rd_T86 l0_0 x10_1).f1))).setCell ⟨gb200, 2, none⟩ (.int .i64 ((rd_T86 l0_0 x10_1).f2))).heap[gb200]? = some (.cells #[.int .i64 ((rd_T86 l0_0 x10_1).f0), .int .i64 ((rd_T86 l0_0 x10_1).f1), .int .i64 ((rd_T86 l0_0 x10_1).f2)] 86 (0, 0))) := ⟨by (with_reducible repeat first | apply bN | apply bD | apply bA); refine blk_put (cs := #[.int .i64 ((rd_T86 l0_0 x10_1).f0), .int .i64 ((rd_T86 l0_0 x10_1).f1), .int .i64 0]) ?_ 2 _ rfl; (with_reducible repeat first | apply bN | apply bD | apply bA); refine blk_put (cs := #[.int .i64 ((rd_T86 l0_0 x10_1).f0), .int .i64 0, .int .i64 0]) ?_ 1 _ rfl; (with_reducible repeat first | apply bN | apply bD | apply bA); refine blk_put (cs := #[.int .i64 0, .int .i64 0, .int .i64 0]) ?_ 0 _ rfl; (with_reducible repeat first | apply bN | apply bD | apply bA); exact BK200.out⟩; have n4_ : Aside0 (Below w.heap.size w (((w15.setCell ⟨gb200, 0, none⟩ (.int .i64 ((rd_T86 l0_0 x10_1).f0))).setCell ⟨gb200, 1, none⟩ (.int .i64 ((rd_T86 l0_0 x10_1).f1))).setCell ⟨gb200, 2, none⟩ (.int .i64 ((rd_T86 l0_0 x10_1).f2)))) := ⟨lB⟩; (try clear HO_8); (try clear HO_9); (try clear BK192); (try clear BK200); (try clear HB); generalize (((w15.setCell ⟨gb200, 0, none⟩ (.int .i64 ((rd_T86 l0_0 x10_1).f0))).setCell ⟨gb200, 1, none⟩ (.int .i64 ((rd_T86 l0_0 x10_1).f1))).setCell ⟨gb200, 2, none⟩ (.int .i64 ((rd_T86 l0_0 x10_1).f2))) = w63 at n0_ n1_ n2_ n3_ n4_ ⊢; have HO_8 := n0_; have HO_9 := n1_; have BK192 := n2_; have BK200 := n3_; have HB := n4_; clear n0_ n1_ n2_ n3_ n4_; (try (rw [drewN_self w63]; generalize hq_ : World.drewN w63 _ = w63; have n0_ := Aside0.mk (Kd.R_at hq_ HO_8.out); have n1_ := Aside0.mk (Kd.R_at hq_ HO_9.out); have n2_ := Aside0.mk (blk_at hq_ BK192.out); have n3_ := Aside0.mk (blk_at hq_ BK200.out); have n4_ := Aside0.mk (below_at hq_ HB.out); clear hq_ HO_8 HO_9 BK192 BK200 HB; have HO_8 := n0_; have HO_9 := n1_; have BK192 := n2_; have BK200 := n3_; have HB := n4_; clear n0_ n1_ n2_ n3_ n4_)); obtain ⟨hy61_, hz61_⟩ := Kd.R_celln 0 HO_9.out (((rd_T86 l0_0 x10_1).f1) : Int) (lD) (arr_lt HO_9.out (lD)); have HP61 := Kd.R_putg HO_9.out (((rd_T86 l0_0 x10_1).f1) : Int) (wrap64 ((rd x9_1 ((rd_T86 l0_0 x10_1).f1)) + 1)); refine store_event (t := 3) (p := 80) (v := ?vo_w62) (w1 := (w63.setCell ⟨gA9, (((rd_T86 l0_0 x10_1).f1) : Int).toNat, none⟩ (.int .i64 (wrap64 ((rd x9_1 ((rd_T86 l0_0 x10_1).f1)) + 1))))) ?hg ?ho ?hn ?hr ?_; (case ho => rfl); (case hg => rfl); (case hn => rfl); (case hr => first | (go_simp; done) | (go_simp; rfl)); intro w62 hw; have hg : w63.grownBy w62 (some gA9) := (by rw [hw]; exact HP61.2); have hp_ : Kd.R (Kd.int .i64) 136 w62 w.heap.size (fun k_ => some k_ ≠ (u8 : Value).ownBlock) (.slice (some ⟨gA9, 0, none⟩) 40 40) y208 := (by rw [hw, Ny208.out]; exact HP61.1); clear HP61; have n0_ := Aside0.mk (Kd.R_after (v := (.slice (some ⟨gA9, 0, none⟩) 40 40)) (v1 := (.slice (some ⟨gA9, 0, none⟩) 40 40)) (ok := (fun _ => True)) (by (with_reducible repeat (first | apply Kd.R_alloc | apply Kd.R_drewN | apply Kd.R_drew)); exact Kd.R_mono HO_8.out (fun _ hk => ⟨trivial, hk⟩)) hg (.inl rfl)); have n1_ := Aside0.mk (hp_); have n2_ := Aside0.mk (blk_grown (lK BK192.out) hg (Kd.R_ne HO_9.out BK192.out (by decide))); have n3_ := Aside0.mk (blk_grown (lK BK200.out) hg (Kd.R_ne HO_9.out BK200.out (by decide))); have n4_ := Aside0.mk ((by rw [hw]; exact below_set (HB.out) GB57.out : Below w.heap.size w w62)); clear HO_8; clear HO_9; clear BK192; clear BK200; clear HB; have HO_8 := n0_; have HO_9 := n1_; have BK192 := n2_; have BK200 := n3_; have HB := n4_; clear n0_ n1_ n2_ n3_ n4_; clear hg hw hp_)))
                                  go_meet
                                  case rel => exact ⟨_, (x8_1), (y208), (0), (wrap64 ((wrap64 (x10_1 + 1)) + 1)), lF, lF, H', ⟨by have := HK1.out; first | omega | exact Nat.le_refl _⟩, ⟨by (with_reducible repeat (first | apply Kd.R_alloc | apply Kd.R_drewN | apply Kd.R_drew)); exact Kd.R_mono HO_8.out (fun _ hk => hk.2)⟩, ⟨lR HO_9.out⟩, ⟨lK BK192.out⟩, ⟨lK BK200.out⟩, ⟨lB⟩⟩
                              · rw [if_neg c52] at H
                                exact absurd H (by simp)
                            · rw [if_neg c51] at H
                              exact absurd H (by simp)
                          · rw [if_neg c50] at H
                            have c50b0 : (((rd_T86 l0_0 x10_1).f0) == 6) = false := beq_eq_false_iff_ne.mpr c50
                            have c50b1 : (((rd_T86 l0_0 x10_1).f0) != 6) = true := bne_iff_ne.mpr c50
                            have H' := Aside0.mk H
                            clear H
                            go_wp2
                            repeat (go_quiet (fail); try go_wp2)
                            go_meet
                            case rel => exact ⟨_, (x8_1), (x9_1), (0), (wrap64 (x10_1 + 1)), lF, lF, H', ⟨by have := HK1.out; first | omega | exact Nat.le_refl _⟩, ⟨by (with_reducible repeat (first | apply Kd.R_alloc | apply Kd.R_drewN | apply Kd.R_drew)); exact Kd.R_mono (Kd.R_far (p := ⟨gb200, 2, none⟩) (Kd.R_far (p := ⟨gb200, 1, none⟩) (Kd.R_far (p := ⟨gb200, 0, none⟩) (Kd.R_types HO_8.out BK200.out (by decide)) (fun _ hk => hk.2) (.int .i64 ((rd_T86 l0_0 x10_1).f0))) (fun _ hk => hk.2) (.int .i64 ((rd_T86 l0_0 x10_1).f1))) (fun _ hk => hk.2) (.int .i64 ((rd_T86 l0_0 x10_1).f2))) (fun _ hk => hk.1)⟩, ⟨by (with_reducible repeat (first | apply Kd.R_alloc | apply Kd.R_drewN | apply Kd.R_drew)); exact Kd.R_mono (Kd.R_far (p := ⟨gb200, 2, none⟩) (Kd.R_far (p := ⟨gb200, 1, none⟩) (Kd.R_far (p := ⟨gb200, 0, none⟩) (Kd.R_types HO_9.out BK200.out (by decide)) (fun _ hk => hk.2) (.int .i64 ((rd_T86 l0_0 x10_1).f0))) (fun _ hk => hk.2) (.int .i64 ((rd_T86 l0_0 x10_1).f1))) (fun _ hk => hk.2) (.int .i64 ((rd_T86 l0_0 x10_1).f2))) (fun _ hk => hk.1)⟩, ⟨lJ BK192.out⟩, ⟨by (with_reducible repeat first | apply bN | apply bD | apply bA); refine blk_put (cs := #[.int .i64 ((rd_T86 l0_0 x10_1).f0), .int .i64 ((rd_T86 l0_0 x10_1).f1), .int .i64 0]) ?_ 2 _ rfl; (with_reducible repeat first | apply bN | apply bD | apply bA); refine blk_put (cs := #[.int .i64 ((rd_T86 l0_0 x10_1).f0), .int .i64 0, .int .i64 0]) ?_ 1 _ rfl; (with_reducible repeat first | apply bN | apply bD | apply bA); refine blk_put (cs := #[.int .i64 0, .int .i64 0, .int .i64 0]) ?_ 0 _ rfl; (with_reducible repeat first | apply bN | apply bD | apply bA); exact BK200.out⟩, ⟨lB⟩⟩
              case rest =>
                clear HC13
                try clear c1
                try clear p1
                try clear q1
                try clear hx1
                try clear c2
                try clear p2
                try clear q2
                try clear hx2
                try clear c3
                try clear c3b0
                try clear c3b1
                try clear c4
                try clear p4
                try clear q4
                try clear hx4
                try clear hf4
                try clear c5
                try clear p5
                try clear q5
                try clear hx5
                try clear hf5
                try clear c6
                try clear p6
                try clear c9
                try clear c9b0
                try clear c10
                try clear c10b0
                try clear c10b1
                try clear c12
                try clear c12b0
                try clear c16
                try clear c18
                try clear c18b0
                try clear c18b1
                try clear c19
                try clear p19
                try clear q19
                try clear hx19
                try clear c20
                try clear c20b0
                try clear c20b1
                try clear p20
                try clear q20
                try clear hx20
                try clear c21
                try clear c25
                try clear c29
                try clear c29b0
                try clear c29b1
                try clear c30
                try clear c32
                try clear c32b0
                try clear c32b1
                try clear c33
                try clear c33b0
                try clear c34
                try clear c34b0
                try clear c35
                try clear c38
                try clear c38b0
                try clear c38b1
                try clear c39
                try clear c41
                try clear c41b0
                try clear c41b1
                try clear c42
                try clear c42b0
                try clear c43
                try clear c43b0
                try clear p44
                try clear q44
                try clear hx44
                try clear hf44
                try clear c45
                try clear c50
                try clear c50b0
                try clear c50b1
                try clear c51
                try clear c51b0
                try clear c52
                try clear c52b0
                try clear c53
                try clear c53b0
                try clear c53b1
                try clear c54
                try clear p57
                try clear q57
                try clear hx57
                try clear hf57
                try clear c58
                try clear hcz11_0 hcz11_1
                try clear hcz14_0 hcz14_1
                try clear hcz17_0 hcz17_1 hcz17_2
                try clear hcz22_0 hcz22_1 hcz22_2
                try clear hcz26_0 hcz26_1 hcz26_2
                try clear hcz31_0 hcz31_1 hcz31_2
                try clear hcz36_0 hcz36_1 hcz36_2
                try clear hcz40_0 hcz40_1 hcz40_2
                try clear hcz46_0 hcz46_1 hcz46_2
                try clear hcz55_0 hcz55_1 hcz55_2
                try clear hcz59_0 hcz59_1 hcz59_2
                try clear hfz11_0 hfz11_1
                try clear hfz14_0 hfz14_1
                try clear hfz17_0 hfz17_1 hfz17_2
                try clear hfz22_0 hfz22_1 hfz22_2
                try clear hfz26_0 hfz26_1 hfz26_2
                try clear hfz31_0 hfz31_1 hfz31_2
                try clear hfz36_0 hfz36_1 hfz36_2
                try clear hfz40_0 hfz40_1 hfz40_2
                try clear hfz46_0 hfz46_1 hfz46_2
                try clear hfz55_0 hfz55_1 hfz55_2
                try clear hfz59_0 hfz59_1 hfz59_2
                try clear hx199_0
                try clear hx199_1
                try clear hx199_2
                try clear hx204_0
                try clear hx206_0
                try clear hx207_0
                try clear hx44_0
                try clear hx57_0
                try clear p199
                try clear p2
                try clear p204
                try clear p206
                try clear p207
                try clear p44
                try clear p57
                try clear q199
                try clear q204
                try clear q206
                try clear q207
                try clear q44
                try clear q57
                obtain ⟨kq, x8_12, x9_12, x13_12, x14_12, rfl, rfl, HA, HJ12, HO_8, HO_9, BK192, BK200, HB⟩ := hcut
                cases kq with
                | zero => exact absurd HA.out (by simp [impl_runLined.j1])
                | succ kj12 =>
                  have H := HA.out
                  clear HA
                  simp only [impl_runLined.j1] at H
                  by_cases c64 : x13_12 = 0
                  · rw [if_pos c64] at H
                    have c64b0 : (x13_12 == 0) = true := beq_iff_eq.mpr c64
                    have c64b1 : (x13_12 != 0) = false := bne_eq_false_iff_eq.mpr c64
                    clear c64
                    have H' := Aside0.mk H
                    clear H
                    go_wp2
                    repeat (go_quiet (fail); try go_wp2)
                    go_roundg kj12
                    case measure => have := HK1.out; have := HJ12.out; omega
                    case rel => exact ⟨(x8_12), (x9_12), (x14_12), ((wrap64 (x11_1 + 1))), lF, lF, H', ⟨by have := HK1.out; have := HJ12.out; omega⟩, ⟨lR HO_8.out⟩, ⟨lR HO_9.out⟩, ⟨lK BK192.out⟩, ⟨lB⟩⟩
                  · rw [if_neg c64] at H
                    have c64b0 : (x13_12 == 0) = false := beq_eq_false_iff_ne.mpr c64
                    have c64b1 : (x13_12 != 0) = true := bne_iff_ne.mpr c64
                    replace H := lO H
                    obtain ⟨t209, A65, H⟩ := H
                    by_cases c66 : t209 < 0
                    · rw [if_pos c66] at H
                      have c66b0 : decide (t209 < 0) = true := decide_eq_true c66
                      clear c66
                      simp only [Option.some.injEq, Prod.mk.injEq] at H
                      obtain ⟨rfl, rfl, rfl, rfl⟩ := H
                      have hnb67 := NB192_200.out
                      have hnc67 := NB200_192.out
                      obtain ⟨hcz68_0, hfz68_0, hcz68_1, hfz68_1⟩ := bk2 BK192.out
                      go_wp2_with (first | (go_at_call 59; (with_reducible refine (impl_guardAt.calls _ _ l0_0 _ _ l0_1 x10_1 x13_12 t209 _ ?side1 ?side2 ?side3 ?side4 A65.out).mono ?_); (case side1 => exact lC (Kd.C_below HR0_0.out HB.out)); (case side2 => exact HC0_0.out); (case side3 => exact lC (Kd.C_below HR0_1.out HB.out)); (case side4 => exact HC0_1.out); rintro e w69 ⟨rfl, hb⟩; have n0_ := Aside0.mk (Kd.R_below (lR HO_8.out) hb); have n1_ := Aside0.mk (Kd.R_below (lR HO_9.out) hb); have n2_ := Aside0.mk (blk_below (lK BK192.out) hb); have n3_ := Aside0.mk (blk_below (lK BK200.out) hb); have n4_ := Aside0.mk (below_step lB hb); clear HO_8; clear HO_9; clear BK192; clear BK200; clear HB; have HO_8 := n0_; have HO_9 := n1_; have BK192 := n2_; have BK200 := n3_; have HB := n4_; clear n0_ n1_ n2_ n3_ n4_; (try clear hb); (try clear hb2); (try clear hk); (try clear hi)))
                      repeat (go_quiet (fail); try go_wp2_with (first | (go_at_call 59; (with_reducible refine (impl_guardAt.calls _ _ l0_0 _ _ l0_1 x10_1 x13_12 t209 _ ?side1 ?side2 ?side3 ?side4 A65.out).mono ?_); (case side1 => exact lC (Kd.C_below HR0_0.out HB.out)); (case side2 => exact HC0_0.out); (case side3 => exact lC (Kd.C_below HR0_1.out HB.out)); (case side4 => exact HC0_1.out); rintro e w69 ⟨rfl, hb⟩; have n0_ := Aside0.mk (Kd.R_below (lR HO_8.out) hb); have n1_ := Aside0.mk (Kd.R_below (lR HO_9.out) hb); have n2_ := Aside0.mk (blk_below (lK BK192.out) hb); have n3_ := Aside0.mk (blk_below (lK BK200.out) hb); have n4_ := Aside0.mk (below_step lB hb); clear HO_8; clear HO_9; clear BK192; clear BK200; clear HB; have HO_8 := n0_; have HO_9 := n1_; have BK192 := n2_; have BK200 := n3_; have HB := n4_; clear n0_ n1_ n2_ n3_ n4_; (try clear hb); (try clear hb2); (try clear hk); (try clear hi))))
                      refine bodyPost_ret (results_list (rs := [.tmp 4, .tmp 5, .tmp 6, .tmp 7]) rfl (by simp) (.tmp (.tmp (.tmp (.tmp .nil))))) rfl ?_
                      exact ⟨_, lE, by (with_reducible repeat (first | apply Kd.R_alloc | apply Kd.R_drewN | apply Kd.R_drew)); exact Kd.R_mono HO_8.out (fun _ hk => trivial), lB⟩
                    · rw [if_neg c66] at H
                      have c66b0 : decide (t209 < 0) = false := decide_eq_false c66
                      clear c66
                      by_cases c70 : 0 ≤ t209
                      · rw [if_pos c70] at H
                        have c70b0 : decide (0 ≤ t209) = true := decide_eq_true c70
                        clear c70
                        by_cases c71 : t209 < (x9_12.length : Int)
                        · rw [if_pos c71] at H
                          have c71b0 : decide (t209 < (x9_12.length : Int)) = true := decide_eq_true c71
                          clear c71
                          obtain ⟨y210, hy210⟩ : ∃ y_ : List Int, y_ = (x9_12.set (t209 : Int).toNat x13_12) := ⟨_, rfl⟩
                          replace H : (if t209 < (l0_1.length : Int) then (impl_runLined.l0 kj12 a1 x8_12 y210 ((rd_T63 l0_1 t209).f3) (wrap64 (x11_1 + 1)) l0_0 l0_1) else (none)) = some (r1, r2, r3, r4) := by first | (rw [hy210]; with_reducible exact H) | (have H2_ := (Option.bind_some _ _).symm.trans H; rw [hy210]; with_reducible exact H2_) | (have H2_ := (Option.bind_some _ _).symm.trans H; with_reducible exact H2_) | with_reducible exact H | (rw [hy210]; exact H) | exact H
                          have Ny210 := Aside0.mk hy210
                          clear hy210
                          by_cases c73 : t209 < (l0_1.length : Int)
                          · rw [if_pos c73] at H
                            have c73b0 : decide (t209 < (l0_1.length : Int)) = true := decide_eq_true c73
                            clear c73
                            have H' := Aside0.mk H
                            clear H
                            have hnb74 := NB192_200.out
                            have hnc74 := NB200_192.out
                            obtain ⟨hcz75_0, hfz75_0, hcz75_1, hfz75_1⟩ := bk2 BK192.out
                            go_wp2_with (first | (go_at_call 59; (with_reducible refine (impl_guardAt.calls _ _ l0_0 _ _ l0_1 x10_1 x13_12 t209 _ ?side1 ?side2 ?side3 ?side4 A65.out).mono ?_); (case side1 => exact lC (Kd.C_below HR0_0.out HB.out)); (case side2 => exact HC0_0.out); (case side3 => exact lC (Kd.C_below HR0_1.out HB.out)); (case side4 => exact HC0_1.out); rintro e w76 ⟨rfl, hb⟩; have n0_ := Aside0.mk (Kd.R_below (lR HO_8.out) hb); have n1_ := Aside0.mk (Kd.R_below (lR HO_9.out) hb); have n2_ := Aside0.mk (blk_below (lK BK192.out) hb); have n3_ := Aside0.mk (blk_below (lK BK200.out) hb); have n4_ := Aside0.mk (below_step lB hb); clear HO_8; clear HO_9; clear BK192; clear BK200; clear HB; have HO_8 := n0_; have HO_9 := n1_; have BK192 := n2_; have BK200 := n3_; have HB := n4_; clear n0_ n1_ n2_ n3_ n4_; (try clear hb); (try clear hb2); (try clear hk); (try clear hi); have p72 : 0 ≤ (t209 : Int) := lD; have q72 : (t209 : Int) < ((x9_12.length : Int) : Int) := lD; obtain ⟨gb72, HG72⟩ := arr_form HO_9.out (by omega); have GB72 := Aside0.mk gb72; have GG72 := Aside0.mk HG72; clear gb72 HG72; obtain ⟨hx72_0, hf72_0⟩ := Kd.R_celln 0 HO_9.out (t209 : Int) p72 (arr_lt HO_9.out q72); replace p72 := eq_true p72; replace q72 := eq_true q72; have bA72 := eq_true (arr_lt2 40 HO_9.out (of_eq_true q72) rfl); have bA72 := eq_true (arr_lt2 40 HO_9.out (of_eq_true q72) rfl); obtain ⟨hy77_, hz77_⟩ := Kd.R_celln 0 HO_9.out (t209 : Int) (lD) (arr_lt HO_9.out (lD)); have HP77 := Kd.R_putg HO_9.out (t209 : Int) x13_12) | ((with_reducible refine gate_store (t := 3) (p := 96) rfl ?_); (try (rw [drewN_self w76]; generalize hq_ : World.drewN w76 _ = w76; have n0_ := Aside0.mk (Kd.R_at hq_ HO_8.out); have n1_ := Aside0.mk (Kd.R_at hq_ HO_9.out); have n2_ := Aside0.mk (blk_at hq_ BK192.out); have n3_ := Aside0.mk (blk_at hq_ BK200.out); have n4_ := Aside0.mk (below_at hq_ HB.out); clear hq_ HO_8 HO_9 BK192 BK200 HB; have HO_8 := n0_; have HO_9 := n1_; have BK192 := n2_; have BK200 := n3_; have HB := n4_; clear n0_ n1_ n2_ n3_ n4_; (try (obtain ⟨hy77_, hz77_⟩ := Kd.R_celln 0 HO_9.out (t209 : Int) (lD) (arr_lt HO_9.out (lD)))); (try (have HP77 := Kd.R_putg HO_9.out (t209 : Int) x13_12)))); refine store_event (t := 3) (p := 96) (v := ?vo_w78) (w1 := (w76.setCell ⟨gA9, (t209 : Int).toNat, none⟩ (.int .i64 x13_12))) ?hg ?ho ?hn ?hr ?_; (case ho => rfl); (case hg => rfl); (case hn => rfl); (case hr => first | (go_simp; done) | (go_simp; rfl)); intro w78 hw; have hg : w76.grownBy w78 (some gA9) := (by rw [hw]; exact HP77.2); have hp_ : Kd.R (Kd.int .i64) 136 w78 w.heap.size (fun k_ => some k_ ≠ (u8 : Value).ownBlock) (.slice (some ⟨gA9, 0, none⟩) 40 40) y210 := (by rw [hw, Ny210.out]; exact HP77.1); clear HP77; have n0_ := Aside0.mk (Kd.R_after (v := (.slice (some ⟨gA9, 0, none⟩) 40 40)) (v1 := (.slice (some ⟨gA9, 0, none⟩) 40 40)) (ok := (fun _ => True)) (by (with_reducible repeat (first | apply Kd.R_alloc | apply Kd.R_drewN | apply Kd.R_drew)); exact Kd.R_mono HO_8.out (fun _ hk => ⟨trivial, hk⟩)) hg (.inl rfl)); have n1_ := Aside0.mk (hp_); have n2_ := Aside0.mk (blk_grown (lK BK192.out) hg (Kd.R_ne HO_9.out BK192.out (by decide))); have n3_ := Aside0.mk (blk_grown (lK BK200.out) hg (Kd.R_ne HO_9.out BK200.out (by decide))); have n4_ := Aside0.mk ((by rw [hw]; exact below_set (HB.out) GB72.out : Below w.heap.size w w78)); clear HO_8; clear HO_9; clear BK192; clear BK200; clear HB; have HO_8 := n0_; have HO_9 := n1_; have BK192 := n2_; have BK200 := n3_; have HB := n4_; clear n0_ n1_ n2_ n3_ n4_; clear hg hw hp_; obtain ⟨hcz79_0, hfz79_0, hcz79_1, hfz79_1⟩ := bk2 BK192.out; have p211 : 0 ≤ (t209 : Int) := lD; have q211 : t209 < (l0_1.length : Int) := lD; obtain ⟨ad211, e211, hx211_0, hx211_1, hx211_2, hx211_3⟩ := at_T63 HR0_1.out t209 p211 q211; cases e211; replace hx211_0 := pw_cell_below HB.out hx211_0; replace hx211_1 := pw_cell_below HB.out hx211_1; replace hx211_2 := pw_cell_below HB.out hx211_2; replace hx211_3 := pw_cell_below HB.out hx211_3; replace p211 := eq_true p211; replace q211 := eq_true q211))
                            repeat (go_quiet (fail); try go_wp2_with (first | (go_at_call 59; (with_reducible refine (impl_guardAt.calls _ _ l0_0 _ _ l0_1 x10_1 x13_12 t209 _ ?side1 ?side2 ?side3 ?side4 A65.out).mono ?_); (case side1 => exact lC (Kd.C_below HR0_0.out HB.out)); (case side2 => exact HC0_0.out); (case side3 => exact lC (Kd.C_below HR0_1.out HB.out)); (case side4 => exact HC0_1.out); rintro e w76 ⟨rfl, hb⟩; have n0_ := Aside0.mk (Kd.R_below (lR HO_8.out) hb); have n1_ := Aside0.mk (Kd.R_below (lR HO_9.out) hb); have n2_ := Aside0.mk (blk_below (lK BK192.out) hb); have n3_ := Aside0.mk (blk_below (lK BK200.out) hb); have n4_ := Aside0.mk (below_step lB hb); clear HO_8; clear HO_9; clear BK192; clear BK200; clear HB; have HO_8 := n0_; have HO_9 := n1_; have BK192 := n2_; have BK200 := n3_; have HB := n4_; clear n0_ n1_ n2_ n3_ n4_; (try clear hb); (try clear hb2); (try clear hk); (try clear hi); have p72 : 0 ≤ (t209 : Int) := lD; have q72 : (t209 : Int) < ((x9_12.length : Int) : Int) := lD; obtain ⟨gb72, HG72⟩ := arr_form HO_9.out (by omega); have GB72 := Aside0.mk gb72; have GG72 := Aside0.mk HG72; clear gb72 HG72; obtain ⟨hx72_0, hf72_0⟩ := Kd.R_celln 0 HO_9.out (t209 : Int) p72 (arr_lt HO_9.out q72); replace p72 := eq_true p72; replace q72 := eq_true q72; have bA72 := eq_true (arr_lt2 40 HO_9.out (of_eq_true q72) rfl); have bA72 := eq_true (arr_lt2 40 HO_9.out (of_eq_true q72) rfl); obtain ⟨hy77_, hz77_⟩ := Kd.R_celln 0 HO_9.out (t209 : Int) (lD) (arr_lt HO_9.out (lD)); have HP77 := Kd.R_putg HO_9.out (t209 : Int) x13_12) | ((with_reducible refine gate_store (t := 3) (p := 96) rfl ?_); (try (rw [drewN_self w76]; generalize hq_ : World.drewN w76 _ = w76; have n0_ := Aside0.mk (Kd.R_at hq_ HO_8.out); have n1_ := Aside0.mk (Kd.R_at hq_ HO_9.out); have n2_ := Aside0.mk (blk_at hq_ BK192.out); have n3_ := Aside0.mk (blk_at hq_ BK200.out); have n4_ := Aside0.mk (below_at hq_ HB.out); clear hq_ HO_8 HO_9 BK192 BK200 HB; have HO_8 := n0_; have HO_9 := n1_; have BK192 := n2_; have BK200 := n3_; have HB := n4_; clear n0_ n1_ n2_ n3_ n4_; (try (obtain ⟨hy77_, hz77_⟩ := Kd.R_celln 0 HO_9.out (t209 : Int) (lD) (arr_lt HO_9.out (lD)))); (try (have HP77 := Kd.R_putg HO_9.out (t209 : Int) x13_12)))); refine store_event (t := 3) (p := 96) (v := ?vo_w78) (w1 := (w76.setCell ⟨gA9, (t209 : Int).toNat, none⟩ (.int .i64 x13_12))) ?hg ?ho ?hn ?hr ?_; (case ho => rfl); (case hg => rfl); (case hn => rfl); (case hr => first | (go_simp; done) | (go_simp; rfl)); intro w78 hw; have hg : w76.grownBy w78 (some gA9) := (by rw [hw]; exact HP77.2); have hp_ : Kd.R (Kd.int .i64) 136 w78 w.heap.size (fun k_ => some k_ ≠ (u8 : Value).ownBlock) (.slice (some ⟨gA9, 0, none⟩) 40 40) y210 := (by rw [hw, Ny210.out]; exact HP77.1); clear HP77; have n0_ := Aside0.mk (Kd.R_after (v := (.slice (some ⟨gA9, 0, none⟩) 40 40)) (v1 := (.slice (some ⟨gA9, 0, none⟩) 40 40)) (ok := (fun _ => True)) (by (with_reducible repeat (first | apply Kd.R_alloc | apply Kd.R_drewN | apply Kd.R_drew)); exact Kd.R_mono HO_8.out (fun _ hk => ⟨trivial, hk⟩)) hg (.inl rfl)); have n1_ := Aside0.mk (hp_); have n2_ := Aside0.mk (blk_grown (lK BK192.out) hg (Kd.R_ne HO_9.out BK192.out (by decide))); have n3_ := Aside0.mk (blk_grown (lK BK200.out) hg (Kd.R_ne HO_9.out BK200.out (by decide))); have n4_ := Aside0.mk ((by rw [hw]; exact below_set (HB.out) GB72.out : Below w.heap.size w w78)); clear HO_8; clear HO_9; clear BK192; clear BK200; clear HB; have HO_8 := n0_; have HO_9 := n1_; have BK192 := n2_; have BK200 := n3_; have HB := n4_; clear n0_ n1_ n2_ n3_ n4_; clear hg hw hp_; obtain ⟨hcz79_0, hfz79_0, hcz79_1, hfz79_1⟩ := bk2 BK192.out; have p211 : 0 ≤ (t209 : Int) := lD; have q211 : t209 < (l0_1.length : Int) := lD; obtain ⟨ad211, e211, hx211_0, hx211_1, hx211_2, hx211_3⟩ := at_T63 HR0_1.out t209 p211 q211; cases e211; replace hx211_0 := pw_cell_below HB.out hx211_0; replace hx211_1 := pw_cell_below HB.out hx211_1; replace hx211_2 := pw_cell_below HB.out hx211_2; replace hx211_3 := pw_cell_below HB.out hx211_3; replace p211 := eq_true p211; replace q211 := eq_true q211)))
                            go_roundg kj12
                            case measure => have := HK1.out; have := HJ12.out; omega
                            case rel => exact ⟨(x8_12), (y210), ((rd_T63 l0_1 t209).f3), ((wrap64 (x11_1 + 1))), lF, lF, H', ⟨by have := HK1.out; have := HJ12.out; omega⟩, ⟨by (with_reducible repeat (first | apply Kd.R_alloc | apply Kd.R_drewN | apply Kd.R_drew)); exact Kd.R_mono HO_8.out (fun _ hk => hk.2)⟩, ⟨lR HO_9.out⟩, ⟨lK BK192.out⟩, ⟨lB⟩⟩
                          · rw [if_neg c73] at H
                            exact absurd H (by simp)
                        · rw [if_neg c71] at H
                          exact absurd H (by simp)
                      · rw [if_neg c70] at H
                        exact absurd H (by simp)
            · rw [if_neg c12] at H
              exact absurd H (by simp)
        · rw [if_neg c9] at H
          have c9b0 : decide (x10_1 < (l0_0.length : Int)) = false := decide_eq_false c9
          clear c9
          simp only [Option.some.injEq, Prod.mk.injEq] at H
          obtain ⟨rfl, rfl, rfl, rfl⟩ := H
          obtain ⟨hcz80_0, hfz80_0, hcz80_1, hfz80_1⟩ := bk2 BK192.out
          go_wp2
          repeat (go_quiet (fail); try go_wp2)
          refine bodyPost_ret (results_list (rs := [.tmp 4, .tmp 5, .tmp 6, .tmp 7]) rfl (by simp) (.tmp (.tmp (.tmp (.tmp .nil))))) rfl ?_
          exact ⟨_, lE, by (with_reducible repeat (first | apply Kd.R_alloc | apply Kd.R_drewN | apply Kd.R_drew)); exact Kd.R_mono HO_8.out (fun _ hk => trivial), lB⟩
  · rw [if_neg c3] at H
    exact absurd H (by simp)
def impl_RunLined.f (k : Nat) (l0_0 : List (S86)) (l0_1 : List (S63)) (a1 : Int) : Option (List Int × Int × Int × Bool) := (impl_isLined.f k l0_0 l0_1).bind fun t213 => (if t213 = true then ((impl_in.f a1 0 2000).bind fun t214 => (if t214 = true then ((impl_runLined.f k l0_0 l0_1 a1).bind fun bt215 => (some (bt215.1, bt215.2.1, bt215.2.2.1, bt215.2.2.2))) else (some (([] : List Int), 0, 0, false)))) else (some (([] : List Int), 0, 0, false)))
set_option maxHeartbeats 8000000 in
set_option maxRecDepth 100000 in
theorem impl_RunLined.calls (k : Nat) (A0_0 : Option Addr) (c0_0 : Nat) (l0_0 : List (S86)) (A0_1 : Option Addr) (c0_1 : Nat) (l0_1 : List (S63)) (a1 : Int) (r1 : List Int) (r2 : Int) (r3 : Int) (r4 : Bool) (w : World) (hr0_0 : Kd.C k86 w A0_0 l0_0.length l0_0) (hc0_0 : l0_0.length ≤ c0_0) (hr0_1 : Kd.C k63 w A0_1 l0_1.length l0_1) (hc0_1 : l0_1.length ≤ c0_1) (h : impl_RunLined.f k l0_0 l0_1 a1 = some (r1, r2, r3, r4)) :
  Calls Try.prog 33 #[.agg #[.slice A0_0 l0_0.length c0_0, .slice A0_1 l0_1.length c0_1], .int .i64 a1] w fun e w' => ∃ v0_ : Value, e = .returned (.tuple #[v0_, .int .i64 r2, .int .i64 r3, .bool r4]) ∧ Kd.R (Kd.int .i64) 3 w' w.heap.size (fun _ => True) v0_ r1 ∧ Below w.heap.size w w' := by
 have hu38 := Try.underlying38
 have HR0_0 := Aside0.mk hr0_0
 have HC0_0 := Aside0.mk hc0_0
 clear hr0_0 hc0_0
 have HR0_1 := Aside0.mk hr0_1
 have HC0_1 := Aside0.mk hc0_1
 clear hr0_1 hc0_1
 have HB := Aside0.mk (Below.refl w.heap.size w)
 have H : ((impl_isLined.f k l0_0 l0_1).bind fun t213 => (if t213 = true then ((impl_in.f a1 0 2000).bind fun t214 => (if t214 = true then ((impl_runLined.f k l0_0 l0_1 a1).bind fun bt215 => (some (bt215.1, bt215.2.1, bt215.2.2.1, bt215.2.2.2))) else (some (([] : List Int), 0, 0, false)))) else (some (([] : List Int), 0, 0, false)))) = some (r1, r2, r3, r4) := h
 clear h
 replace H := lO H
 obtain ⟨t213, A3, H⟩ := H
 by_cases c4 : t213 = true
 ·subst c4
  rw [if_pos rfl] at H
  replace H := lO H
  obtain ⟨t214, A5, H⟩ := H
  by_cases c6 : t214 = true
  ·subst c6
   rw [if_pos rfl] at H
   replace H := Option.bind_eq_some_iff.mp H
   obtain ⟨⟨t215, t218, t219, t220⟩, A70, H⟩ := H
   replace H : (some (t215, t218, t219, t220)) = some (r1, r2, r3, r4) := H
   have A7 := Aside0.mk A70
   clear A70
   simp only [Option.some.injEq, Prod.mk.injEq] at H
   obtain ⟨rfl, rfl, rfl, rfl⟩ := H
   go_enter Try.func33, Try.ntmps33
   go_wp2_with (first | ((with_reducible refine gate_dst (N := 2) rfl ?_); refine bxe 2 #[.slice A0_0 l0_0.length c0_0, .slice A0_1 l0_1.length c0_1] 38 ?_; intro gb212 hg w8 hbox hb; have n0_ := Aside0.mk (below_step lB hb); have n1_ := Aside0.mk (hbox); have n2_ := lG w hg; have n3_ := lG w hg; clear HB; have HB := n0_; have BK212 := n1_; have GW212 := n2_; have GE212 := n3_; clear n0_ n1_ n2_ n3_; clear hb hbox hg; obtain ⟨hcz9_0, hfz9_0, hcz9_1, hfz9_1⟩ := bk2 BK212.out) | ((with_reducible refine gate_callee (f := 54) rfl ?_); refine gl_ (some 9) (Try.func54) #[.agg #[.slice A0_0 l0_0.length c0_0, .slice A0_1 l0_1.length c0_1]] ?_; (with_reducible refine (impl_isLined.calls k _ _ l0_0 _ _ l0_1 true _ ?side1 ?side2 ?side3 ?side4 A3.out).mono ?_); (case side1 => exact lC (Kd.C_below HR0_0.out HB.out)); (case side2 => exact HC0_0.out); (case side3 => exact lC (Kd.C_below HR0_1.out HB.out)); (case side4 => exact HC0_1.out); rintro e w10 ⟨rfl, hb⟩; refine ⟨_, rfl, ?_⟩; have n0_ := Aside0.mk (blk_below (lK BK212.out) hb); have n1_ := Aside0.mk (below_step lB hb); clear BK212; clear HB; have BK212 := n0_; have HB := n1_; clear n0_ n1_; (try clear hb); (try clear hb2); (try clear hk); (try clear hi)) | (go_at_call 58; (with_reducible refine (impl_in.calls a1 0 2000 true _ A5.out).mono ?_); rintro e w' ⟨rfl, ⟨nd, rfl⟩⟩; obtain ⟨hcz11_0, hfz11_0, hcz11_1, hfz11_1⟩ := bk2 BK212.out) | ((with_reducible refine gate_callee (f := 64) rfl ?_); refine gl_ (some 18) (Try.func64) #[.agg #[.slice A0_0 l0_0.length c0_0, .slice A0_1 l0_1.length c0_1], .int .i64 a1] ?_; (with_reducible refine (impl_runLined.calls k _ _ l0_0 _ _ l0_1 a1 t215 t218 t219 t220 _ ?side1 ?side2 ?side3 ?side4 A7.out).mono ?_); (case side1 => repeat (first | exact (Kd.C_below HR0_0.out lB) | (with_reducible refine Kd.C_alloc ?_ _) | (with_reducible refine Kd.C_drewN ?_ _) | (with_reducible refine Kd.C_drew ?_))); (case side2 => exact HC0_0.out); (case side3 => repeat (first | exact (Kd.C_below HR0_1.out lB) | (with_reducible refine Kd.C_alloc ?_ _) | (with_reducible refine Kd.C_drewN ?_ _) | (with_reducible refine Kd.C_drew ?_))); (case side4 => exact HC0_1.out); rintro e w12 ⟨v216, rfl, ho0, hb⟩; refine ⟨_, rfl, ?_⟩; have n0_ := Aside0.mk (Kd.R_lower ho0 (below_size lB)); have n1_ := Aside0.mk (blk_below (lK BK212.out) hb); have n2_ := Aside0.mk (below_step lB hb); clear BK212; clear HB; have HO217 := n0_; have BK212 := n1_; have HB := n2_; clear n0_ n1_ n2_; (try clear hb); (try clear hb2); (try clear hk); (try clear hi); (try clear ho0)))
   refine bodyPost_ret (results_list (rs := [.tmp 4, .tmp 5, .tmp 6, .tmp 7]) rfl (by simp) (.tmp (.tmp (.tmp (.tmp .nil))))) rfl ?_
   exact ⟨_, lE, lR HO217.out, lB⟩
  ·replace c6 := Bool.eq_false_iff.mpr c6
   subst c6
   rw [if_neg (show ¬ (false = true) by decide)] at H
   simp only [Option.some.injEq, Prod.mk.injEq] at H
   obtain ⟨rfl, rfl, rfl, rfl⟩ := H
   go_enter Try.func33, Try.ntmps33
   go_wp2_with (first | ((with_reducible refine gate_dst (N := 2) rfl ?_); refine bxe 2 #[.slice A0_0 l0_0.length c0_0, .slice A0_1 l0_1.length c0_1] 38 ?_; intro gb212 hg w13 hbox hb; have n0_ := Aside0.mk (below_step lB hb); have n1_ := Aside0.mk (hbox); have n2_ := lG w hg; have n3_ := lG w hg; clear HB; have HB := n0_; have BK212 := n1_; have GW212 := n2_; have GE212 := n3_; clear n0_ n1_ n2_ n3_; clear hb hbox hg; obtain ⟨hcz14_0, hfz14_0, hcz14_1, hfz14_1⟩ := bk2 BK212.out) | ((with_reducible refine gate_callee (f := 54) rfl ?_); refine gl_ (some 9) (Try.func54) #[.agg #[.slice A0_0 l0_0.length c0_0, .slice A0_1 l0_1.length c0_1]] ?_; (with_reducible refine (impl_isLined.calls k _ _ l0_0 _ _ l0_1 true _ ?side1 ?side2 ?side3 ?side4 A3.out).mono ?_); (case side1 => exact lC (Kd.C_below HR0_0.out HB.out)); (case side2 => exact HC0_0.out); (case side3 => exact lC (Kd.C_below HR0_1.out HB.out)); (case side4 => exact HC0_1.out); rintro e w15 ⟨rfl, hb⟩; refine ⟨_, rfl, ?_⟩; have n0_ := Aside0.mk (blk_below (lK BK212.out) hb); have n1_ := Aside0.mk (below_step lB hb); clear BK212; clear HB; have BK212 := n0_; have HB := n1_; clear n0_ n1_; (try clear hb); (try clear hb2); (try clear hk); (try clear hi)) | (go_at_call 58; (with_reducible refine (impl_in.calls a1 0 2000 false _ A5.out).mono ?_); rintro e w' ⟨rfl, ⟨nd, rfl⟩⟩))
   refine bodyPost_ret (results_list (rs := [.tmp 4, .tmp 5, .tmp 6, .tmp 7]) rfl (by simp) (.tmp (.tmp (.tmp (.tmp .nil))))) rfl ?_
   exact ⟨_, lE, by first | exact Kd.R_nil _ _ _ _ _ | exact Kd.N_nil _ _ _ _ _ | exact Kd.V_nil _ _ _ _ _ | exact Kd.Q_nil _ _ _ _ _ | exact Kd.S_nil _ _ _ _ _, lB⟩
 ·replace c4 := Bool.eq_false_iff.mpr c4
  subst c4
  rw [if_neg (show ¬ (false = true) by decide)] at H
  simp only [Option.some.injEq, Prod.mk.injEq] at H
  obtain ⟨rfl, rfl, rfl, rfl⟩ := H
  go_enter Try.func33, Try.ntmps33
  go_wp2_with (first | ((with_reducible refine gate_dst (N := 2) rfl ?_); refine bxe 2 #[.slice A0_0 l0_0.length c0_0, .slice A0_1 l0_1.length c0_1] 38 ?_; intro gb212 hg w16 hbox hb; have n0_ := Aside0.mk (below_step lB hb); have n1_ := Aside0.mk (hbox); have n2_ := lG w hg; have n3_ := lG w hg; clear HB; have HB := n0_; have BK212 := n1_; have GW212 := n2_; have GE212 := n3_; clear n0_ n1_ n2_ n3_; clear hb hbox hg; obtain ⟨hcz17_0, hfz17_0, hcz17_1, hfz17_1⟩ := bk2 BK212.out) | ((with_reducible refine gate_callee (f := 54) rfl ?_); refine gl_ (some 9) (Try.func54) #[.agg #[.slice A0_0 l0_0.length c0_0, .slice A0_1 l0_1.length c0_1]] ?_; (with_reducible refine (impl_isLined.calls k _ _ l0_0 _ _ l0_1 false _ ?side1 ?side2 ?side3 ?side4 A3.out).mono ?_); (case side1 => exact lC (Kd.C_below HR0_0.out HB.out)); (case side2 => exact HC0_0.out); (case side3 => exact lC (Kd.C_below HR0_1.out HB.out)); (case side4 => exact HC0_1.out); rintro e w18 ⟨rfl, hb⟩; refine ⟨_, rfl, ?_⟩; have n0_ := Aside0.mk (blk_below (lK BK212.out) hb); have n1_ := Aside0.mk (below_step lB hb); clear BK212; clear HB; have BK212 := n0_; have HB := n1_; clear n0_ n1_; (try clear hb); (try clear hb2); (try clear hk); (try clear hi)))
  refine bodyPost_ret (results_list (rs := [.tmp 4, .tmp 5, .tmp 6, .tmp 7]) rfl (by simp) (.tmp (.tmp (.tmp (.tmp .nil))))) rfl ?_
  exact ⟨_, lE, by first | exact Kd.R_nil _ _ _ _ _ | exact Kd.N_nil _ _ _ _ _ | exact Kd.V_nil _ _ _ _ _ | exact Kd.Q_nil _ _ _ _ _ | exact Kd.S_nil _ _ _ _ _, lB⟩
end Go.Proofs.Ytgjojppbichaiaa.Q
