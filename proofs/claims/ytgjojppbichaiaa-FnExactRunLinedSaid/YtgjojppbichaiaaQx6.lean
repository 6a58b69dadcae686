-- Written by the program wip/tools/pr.py of this claim's session, over the kit's print.py.
import Derived.Test.YtgjojppbichaiaaQx0
import Derived.Test.YtgjojppbichaiaaQx4
import Derived.Test.YtgjojppbichaiaaQx5
namespace Go.Proofs.Ytgjojppbichaiaa.Q
open Go.RowKit Go.Proofs.YtgjojppbichaiaaW.PrintWords Go.Proofs.YtgjojppbichaiaaW.PrintLast Go.Proofs.YtgjojppbichaiaaW.PrintMore
attribute [local go_sem] max2_int min2_int max_two min_two max_three min_three max_four min_four   -- for this text's walks alone
set_option linter.unusedVariables false
set_option linter.unusedSimpArgs false

/-! ### impl_runLined: function 64 -/
theorem arr64_9_build {ops : Array Oper} {rest : List Oper} {o : Oper} {a : Act} {w : World} {Q : Exit → Act → World → Prop} (hg : o.guard = none) (ho : o.op = .build 136 #[]) (h : wpList Try.prog ops Q rest (a.put o.dst (.agg (List.replicate 40 (Value.int .i64 0)).toArray)) w) : wpList Try.prog ops Q (o :: rest) a w := by
 have hz : Try.prog.built 136 ((#[] : Array (Nat × Operand)).map fun (i, x) => (i, a.eval x)).toList = some (List.replicate 40 (Value.int .i64 0)).toArray := by
  simp only [Array.map_empty, List.map_toArray, List.map_nil]; kernel_rfl
 exact wpList_build hg 136 #[] ho (by rw [hz]; rfl) (by rw [hz]; exact h)
mutual
def impl_runLined.l0 : Nat → Int → List Int → List Int → Int → Int → List (S86) → List (S63) → Option (List Int × Int × Int × Bool)
  | 0, _, _, _, _, _, _, _ => none
  | k + 1, x1, x8, x9, x10, x11, x211000, x211001 => if x10 < (x211000.length : Int) then (if x11 = x1 then (some (([] : List Int), 0, 0, false)) else (if 0 ≤ x10 then (if ((rd_T86 x211000 x10).f0) = 1 then (if x8.length < 17592186044416 then ((some (x8 ++ [(rd_T86 x211000 x10).f1] : List Int)).bind fun y219 => (if (y219.length : Int) > 200 then (some (([] : List Int), 0, 0, false)) else (impl_runLined.j1 k x1 y219 x9 x10 (wrap64 (x11 + 1)) 0 (wrap64 (x10 + 1)) x211000 x211001))) else (none)) else (if ((rd_T86 x211000 x10).f0) = 2 then (impl_runLined.j1 k x1 x8 x9 x10 (wrap64 (x11 + 1)) ((rd_T86 x211000 x10).f1) (wrap64 (x10 + 1)) x211000 x211001) else (if ((rd_T86 x211000 x10).f0) = 3 then (if 0 ≤ ((rd_T86 x211000 x10).f1) then (if ((rd_T86 x211000 x10).f1) < (x9.length : Int) then (impl_runLined.j1 k x1 x8 x9 x10 (wrap64 (x11 + 1)) (rd x9 ((rd_T86 x211000 x10).f1)) (wrap64 (x10 + 1)) x211000 x211001) else (none)) else (none)) else (if ((rd_T86 x211000 x10).f0) = 4 then (impl_runLined.j1 k x1 x8 x9 x10 (wrap64 (x11 + 1)) 0 ((rd_T86 x211000 x10).f2) x211000 x211001) else (if ((rd_T86 x211000 x10).f0) = 5 then (if 0 ≤ ((rd_T86 x211000 x10).f1) then (if ((rd_T86 x211000 x10).f1) < (x9.length : Int) then (impl_runLined.j1 k x1 x8 (x9.set (((rd_T86 x211000 x10).f1) : Int).toNat 0) x10 (wrap64 (x11 + 1)) 0 (wrap64 (x10 + 1)) x211000 x211001) else (none)) else (none)) else (if ((rd_T86 x211000 x10).f0) = 6 then (if 0 ≤ ((rd_T86 x211000 x10).f1) then (if ((rd_T86 x211000 x10).f1) < (x9.length : Int) then (if (rd x9 ((rd_T86 x211000 x10).f1)) = ((rd_T86 x211000 x10).f2) then (impl_runLined.j1 k x1 x8 x9 x10 (wrap64 (x11 + 1)) 0 (wrap64 (x10 + 1)) x211000 x211001) else (impl_runLined.j1 k x1 x8 (x9.set (((rd_T86 x211000 x10).f1) : Int).toNat (wrap64 ((rd x9 ((rd_T86 x211000 x10).f1)) + 1))) x10 (wrap64 (x11 + 1)) 0 (wrap64 ((wrap64 (x10 + 1)) + 1)) x211000 x211001)) else (none)) else (none)) else (impl_runLined.j1 k x1 x8 x9 x10 (wrap64 (x11 + 1)) 0 (wrap64 (x10 + 1)) x211000 x211001))))))) else (none))) else (some (x8, 0, x11, true))
def impl_runLined.j1 : Nat → Int → List Int → List Int → Int → Int → Int → Int → List (S86) → List (S63) → Option (List Int × Int × Int × Bool)
  | 0, _, _, _, _, _, _, _, _, _ => none
  | k + 1, x1, x8, x9, x10, x11, x13, x14, x211000, x211001 => if x13 = 0 then (impl_runLined.l0 k x1 x8 x9 x14 x11 x211000 x211001) else ((impl_guardAt.f x211000 x211001 x10 x13).bind fun t227 => (if t227 < 0 then (some (x8, x13, x11, true)) else (if 0 ≤ t227 then (if t227 < (x9.length : Int) then (if t227 < (x211001.length : Int) then (impl_runLined.l0 k x1 x8 (x9.set (t227 : Int).toNat x13) ((rd_T63 x211001 t227).f3) x11 x211000 x211001) else (none)) else (none)) else (none))))
end
def impl_runLined.f (k : Nat) (l0_0 : List (S86)) (l0_1 : List (S63)) (a1 : Int) : Option (List Int × Int × Int × Bool) := if 40 ≤ 35184372088832 then (impl_runLined.l0 k a1 (([] : List Int)) (List.replicate 40 0) 0 0 l0_0 l0_1) else (none)
theorem impl_runLined.mono_l : ∀ k, (∀ y0 y1 y2 y3 y4 y5 y6, LeO (impl_runLined.l0 k y0 y1 y2 y3 y4 y5 y6) (impl_runLined.l0 (k + 1) y0 y1 y2 y3 y4 y5 y6)) ∧ (∀ y0 y1 y2 y3 y4 y5 y6 y7 y8, LeO (impl_runLined.j1 k y0 y1 y2 y3 y4 y5 y6 y7 y8) (impl_runLined.j1 (k + 1) y0 y1 y2 y3 y4 y5 y6 y7 y8))
  | 0 => ⟨fun _ _ _ _ _ _ _ r h => by simp [impl_runLined.l0] at h, fun _ _ _ _ _ _ _ _ _ r h => by simp [impl_runLined.j1] at h⟩
  | k + 1 => by
    obtain ⟨ih0, ih1⟩ := impl_runLined.mono_l k
    refine ⟨?_, ?_⟩
    · intro y0 y1 y2 y3 y4 y5 y6
      unfold impl_runLined.l0
      repeat' first
      | with_reducible apply ih0
      | with_reducible apply ih1
      | (with_reducible exact LeO.refl _)
      | (with_reducible exact LeO.none _)
      | (with_reducible refine LeO.ite ?_ ?_)
      | (with_reducible refine LeO.bind ?_ (fun _ => ?_))
      | apply ih0
      | apply ih1
      | exact LeO.none _
      | refine LeO.ite ?_ ?_
      | refine LeO.bind ?_ (fun _ => ?_)
    · intro y0 y1 y2 y3 y4 y5 y6 y7 y8
      unfold impl_runLined.j1
      repeat' first
      | with_reducible apply ih0
      | with_reducible apply ih1
      | (with_reducible exact LeO.refl _)
      | (with_reducible exact LeO.none _)
      | (with_reducible refine LeO.ite ?_ ?_)
      | (with_reducible refine LeO.bind ?_ (fun _ => ?_))
      | apply ih0
      | apply ih1
      | exact LeO.none _
      | refine LeO.ite ?_ ?_
      | refine LeO.bind ?_ (fun _ => ?_)
theorem impl_runLined.mono : ∀ a0 a1 a2 k, LeO (impl_runLined.f k a0 a1 a2) (impl_runLined.f (k + 1) a0 a1 a2) := by
  intro a0 a1 a2 k
  obtain ⟨ih0, ih1⟩ := impl_runLined.mono_l k
  unfold impl_runLined.f
  repeat' first
      | with_reducible apply ih0
      | with_reducible apply ih1
      | (with_reducible exact LeO.refl _)
      | (with_reducible exact LeO.none _)
      | (with_reducible refine LeO.ite ?_ ?_)
      | (with_reducible refine LeO.bind ?_ (fun _ => ?_))
      | apply ih0
      | apply ih1
      | exact LeO.none _
      | refine LeO.ite ?_ ?_
      | refine LeO.bind ?_ (fun _ => ?_)
set_option maxHeartbeats 8000000 in
set_option maxRecDepth 100000 in
theorem impl_runLined.calls (k : Nat) (A0_0 : Option Addr) (c0_0 : Nat) (l0_0 : List (S86)) (A0_1 : Option Addr) (c0_1 : Nat) (l0_1 : List (S63)) (a1 : Int) (r1 : List Int) (r2 : Int) (r3 : Int) (r4 : Bool) (w : World) (hr0_0 : Kd.C k86 w A0_0 l0_0.length l0_0) (hc0_0 : l0_0.length ≤ c0_0) (hr0_1 : Kd.C k63 w A0_1 l0_1.length l0_1) (hc0_1 : l0_1.length ≤ c0_1) (h : impl_runLined.f k l0_0 l0_1 a1 = some (r1, r2, r3, r4)) :
    Calls Try.prog 64 #[.agg #[.slice A0_0 l0_0.length c0_0, .slice A0_1 l0_1.length c0_1], .int .i64 a1] w fun e w' => ∃ v0_ : Value, e = .returned (.tuple #[v0_, .int .i64 r2, .int .i64 r3, .bool r4]) ∧ Kd.R (Kd.int .i64) 3 w' w.heap.size (fun _ => True) v0_ r1 ∧ Below w.heap.size w w' := by
  have hu38 := Try.underlying38
  have hu86 := Try.underlying86
  have HR0_0 := Aside0.mk hr0_0
  have HC0_0 := Aside0.mk hc0_0
  clear hr0_0 hc0_0
  have HR0_1 := Aside0.mk hr0_1
  have HC0_1 := Aside0.mk hc0_1
  clear hr0_1 hc0_1
  have HB := Aside0.mk (Below.refl w.heap.size w)
  have H : (if 40 ≤ 35184372088832 then (impl_runLined.l0 k a1 (([] : List Int)) (List.replicate 40 0) 0 0 l0_0 l0_1) else (none)) = some (r1, r2, r3, r4) := h
  clear h
  obtain ⟨y211, hy211⟩ : ∃ y_ : List Int, y_ = (([] : List Int)) := ⟨_, rfl⟩
  replace H : (if 40 ≤ 35184372088832 then (impl_runLined.l0 k a1 y211 (List.replicate 40 0) 0 0 l0_0 l0_1) else (none)) = some (r1, r2, r3, r4) := by first | (rw [hy211]; with_reducible exact H) | (have H2_ := (Option.bind_some _ _).symm.trans H; rw [hy211]; with_reducible exact H2_) | (have H2_ := (Option.bind_some _ _).symm.trans H; with_reducible exact H2_) | with_reducible exact H | (rw [hy211]; exact H) | exact H
  have Ny211 := Aside0.mk hy211
  clear hy211
  by_cases c3 : 40 ≤ 35184372088832
  · rw [if_pos c3] at H
    have c3b0 := eq_true c3
    have c3b1 : decide (40 ≤ 35184372088832) = true := decide_eq_true c3
    clear c3
    obtain ⟨y214, hy214⟩ : ∃ y_ : List Int, y_ = (List.replicate 40 0) := ⟨_, rfl⟩
    replace H : (impl_runLined.l0 k a1 y211 y214 0 0 l0_0 l0_1) = some (r1, r2, r3, r4) := by first | (rw [hy214]; with_reducible exact H) | (have H2_ := (Option.bind_some _ _).symm.trans H; rw [hy214]; with_reducible exact H2_) | (have H2_ := (Option.bind_some _ _).symm.trans H; with_reducible exact H2_) | with_reducible exact H | (rw [hy214]; exact H) | exact H
    have Ny214 := Aside0.mk hy214
    clear hy214
    have H' := Aside0.mk H
    clear H
    go_enter Try.func64, Try.ntmps64
    go_wp2_with (first | ((with_reducible refine gate_dst (N := 2) rfl ?_); refine bxe 2 #[.slice A0_0 l0_0.length c0_0, .slice A0_1 l0_1.length c0_1] 38 ?_; intro gb210 hg w4 hbox hb; have n0_ := Aside0.mk (below_step lB hb); have n1_ := Aside0.mk (hbox); have n2_ := lG w hg; have n3_ := lG w hg; clear HB; have HB := n0_; have BK210 := n1_; have GW210 := n2_; have GE210 := n3_; clear n0_ n1_ n2_ n3_; clear hb hbox hg) | ((with_reducible refine gate_dst (N := 16) rfl ?_); refine Kd.R_lit (Kd.int .i64) _ 3 ?hg (N := 16) ?hd (xs := ([] : List Int)) (inner := []) (ok := fun _ => True) (okp := fun _ => True) ?hr ?hp (fun _ hk => hk) trivial (Below.refl _ _) (Nat.le_refl _) (by simp) ?_; (case hd => rfl); (case hg => rfl); (case hr => first | (go_simp; done) | (go_simp; rfl)); (case hp => exact (Reps.none _ _)); intro v212 w5 ho6 hb hg_ hnew_; clear hg_ hnew_; (first | rw [← Ny211.out] at ho6 | (simp only [Int.reduceToNat] at ho6; rw [← Ny211.out] at ho6)); have n0_ := Aside0.mk (Kd.R_lower ho6 (below_size lB)); have n1_ := Aside0.mk (blk_below (lK BK210.out) hb); have n2_ := Aside0.mk (below_step lB hb); clear BK210; clear HB; have HO213 := n0_; have BK210 := n1_; have HB := n2_; clear n0_ n1_ n2_; clear hb ho6) | ((with_reducible refine gate_dst (N := 17) rfl ?_); refine arr64_9_build rfl rfl ?_) | ((with_reducible refine gate_dst (N := 9) rfl ?_); refine bxe 9 (List.replicate 40 (Value.int .i64 0)).toArray 136 ?_; intro gA9 hgA w7 hboxA hb; have BArr := Aside0.mk hboxA; have ho8 := arr_row_new (k := .i64) (e := 136) (n := 40) (by decide) (by decide) hboxA (Nat.le_of_eq hgA.symm); clear hgA hboxA; rw [← Ny214.out] at ho8; have n0_ := Aside0.mk (Kd.R_elder' (lR HO213.out) (Kd.R_base ho8) hb); have n1_ := Aside0.mk (Kd.R_lower (Kd.R_new' ho8 (Kd.R_lt (lR HO213.out))) (below_size lB)); have n2_ := Aside0.mk (blk_below (lK BK210.out) hb); have n3_ := Aside0.mk (below_step lB hb); clear HO213; clear BK210; clear HB; have HO213 := n0_; have HO216 := n1_; have BK210 := n2_; have HB := n3_; clear n0_ n1_ n2_ n3_; clear hb ho8) | ((with_reducible refine gate_store (t := 136) (p := 9) rfl ?_); refine wpList_store_row rfl 136 (.tmp 9) (.tmp 17) rfl gA9 (List.replicate 40 (Value.int .i64 0)).toArray rfl rfl 136 (List.replicate 40 (Value.int .i64 0)).toArray BArr.out (by kernel_rfl) rfl (by kernel_rfl) ?_; rw [setRow_self _ _ _ _ _ BArr.out]; clear BArr))
    repeat (go_quiet (fail); try go_wp2_with (first | ((with_reducible refine gate_dst (N := 2) rfl ?_); refine bxe 2 #[.slice A0_0 l0_0.length c0_0, .slice A0_1 l0_1.length c0_1] 38 ?_; intro gb210 hg w4 hbox hb; have n0_ := Aside0.mk (below_step lB hb); have n1_ := Aside0.mk (hbox); have n2_ := lG w hg; have n3_ := lG w hg; clear HB; have HB := n0_; have BK210 := n1_; have GW210 := n2_; have GE210 := n3_; clear n0_ n1_ n2_ n3_; clear hb hbox hg) | ((with_reducible refine gate_dst (N := 16) rfl ?_); refine Kd.R_lit (Kd.int .i64) _ 3 ?hg (N := 16) ?hd (xs := ([] : List Int)) (inner := []) (ok := fun _ => True) (okp := fun _ => True) ?hr ?hp (fun _ hk => hk) trivial (Below.refl _ _) (Nat.le_refl _) (by simp) ?_; (case hd => rfl); (case hg => rfl); (case hr => first | (go_simp; done) | (go_simp; rfl)); (case hp => exact (Reps.none _ _)); intro v212 w5 ho6 hb hg_ hnew_; clear hg_ hnew_; (first | rw [← Ny211.out] at ho6 | (simp only [Int.reduceToNat] at ho6; rw [← Ny211.out] at ho6)); have n0_ := Aside0.mk (Kd.R_lower ho6 (below_size lB)); have n1_ := Aside0.mk (blk_below (lK BK210.out) hb); have n2_ := Aside0.mk (below_step lB hb); clear BK210; clear HB; have HO213 := n0_; have BK210 := n1_; have HB := n2_; clear n0_ n1_ n2_; clear hb ho6) | ((with_reducible refine gate_dst (N := 17) rfl ?_); refine arr64_9_build rfl rfl ?_) | ((with_reducible refine gate_dst (N := 9) rfl ?_); refine bxe 9 (List.replicate 40 (Value.int .i64 0)).toArray 136 ?_; intro gA9 hgA w7 hboxA hb; have BArr := Aside0.mk hboxA; have ho8 := arr_row_new (k := .i64) (e := 136) (n := 40) (by decide) (by decide) hboxA (Nat.le_of_eq hgA.symm); clear hgA hboxA; rw [← Ny214.out] at ho8; have n0_ := Aside0.mk (Kd.R_elder' (lR HO213.out) (Kd.R_base ho8) hb); have n1_ := Aside0.mk (Kd.R_lower (Kd.R_new' ho8 (Kd.R_lt (lR HO213.out))) (below_size lB)); have n2_ := Aside0.mk (blk_below (lK BK210.out) hb); have n3_ := Aside0.mk (below_step lB hb); clear HO213; clear BK210; clear HB; have HO213 := n0_; have HO216 := n1_; have BK210 := n2_; have HB := n3_; clear n0_ n1_ n2_ n3_; clear hb ho8) | ((with_reducible refine gate_store (t := 136) (p := 9) rfl ?_); refine wpList_store_row rfl 136 (.tmp 9) (.tmp 17) rfl gA9 (List.replicate 40 (Value.int .i64 0)).toArray rfl rfl 136 (List.replicate 40 (Value.int .i64 0)).toArray BArr.out (by kernel_rfl) rfl (by kernel_rfl) ?_; rw [setRow_self _ _ _ _ _ BArr.out]; clear BArr)))
    go_loopg [8, 10, 11] k (fun kq v8 v10 v11 w' => ∃ (x8_1 : List Int) (x9_1 : List Int) (x10_1 : Int) (x11_1 : Int), v10 = .int .i64 x10_1 ∧ v11 = .int .i64 x11_1 ∧ Aside0 (impl_runLined.l0 kq a1 x8_1 x9_1 x10_1 x11_1 l0_0 l0_1 = some (r1, r2, r3, r4)) ∧ Aside0 (kq ≤ k) ∧ Aside0 (Kd.R (Kd.int .i64) 3 w' w.heap.size (fun k_ => some k_ ≠ (.slice (some ⟨gA9, 0, none⟩) 40 40 : Value).ownBlock) v8 x8_1) ∧ Aside0 (Kd.R (Kd.int .i64) 136 w' w.heap.size (fun k_ => some k_ ≠ (v8 : Value).ownBlock) (.slice (some ⟨gA9, 0, none⟩) 40 40) x9_1) ∧ Aside0 (w'.heap[gb210]? = some (.cells #[(.slice A0_0 l0_0.length c0_0), (.slice A0_1 l0_1.length c0_1)] 38 (0, 0))) ∧ Aside0 (Below w.heap.size w w'))
    case atStart => exact ⟨(y211), (y214), (0), (0), lF, lF, H', ⟨Nat.le_refl _⟩, ⟨by (with_reducible repeat (first | apply Kd.R_alloc | apply Kd.R_drewN | apply Kd.R_drew)); exact Kd.R_mono HO213.out (fun _ hk => hk.2)⟩, ⟨by (with_reducible repeat (first | apply Kd.R_alloc | apply Kd.R_drewN | apply Kd.R_drew)); exact Kd.R_mono HO216.out (fun _ hk => hk.2)⟩, ⟨lK BK210.out⟩, ⟨lB⟩⟩
    case round =>
      clear H'
      try clear p2
      try clear c3
      try clear c3b0
      try clear c3b1
      try clear c6
      obtain ⟨x8_1, x9_1, x10_1, x11_1, rfl, rfl, HA, HK1, HO_8, HO_9, BK210, HB⟩ := hrel
      cases gk with
      | zero => exact absurd HA.out (by simp [impl_runLined.l0])
      | succ k1 =>
        have H := HA.out
        clear HA
        simp only [impl_runLined.l0] at H
        by_cases c9 : x10_1 < (l0_0.length : Int)
        · rw [if_pos c9] at H
          have c9b0 : decide (x10_1 < (l0_0.length : Int)) = true := decide_eq_true c9
          clear c9
          by_cases c10 : x11_1 = a1
          · rw [if_pos c10] at H
            have c10b0 : (x11_1 == a1) = true := beq_iff_eq.mpr c10
            have c10b1 : (x11_1 != a1) = false := bne_eq_false_iff_eq.mpr c10
            clear c10
            simp only [Option.some.injEq, Prod.mk.injEq] at H
            obtain ⟨rfl, rfl, rfl, rfl⟩ := H
            obtain ⟨hcz11_0, hfz11_0, hcz11_1, hfz11_1⟩ := bk2 BK210.out
            go_wp2
            repeat (go_quiet (fail); try go_wp2)
            refine bodyPost_ret (results_list (rs := [.tmp 4, .tmp 5, .tmp 6, .tmp 7]) rfl (by simp) (.tmp (.tmp (.tmp (.tmp .nil))))) rfl ?_
            exact ⟨_, lE, by first | exact Kd.R_nil _ _ _ _ _ | exact Kd.N_nil _ _ _ _ _ | exact Kd.V_nil _ _ _ _ _ | exact Kd.Q_nil _ _ _ _ _ | exact Kd.S_nil _ _ _ _ _, lB⟩
          · rw [if_neg c10] at H
            have c10b0 : (x11_1 == a1) = false := beq_eq_false_iff_ne.mpr c10
            have c10b1 : (x11_1 != a1) = true := bne_iff_ne.mpr c10
            by_cases c12 : 0 ≤ x10_1
            · rw [if_pos c12] at H
              have c12b0 : decide (0 ≤ x10_1) = true := decide_eq_true c12
              clear c12
              have HC13 := Aside0.mk H
              clear H
              obtain ⟨hcz14_0, hfz14_0, hcz14_1, hfz14_1⟩ := bk2 BK210.out
              have p217 : 0 ≤ (x10_1 : Int) := lD
              have q217 : x10_1 < (l0_0.length : Int) := lD
              obtain ⟨ad217, e217, hx217_0, hx217_1, hx217_2⟩ := at_T86 HR0_0.out x10_1 p217 q217
              cases e217
              replace hx217_0 := pw_cell_below HB.out hx217_0
              replace hx217_1 := pw_cell_below HB.out hx217_1
              replace hx217_2 := pw_cell_below HB.out hx217_2
              replace p217 := eq_true p217
              replace q217 := eq_true q217
              go_upto_block 2 with (first | ((with_reducible refine gate_dst (N := 12) rfl ?_); refine bxe 12 #[.int .i64 0, .int .i64 0, .int .i64 0] 86 ?_; intro gb218 hg w15 hbox hb; have n0_ := Aside0.mk (Kd.R_below (lR HO_8.out) hb); have n1_ := Aside0.mk (Kd.R_below (lR HO_9.out) hb); have n2_ := Aside0.mk (blk_below (lK BK210.out) hb); have n3_ := Aside0.mk (below_step lB hb); have n4_ := Aside0.mk (hbox); have n5_ := lG w hg; have n6_ := lG w hg; have n7_ := Aside0.mk ((by rw [hg]; exact Nat.ne_of_lt (blk_lt (lK BK210.out)) : gb210 ≠ gb218)); have n8_ := Aside0.mk ((by rw [hg]; exact Nat.ne_of_gt (blk_lt (lK BK210.out)) : gb218 ≠ gb210)); clear HO_8; clear HO_9; clear BK210; clear HB; have HO_8 := n0_; have HO_9 := n1_; have BK210 := n2_; have HB := n3_; have BK218 := n4_; have GW218 := n5_; have GE218 := n6_; have NB210_218 := n7_; have NB218_210 := n8_; clear n0_ n1_ n2_ n3_ n4_ n5_ n6_ n7_ n8_; clear hb hbox hg; have hnb16 := NB218_210.out; have hnc16 := NB210_218.out; obtain ⟨hcz17_0, hfz17_0, hcz17_1, hfz17_1, hcz17_2, hfz17_2⟩ := bk3 BK218.out))
              repeat (go_quiet (fail); go_upto_block 2 with (first | ((with_reducible refine gate_dst (N := 12) rfl ?_); refine bxe 12 #[.int .i64 0, .int .i64 0, .int .i64 0] 86 ?_; intro gb218 hg w15 hbox hb; have n0_ := Aside0.mk (Kd.R_below (lR HO_8.out) hb); have n1_ := Aside0.mk (Kd.R_below (lR HO_9.out) hb); have n2_ := Aside0.mk (blk_below (lK BK210.out) hb); have n3_ := Aside0.mk (below_step lB hb); have n4_ := Aside0.mk (hbox); have n5_ := lG w hg; have n6_ := lG w hg; have n7_ := Aside0.mk ((by rw [hg]; exact Nat.ne_of_lt (blk_lt (lK BK210.out)) : gb210 ≠ gb218)); have n8_ := Aside0.mk ((by rw [hg]; exact Nat.ne_of_gt (blk_lt (lK BK210.out)) : gb218 ≠ gb210)); clear HO_8; clear HO_9; clear BK210; clear HB; have HO_8 := n0_; have HO_9 := n1_; have BK210 := n2_; have HB := n3_; have BK218 := n4_; have GW218 := n5_; have GE218 := n6_; have NB210_218 := n7_; have NB218_210 := n8_; clear n0_ n1_ n2_ n3_ n4_ n5_ n6_ n7_ n8_; clear hb hbox hg; have hnb16 := NB218_210.out; have hnc16 := NB210_218.out; obtain ⟨hcz17_0, hfz17_0, hcz17_1, hfz17_1, hcz17_2, hfz17_2⟩ := bk3 BK218.out)))
              (try simp only [Act.put, List.setIfInBounds_toArray, List.set_cons_zero, List.set_cons_succ])
              go_cut [8, 13, 14] (fun v8 v13 v14 wc => ∃ (kq : Nat) (x8_12 : List Int) (x9_12 : List Int) (x13_12 : Int) (x14_12 : Int), v13 = .int .i64 x13_12 ∧ v14 = .int .i64 x14_12 ∧ Aside0 (impl_runLined.j1 kq a1 x8_12 x9_12 x10_1 (wrap64 (x11_1 + 1)) x13_12 x14_12 l0_0 l0_1 = some (r1, r2, r3, r4)) ∧ Aside0 (kq ≤ k1) ∧ Aside0 (Kd.R (Kd.int .i64) 3 wc w.heap.size (fun k_ => some k_ ≠ (.slice (some ⟨gA9, 0, none⟩) 40 40 : Value).ownBlock) v8 x8_12) ∧ Aside0 (Kd.R (Kd.int .i64) 136 wc w.heap.size (fun k_ => some k_ ≠ (v8 : Value).ownBlock) (.slice (some ⟨gA9, 0, none⟩) 40 40) x9_12) ∧ Aside0 (wc.heap[gb210]? = some (.cells #[(.slice (some ad217) l0_0.length c0_0), (.slice A0_1 l0_1.length c0_1)] 38 (0, 0))) ∧ Aside0 (wc.heap[gb218]? = some (.cells #[.int .i64 ((rd_T86 l0_0 x10_1).f0), .int .i64 ((rd_T86 l0_0 x10_1).f1), .int .i64 ((rd_T86 l0_0 x10_1).f2)] 86 (0, 0))) ∧ Aside0 (Below w.heap.size w wc))
              case first =>
                have H := HC13.out
                clear HC13
                by_cases c18 : ((rd_T86 l0_0 x10_1).f0) = 1
                · rw [if_pos c18] at H
                  have c18b0 : (((rd_T86 l0_0 x10_1).f0) == 1) = true := beq_iff_eq.mpr c18
                  have c18b1 : (((rd_T86 l0_0 x10_1).f0) != 1) = false := bne_eq_false_iff_eq.mpr c18
                  clear c18
                  (first | rw [c18b0] | (simp only [i64_w, i32_w]; rw [c18b0]) | skip)
                  by_cases c19 : x8_1.length < 17592186044416
                  · rw [if_pos c19] at H
                    have LMc19 := Aside0.mk c19
                    clear c19
                    obtain ⟨y219, hy219⟩ : ∃ y_ : List Int, y_ = (x8_1 ++ [(rd_T86 l0_0 x10_1).f1]) := ⟨_, rfl⟩
                    replace H : (if (y219.length : Int) > 200 then (some (([] : List Int), 0, 0, false)) else (impl_runLined.j1 k1 a1 y219 x9_1 x10_1 (wrap64 (x11_1 + 1)) 0 (wrap64 (x10_1 + 1)) l0_0 l0_1)) = some (r1, r2, r3, r4) := by first | (rw [hy219]; with_reducible exact H) | (have H2_ := (Option.bind_some _ _).symm.trans H; rw [hy219]; with_reducible exact H2_) | (have H2_ := (Option.bind_some _ _).symm.trans H; with_reducible exact H2_) | with_reducible exact H | (rw [hy219]; exact H) | exact H
                    have Ny219 := Aside0.mk hy219
                    clear hy219
                    by_cases c20 : (y219.length : Int) > 200
                    · rw [if_pos c20] at H
                      have c20b0 : decide (200 < (y219.length : Int)) = true := decide_eq_true c20
                      have c20b1 : decide (200 < y219.length) = true := decide_eq_true (by omega)
                      clear c20
                      simp only [Option.some.injEq, Prod.mk.injEq] at H
                      obtain ⟨rfl, rfl, rfl, rfl⟩ := H
                      have hnb21 := NB218_210.out
                      have hnc21 := NB210_218.out
                      obtain ⟨hcz22_0, hfz22_0, hcz22_1, hfz22_1, hcz22_2, hfz22_2⟩ := bk3 BK218.out
                      go_wp2_with (first | ((with_reducible refine gate_builtin (b := .append) (xs := #[.tmp 39, .tmp 42]) rfl ?_); at_builtin; refine Kd.R_append (Kd.int .i64) (w0 := w) w.heap.size rfl (.tmp 39) (.tmp 42) 45 3 (.int .i64 0) 8 rfl Try.underlying45 info3 rfl (by decide) (by omega) u8 x8_1 ((rd_T86 l0_0 x10_1).f1) [.int .i64 ((rd_T86 l0_0 x10_1).f1)] (fun k_ => some k_ ≠ (.slice (some ⟨gA9, 0, none⟩) 40 40 : Value).ownBlock) (fun _ => False) rfl (by first | (go_simp; done) | (go_simp; rfl)) ?aP (fun _ hk => hk.elim) ?aF ?aO ?aB ?aS ?aL ?_; (case aP => exact rfl); (case aB => exact lB); (case aF => exact (fun k_ hk => Kd.fresh' (Kd.R_lt (by (with_reducible repeat (first | apply Kd.R_alloc | apply Kd.R_drewN | apply Kd.R_drew)); exact (Kd.R_mono (Kd.R_far (p := ⟨gb218, 2, none⟩) (Kd.R_far (p := ⟨gb218, 1, none⟩) (Kd.R_far (p := ⟨gb218, 0, none⟩) (Kd.R_types HO_9.out BK218.out (by decide)) (fun _ hk => hk.2) (.int .i64 ((rd_T86 l0_0 x10_1).f0))) (fun _ hk => hk.2) (.int .i64 ((rd_T86 l0_0 x10_1).f1))) (fun _ hk => hk.2) (.int .i64 ((rd_T86 l0_0 x10_1).f2))) (fun _ h_ => h_.1)))) k_ hk)); (case aO => exact (by (with_reducible repeat (first | apply Kd.R_alloc | apply Kd.R_drewN | apply Kd.R_drew)); exact Kd.R_mono (Kd.R_far (p := ⟨gb218, 2, none⟩) (Kd.R_far (p := ⟨gb218, 1, none⟩) (Kd.R_far (p := ⟨gb218, 0, none⟩) (Kd.R_types HO_8.out BK218.out (by decide)) (fun _ hk => hk.2) (.int .i64 ((rd_T86 l0_0 x10_1).f0))) (fun _ hk => hk.2) (.int .i64 ((rd_T86 l0_0 x10_1).f1))) (fun _ hk => hk.2) (.int .i64 ((rd_T86 l0_0 x10_1).f2))) (fun _ hk => hk.1))); (case aS => exact (below_size lB)); (case aL => have := LMc19.out; omega); intro v220 w23 ho hb hg hat; rw [← Ny219.out] at ho; have n0_ := Aside0.mk (Kd.R_after (ok := (fun _ => True)) (by (with_reducible repeat (first | apply Kd.R_alloc | apply Kd.R_drewN | apply Kd.R_drew)); exact Kd.R_mono (Kd.R_far (p := ⟨gb218, 2, none⟩) (Kd.R_far (p := ⟨gb218, 1, none⟩) (Kd.R_far (p := ⟨gb218, 0, none⟩) (Kd.R_types HO_9.out BK218.out (by decide)) (fun _ hk => hk.2) (.int .i64 ((rd_T86 l0_0 x10_1).f0))) (fun _ hk => hk.2) (.int .i64 ((rd_T86 l0_0 x10_1).f1))) (fun _ hk => hk.2) (.int .i64 ((rd_T86 l0_0 x10_1).f2))) (fun _ hk => ⟨trivial, hk.1⟩)) hg hat); have n1_ := Aside0.mk (blk_grown (lJ BK210.out) hg (Kd.R_ne HO_8.out BK210.out (by decide))); have n2_ := Aside0.mk (blk_grown (g := gb218) (o := .cells #[.int .i64 ((rd_T86 l0_0 x10_1).f0), .int .i64 ((rd_T86 l0_0 x10_1).f1), .int .i64 ((rd_T86 l0_0 x10_1).f2)] 86 (0, 0)) (by (with_reducible repeat first | apply bN | apply bD | apply bA); refine blk_put (cs := #[.int .i64 ((rd_T86 l0_0 x10_1).f0), .int .i64 ((rd_T86 l0_0 x10_1).f1), .int .i64 0]) ?_ 2 _ rfl; (with_reducible repeat first | apply bN | apply bD | apply bA); refine blk_put (cs := #[.int .i64 ((rd_T86 l0_0 x10_1).f0), .int .i64 0, .int .i64 0]) ?_ 1 _ rfl; (with_reducible repeat first | apply bN | apply bD | apply bA); refine blk_put (cs := #[.int .i64 0, .int .i64 0, .int .i64 0]) ?_ 0 _ rfl; (with_reducible repeat first | apply bN | apply bD | apply bA); exact BK218.out) hg (Kd.R_ne HO_8.out BK218.out (by decide))); have n3_ := Aside0.mk (hb); have n4_ := Aside0.mk (ho); clear HO_9; clear BK210; clear BK218; clear HB; clear HO_8; have HO_9 := n0_; have BK210 := n1_; have BK218 := n2_; have HB := n3_; have HO221 := n4_; clear n0_ n1_ n2_ n3_ n4_; clear ho hb hg hat; obtain ⟨Ao24, co24, eo24⟩ := Kd.R_slice HO221.out; subst eo24))
                      repeat (go_quiet (fail); try go_wp2_with (first | ((with_reducible refine gate_builtin (b := .append) (xs := #[.tmp 39, .tmp 42]) rfl ?_); at_builtin; refine Kd.R_append (Kd.int .i64) (w0 := w) w.heap.size rfl (.tmp 39) (.tmp 42) 45 3 (.int .i64 0) 8 rfl Try.underlying45 info3 rfl (by decide) (by omega) u8 x8_1 ((rd_T86 l0_0 x10_1).f1) [.int .i64 ((rd_T86 l0_0 x10_1).f1)] (fun k_ => some k_ ≠ (.slice (some ⟨gA9, 0, none⟩) 40 40 : Value).ownBlock) (fun _ => False) rfl (by first | (go_simp; done) | (go_simp; rfl)) ?aP (fun _ hk => hk.elim) ?aF ?aO ?aB ?aS ?aL ?_; (case aP => exact rfl); (case aB => exact lB); (case aF => exact (fun k_ hk => Kd.fresh' (Kd.R_lt (by (with_reducible repeat (first | apply Kd.R_alloc | apply Kd.R_drewN | apply Kd.R_drew)); exact (Kd.R_mono (Kd.R_far (p := ⟨gb218, 2, none⟩) (Kd.R_far (p := ⟨gb218, 1, none⟩) (Kd.R_far (p := ⟨gb218, 0, none⟩) (Kd.R_types HO_9.out BK218.out (by decide)) (fun _ hk => hk.2) (.int .i64 ((rd_T86 l0_0 x10_1).f0))) (fun _ hk => hk.2) (.int .i64 ((rd_T86 l0_0 x10_1).f1))) (fun _ hk => hk.2) (.int .i64 ((rd_T86 l0_0 x10_1).f2))) (fun _ h_ => h_.1)))) k_ hk)); (case aO => exact (by (with_reducible repeat (first | apply Kd.R_alloc | apply Kd.R_drewN | apply Kd.R_drew)); exact Kd.R_mono (Kd.R_far (p := ⟨gb218, 2, none⟩) (Kd.R_far (p := ⟨gb218, 1, none⟩) (Kd.R_far (p := ⟨gb218, 0, none⟩) (Kd.R_types HO_8.out BK218.out (by decide)) (fun _ hk => hk.2) (.int .i64 ((rd_T86 l0_0 x10_1).f0))) (fun _ hk => hk.2) (.int .i64 ((rd_T86 l0_0 x10_1).f1))) (fun _ hk => hk.2) (.int .i64 ((rd_T86 l0_0 x10_1).f2))) (fun _ hk => hk.1))); (case aS => exact (below_size lB)); (case aL => have := LMc19.out; omega); intro v220 w23 ho hb hg hat; rw [← Ny219.out] at ho; have n0_ := Aside0.mk (Kd.R_after (ok := (fun _ => True)) (by (with_reducible repeat (first | apply Kd.R_alloc | apply Kd.R_drewN | apply Kd.R_drew)); exact Kd.R_mono (Kd.R_far (p := ⟨gb218, 2, none⟩) (Kd.R_far (p := ⟨gb218, 1, none⟩) (Kd.R_far (p := ⟨gb218, 0, none⟩) (Kd.R_types HO_9.out BK218.out (by decide)) (fun _ hk => hk.2) (.int .i64 ((rd_T86 l0_0 x10_1).f0))) (fun _ hk => hk.2) (.int .i64 ((rd_T86 l0_0 x10_1).f1))) (fun _ hk => hk.2) (.int .i64 ((rd_T86 l0_0 x10_1).f2))) (fun _ hk => ⟨trivial, hk.1⟩)) hg hat); have n1_ := Aside0.mk (blk_grown (lJ BK210.out) hg (Kd.R_ne HO_8.out BK210.out (by decide))); have n2_ := Aside0.mk (blk_grown (g := gb218) (o := .cells #[.int .i64 ((rd_T86 l0_0 x10_1).f0), .int .i64 ((rd_T86 l0_0 x10_1).f1), .int .i64 ((rd_T86 l0_0 x10_1).f2)] 86 (0, 0)) (by (with_reducible repeat first | apply bN | apply bD | apply bA); refine blk_put (cs := #[.int .i64 ((rd_T86 l0_0 x10_1).f0), .int .i64 ((rd_T86 l0_0 x10_1).f1), .int .i64 0]) ?_ 2 _ rfl; (with_reducible repeat first | apply bN | apply bD | apply bA); refine blk_put (cs := #[.int .i64 ((rd_T86 l0_0 x10_1).f0), .int .i64 0, .int .i64 0]) ?_ 1 _ rfl; (with_reducible repeat first | apply bN | apply bD | apply bA); refine blk_put (cs := #[.int .i64 0, .int .i64 0, .int .i64 0]) ?_ 0 _ rfl; (with_reducible repeat first | apply bN | apply bD | apply bA); exact BK218.out) hg (Kd.R_ne HO_8.out BK218.out (by decide))); have n3_ := Aside0.mk (hb); have n4_ := Aside0.mk (ho); clear HO_9; clear BK210; clear BK218; clear HB; clear HO_8; have HO_9 := n0_; have BK210 := n1_; have BK218 := n2_; have HB := n3_; have HO221 := n4_; clear n0_ n1_ n2_ n3_ n4_; clear ho hb hg hat; obtain ⟨Ao24, co24, eo24⟩ := Kd.R_slice HO221.out; subst eo24)))
                      refine bodyPost_ret (results_list (rs := [.tmp 4, .tmp 5, .tmp 6, .tmp 7]) rfl (by simp) (.tmp (.tmp (.tmp (.tmp .nil))))) rfl ?_
                      exact ⟨_, lE, by first | exact Kd.R_nil _ _ _ _ _ | exact Kd.N_nil _ _ _ _ _ | exact Kd.V_nil _ _ _ _ _ | exact Kd.Q_nil _ _ _ _ _ | exact Kd.S_nil _ _ _ _ _, lB⟩
                    · rw [if_neg c20] at H
                      have c20b0 : decide (200 < (y219.length : Int)) = false := decide_eq_false c20
                      have c20b1 : decide (200 < y219.length) = false := decide_eq_false (by omega)
                      clear c20
                      have H' := Aside0.mk H
                      clear H
                      have hnb25 := NB218_210.out
                      have hnc25 := NB210_218.out
                      obtain ⟨hcz26_0, hfz26_0, hcz26_1, hfz26_1, hcz26_2, hfz26_2⟩ := bk3 BK218.out
                      go_wp2_with (first | ((with_reducible refine gate_builtin (b := .append) (xs := #[.tmp 39, .tmp 42]) rfl ?_); at_builtin; refine Kd.R_append (Kd.int .i64) (w0 := w) w.heap.size rfl (.tmp 39) (.tmp 42) 45 3 (.int .i64 0) 8 rfl Try.underlying45 info3 rfl (by decide) (by omega) u8 x8_1 ((rd_T86 l0_0 x10_1).f1) [.int .i64 ((rd_T86 l0_0 x10_1).f1)] (fun k_ => some k_ ≠ (.slice (some ⟨gA9, 0, none⟩) 40 40 : Value).ownBlock) (fun _ => False) rfl (by first | (go_simp; done) | (go_simp; rfl)) ?aP (fun _ hk => hk.elim) ?aF ?aO ?aB ?aS ?aL ?_; (case aP => exact rfl); (case aB => exact lB); (case aF => exact (fun k_ hk => Kd.fresh' (Kd.R_lt (by (with_reducible repeat (first | apply Kd.R_alloc | apply Kd.R_drewN | apply Kd.R_drew)); exact (Kd.R_mono (Kd.R_far (p := ⟨gb218, 2, none⟩) (Kd.R_far (p := ⟨gb218, 1, none⟩) (Kd.R_far (p := ⟨gb218, 0, none⟩) (Kd.R_types HO_9.out BK218.out (by decide)) (fun _ hk => hk.2) (.int .i64 ((rd_T86 l0_0 x10_1).f0))) (fun _ hk => hk.2) (.int .i64 ((rd_T86 l0_0 x10_1).f1))) (fun _ hk => hk.2) (.int .i64 ((rd_T86 l0_0 x10_1).f2))) (fun _ h_ => h_.1)))) k_ hk)); (case aO => exact (by (with_reducible repeat (first | apply Kd.R_alloc | apply Kd.R_drewN | apply Kd.R_drew)); exact Kd.R_mono (Kd.R_far (p := ⟨gb218, 2, none⟩) (Kd.R_far (p := ⟨gb218, 1, none⟩) (Kd.R_far (p := ⟨gb218, 0, none⟩) (Kd.R_types HO_8.out BK218.out (by decide)) (fun _ hk => hk.2) (.int .i64 ((rd_T86 l0_0 x10_1).f0))) (fun _ hk => hk.2) (.int .i64 ((rd_T86 l0_0 x10_1).f1))) (fun _ hk => hk.2) (.int .i64 ((rd_T86 l0_0 x10_1).f2))) (fun _ hk => hk.1))); (case aS => exact (below_size lB)); (case aL => have := LMc19.out; omega); intro v220 w27 ho hb hg hat; rw [← Ny219.out] at ho; have n0_ := Aside0.mk (Kd.R_after (ok := (fun _ => True)) (by (with_reducible repeat (first | apply Kd.R_alloc | apply Kd.R_drewN | apply Kd.R_drew)); exact Kd.R_mono (Kd.R_far (p := ⟨gb218, 2, none⟩) (Kd.R_far (p := ⟨gb218, 1, none⟩) (Kd.R_far (p := ⟨gb218, 0, none⟩) (Kd.R_types HO_9.out BK218.out (by decide)) (fun _ hk => hk.2) (.int .i64 ((rd_T86 l0_0 x10_1).f0))) (fun _ hk => hk.2) (.int .i64 ((rd_T86 l0_0 x10_1).f1))) (fun _ hk => hk.2) (.int .i64 ((rd_T86 l0_0 x10_1).f2))) (fun _ hk => ⟨trivial, hk.1⟩)) hg hat); have n1_ := Aside0.mk (blk_grown (lJ BK210.out) hg (Kd.R_ne HO_8.out BK210.out (by decide))); have n2_ := Aside0.mk (blk_grown (g := gb218) (o := .cells #[.int .i64 ((rd_T86 l0_0 x10_1).f0), .int .i64 ((rd_T86 l0_0 x10_1).f1), .int .i64 ((rd_T86 l0_0 x10_1).f2)] 86 (0, 0)) (by (with_reducible repeat first | apply bN | apply bD | apply bA); refine blk_put (cs := #[.int .i64 ((rd_T86 l0_0 x10_1).f0), .int .i64 ((rd_T86 l0_0 x10_1).f1), .int .i64 0]) ?_ 2 _ rfl; (with_reducible repeat first | apply bN | apply bD | apply bA); refine blk_put (cs := #[.int .i64 ((rd_T86 l0_0 x10_1).f0), .int .i64 0, .int .i64 0]) ?_ 1 _ rfl; (with_reducible repeat first | apply bN | apply bD | apply bA); refine blk_put (cs := #[.int .i64 0, .int .i64 0, .int .i64 0]) ?_ 0 _ rfl; (with_reducible repeat first | apply bN | apply bD | apply bA); exact BK218.out) hg (Kd.R_ne HO_8.out BK218.out (by decide))); have n3_ := Aside0.mk (hb); have n4_ := Aside0.mk (ho); clear HO_9; clear BK210; clear BK218; clear HB; clear HO_8; have HO_9 := n0_; have BK210 := n1_; have BK218 := n2_; have HB := n3_; have HO221 := n4_; clear n0_ n1_ n2_ n3_ n4_; clear ho hb hg hat; obtain ⟨Ao28, co28, eo28⟩ := Kd.R_slice HO221.out; subst eo28))
                      repeat (go_quiet (fail); try go_wp2_with (first | ((with_reducible refine gate_builtin (b := .append) (xs := #[.tmp 39, .tmp 42]) rfl ?_); at_builtin; refine Kd.R_append (Kd.int .i64) (w0 := w) w.heap.size rfl (.tmp 39) (.tmp 42) 45 3 (.int .i64 0) 8 rfl Try.underlying45 info3 rfl (by decide) (by omega) u8 x8_1 ((rd_T86 l0_0 x10_1).f1) [.int .i64 ((rd_T86 l0_0 x10_1).f1)] (fun k_ => some k_ ≠ (.slice (some ⟨gA9, 0, none⟩) 40 40 : Value).ownBlock) (fun _ => False) rfl (by first | (go_simp; done) | (go_simp; rfl)) ?aP (fun _ hk => hk.elim) ?aF ?aO ?aB ?aS ?aL ?_; (case aP => exact rfl); (case aB => exact lB); (case aF => exact (fun k_ hk => Kd.fresh' (Kd.R_lt (by (with_reducible repeat (first | apply Kd.R_alloc | apply Kd.R_drewN | apply Kd.R_drew)); exact (Kd.R_mono (Kd.R_far (p := ⟨gb218, 2, none⟩) (Kd.R_far (p := ⟨gb218, 1, none⟩) (Kd.R_far (p := ⟨gb218, 0, none⟩) (Kd.R_types HO_9.out BK218.out (by decide)) (fun _ hk => hk.2) (.int .i64 ((rd_T86 l0_0 x10_1).f0))) (fun _ hk => hk.2) (.int .i64 ((rd_T86 l0_0 x10_1).f1))) (fun _ hk => hk.2) (.int .i64 ((rd_T86 l0_0 x10_1).f2))) (fun _ h_ => h_.1)))) k_ hk)); (case aO => exact (by (with_reducible repeat (first | apply Kd.R_alloc | apply Kd.R_drewN | apply Kd.R_drew)); exact Kd.R_mono (Kd.R_far (p := ⟨gb218, 2, none⟩) (Kd.R_far (p := ⟨gb218, 1, none⟩) (Kd.R_far (p := ⟨gb218, 0, none⟩) (Kd.R_types HO_8.out BK218.out (by decide)) (fun _ hk => hk.2) (.int .i64 ((rd_T86 l0_0 x10_1).f0))) (fun _ hk => hk.2) (.int .i64 ((rd_T86 l0_0 x10_1).f1))) (fun _ hk => hk.2) (.int .i64 ((rd_T86 l0_0 x10_1).f2))) (fun _ hk => hk.1))); (case aS => exact (below_size lB)); (case aL => have := LMc19.out; omega); intro v220 w27 ho hb hg hat; rw [← Ny219.out] at ho; have n0_ := Aside0.mk (Kd.R_after (ok := (fun _ => True)) (by (with_reducible repeat (first | apply Kd.R_alloc | apply Kd.R_drewN | apply Kd.R_drew)); exact Kd.R_mono (Kd.R_far (p := ⟨gb218, 2, none⟩) (Kd.R_far (p := ⟨gb218, 1, none⟩) (Kd.R_far (p := ⟨gb218, 0, none⟩) (Kd.R_types HO_9.out BK218.out (by decide)) (fun _ hk => hk.2) (.int .i64 ((rd_T86 l0_0 x10_1).f0))) (fun _ hk => hk.2) (.int .i64 ((rd_T86 l0_0 x10_1).f1))) (fun _ hk => hk.2) (.int .i64 ((rd_T86 l0_0 x10_1).f2))) (fun _ hk => ⟨trivial, hk.1⟩)) hg hat); have n1_ := Aside0.mk (blk_grown (lJ BK210.out) hg (Kd.R_ne HO_8.out BK210.out (by decide))); have n2_ := Aside0.mk (blk_grown (g := gb218) (o := .cells #[.int .i64 ((rd_T86 l0_0 x10_1).f0), .int .i64 ((rd_T86 l0_0 x10_1).f1), .int .i64 ((rd_T86 l0_0 x10_1).f2)] 86 (0, 0)) (by (with_reducible repeat first | apply bN | apply bD | apply bA); refine blk_put (cs := #[.int .i64 ((rd_T86 l0_0 x10_1).f0), .int .i64 ((rd_T86 l0_0 x10_1).f1), .int .i64 0]) ?_ 2 _ rfl; (with_reducible repeat first | apply bN | apply bD | apply bA); refine blk_put (cs := #[.int .i64 ((rd_T86 l0_0 x10_1).f0), .int .i64 0, .int .i64 0]) ?_ 1 _ rfl; (with_reducible repeat first | apply bN | apply bD | apply bA); refine blk_put (cs := #[.int .i64 0, .int .i64 0, .int .i64 0]) ?_ 0 _ rfl; (with_reducible repeat first | apply bN | apply bD | apply bA); exact BK218.out) hg (Kd.R_ne HO_8.out BK218.out (by decide))); have n3_ := Aside0.mk (hb); have n4_ := Aside0.mk (ho); clear HO_9; clear BK210; clear BK218; clear HB; clear HO_8; have HO_9 := n0_; have BK210 := n1_; have BK218 := n2_; have HB := n3_; have HO221 := n4_; clear n0_ n1_ n2_ n3_ n4_; clear ho hb hg hat; obtain ⟨Ao28, co28, eo28⟩ := Kd.R_slice HO221.out; subst eo28)))
                      go_meet
                      case rel => exact ⟨_, (y219), (x9_1), (0), (wrap64 (x10_1 + 1)), lF, lF, H', ⟨by have := HK1.out; first | omega | exact Nat.le_refl _⟩, ⟨lR HO221.out⟩, ⟨by (with_reducible repeat (first | apply Kd.R_alloc | apply Kd.R_drewN | apply Kd.R_drew)); exact Kd.R_mono HO_9.out (fun _ hk => hk.2)⟩, ⟨lK BK210.out⟩, ⟨lK BK218.out⟩, ⟨lB⟩⟩
                  · rw [if_neg c19] at H
                    exact absurd H (by simp)
                · rw [if_neg c18] at H
                  have c18b0 : (((rd_T86 l0_0 x10_1).f0) == 1) = false := beq_eq_false_iff_ne.mpr c18
                  have c18b1 : (((rd_T86 l0_0 x10_1).f0) != 1) = true := bne_iff_ne.mpr c18
                  (first | rw [c18b0] | (simp only [i64_w, i32_w]; rw [c18b0]) | skip)
                  by_cases c29 : ((rd_T86 l0_0 x10_1).f0) = 2
                  · rw [if_pos c29] at H
                    have c29b0 : (((rd_T86 l0_0 x10_1).f0) == 2) = true := beq_iff_eq.mpr c29
                    have c29b1 : (((rd_T86 l0_0 x10_1).f0) != 2) = false := bne_eq_false_iff_eq.mpr c29
                    clear c29
                    have H' := Aside0.mk H
                    clear H
                    have hnb30 := NB218_210.out
                    have hnc30 := NB210_218.out
                    obtain ⟨hcz31_0, hfz31_0, hcz31_1, hfz31_1, hcz31_2, hfz31_2⟩ := bk3 BK218.out
                    go_wp2
                    repeat (go_quiet (fail); try go_wp2)
                    go_meet
                    case rel => exact ⟨_, (x8_1), (x9_1), ((rd_T86 l0_0 x10_1).f1), (wrap64 (x10_1 + 1)), lF, lF, H', ⟨by have := HK1.out; first | omega | exact Nat.le_refl _⟩, ⟨by (with_reducible repeat (first | apply Kd.R_alloc | apply Kd.R_drewN | apply Kd.R_drew)); exact Kd.R_mono (Kd.R_far (p := ⟨gb218, 2, none⟩) (Kd.R_far (p := ⟨gb218, 1, none⟩) (Kd.R_far (p := ⟨gb218, 0, none⟩) (Kd.R_types HO_8.out BK218.out (by decide)) (fun _ hk => hk.2) (.int .i64 ((rd_T86 l0_0 x10_1).f0))) (fun _ hk => hk.2) (.int .i64 ((rd_T86 l0_0 x10_1).f1))) (fun _ hk => hk.2) (.int .i64 ((rd_T86 l0_0 x10_1).f2))) (fun _ hk => hk.1)⟩, ⟨by (with_reducible repeat (first | apply Kd.R_alloc | apply Kd.R_drewN | apply Kd.R_drew)); exact Kd.R_mono (Kd.R_far (p := ⟨gb218, 2, none⟩) (Kd.R_far (p := ⟨gb218, 1, none⟩) (Kd.R_far (p := ⟨gb218, 0, none⟩) (Kd.R_types HO_9.out BK218.out (by decide)) (fun _ hk => hk.2) (.int .i64 ((rd_T86 l0_0 x10_1).f0))) (fun _ hk => hk.2) (.int .i64 ((rd_T86 l0_0 x10_1).f1))) (fun _ hk => hk.2) (.int .i64 ((rd_T86 l0_0 x10_1).f2))) (fun _ hk => hk.1)⟩, ⟨lJ BK210.out⟩, ⟨by (with_reducible repeat first | apply bN | apply bD | apply bA); refine blk_put (cs := #[.int .i64 ((rd_T86 l0_0 x10_1).f0), .int .i64 ((rd_T86 l0_0 x10_1).f1), .int .i64 0]) ?_ 2 _ rfl; (with_reducible repeat first | apply bN | apply bD | apply bA); refine blk_put (cs := #[.int .i64 ((rd_T86 l0_0 x10_1).f0), .int .i64 0, .int .i64 0]) ?_ 1 _ rfl; (with_reducible repeat first | apply bN | apply bD | apply bA); refine blk_put (cs := #[.int .i64 0, .int .i64 0, .int .i64 0]) ?_ 0 _ rfl; (with_reducible repeat first | apply bN | apply bD | apply bA); exact BK218.out⟩, ⟨lB⟩⟩
                  · rw [if_neg c29] at H
                    have c29b0 : (((rd_T86 l0_0 x10_1).f0) == 2) = false := beq_eq_false_iff_ne.mpr c29
                    have c29b1 : (((rd_T86 l0_0 x10_1).f0) != 2) = true := bne_iff_ne.mpr c29
                    by_cases c32 : ((rd_T86 l0_0 x10_1).f0) = 3
                    · rw [if_pos c32] at H
                      have c32b0 : (((rd_T86 l0_0 x10_1).f0) == 3) = true := beq_iff_eq.mpr c32
                      have c32b1 : (((rd_T86 l0_0 x10_1).f0) != 3) = false := bne_eq_false_iff_eq.mpr c32
                      clear c32
                      by_cases c33 : 0 ≤ ((rd_T86 l0_0 x10_1).f1)
                      · rw [if_pos c33] at H
                        have c33b0 : decide (0 ≤ ((rd_T86 l0_0 x10_1).f1)) = true := decide_eq_true c33
                        clear c33
                        by_cases c34 : ((rd_T86 l0_0 x10_1).f1) < (x9_1.length : Int)
                        · rw [if_pos c34] at H
                          have c34b0 : decide (((rd_T86 l0_0 x10_1).f1) < (x9_1.length : Int)) = true := decide_eq_true c34
                          clear c34
                          have H' := Aside0.mk H
                          clear H
                          have hnb35 := NB218_210.out
                          have hnc35 := NB210_218.out
                          obtain ⟨hcz36_0, hfz36_0, hcz36_1, hfz36_1, hcz36_2, hfz36_2⟩ := bk3 BK218.out
                          have p222 : 0 ≤ (((rd_T86 l0_0 x10_1).f1) : Int) := lD
                          have q222 : ((rd_T86 l0_0 x10_1).f1) < (x9_1.length : Int) := lD
                          obtain ⟨ad222, e222, hx222_0⟩ := Kd.at_int (Kd.R_reads' HO_9.out).2.2 ((rd_T86 l0_0 x10_1).f1) p222 q222
                          cases e222
                          have hn222_0 : (⟨gA9, 0, none⟩ : Addr).block ≠ gb218 := Kd.own_blk (Kd.R_ne HO_9.out BK218.out (by decide))
                          have hn222_1 : (⟨gA9, 0, none⟩ : Addr).block ≠ gb218 := Kd.own_blk (Kd.R_ne HO_9.out BK218.out (by decide))
                          have hn222_2 : (⟨gA9, 0, none⟩ : Addr).block ≠ gb218 := Kd.own_blk (Kd.R_ne HO_9.out BK218.out (by decide))
                          replace hx222_0 := (cell_far (p := ⟨gb218, 0, none⟩) (by first | (rw [add_block]; exact hn222_0) | (show (Addr.add _ _).block ≠ _; rw [add_block]; exact hn222_0) | exact hn222_0) (.int .i64 ((rd_T86 l0_0 x10_1).f0))).trans hx222_0
                          replace hx222_0 := (cell_far (p := ⟨gb218, 1, none⟩) (by first | (rw [add_block]; exact hn222_1) | (show (Addr.add _ _).block ≠ _; rw [add_block]; exact hn222_1) | exact hn222_1) (.int .i64 ((rd_T86 l0_0 x10_1).f1))).trans hx222_0
                          replace hx222_0 := (cell_far (p := ⟨gb218, 2, none⟩) (by first | (rw [add_block]; exact hn222_2) | (show (Addr.add _ _).block ≠ _; rw [add_block]; exact hn222_2) | exact hn222_2) (.int .i64 ((rd_T86 l0_0 x10_1).f2))).trans hx222_0
                          (try have hy222_0 := fun (n_ : Nat) => (show (((((w15.drewN n_).setCell ⟨gb218, 0, none⟩ (.int .i64 ((rd_T86 l0_0 x10_1).f0))).setCell ⟨gb218, 1, none⟩ (.int .i64 ((rd_T86 l0_0 x10_1).f1))).setCell ⟨gb218, 2, none⟩ (.int .i64 ((rd_T86 l0_0 x10_1).f2)))).cell? _ = some _ from hx222_0))
                          clear hn222_0
                          clear hn222_1
                          clear hn222_2
                          replace p222 := eq_true p222
                          replace q222 := eq_true q222
                          have bA222 := eq_true (arr_lt2 40 HO_9.out (of_eq_true q222) rfl)
                          have hA222 := hx222_0
                          simp only [add_plain] at hA222
                          clear hx222_0
                          go_wp2
                          repeat (go_quiet (fail); try go_wp2)
                          go_meet
                          case rel => exact ⟨_, (x8_1), (x9_1), (rd x9_1 ((rd_T86 l0_0 x10_1).f1)), (wrap64 (x10_1 + 1)), lF, lF, H', ⟨by have := HK1.out; first | omega | exact Nat.le_refl _⟩, ⟨by (with_reducible repeat (first | apply Kd.R_alloc | apply Kd.R_drewN | apply Kd.R_drew)); exact Kd.R_mono (Kd.R_far (p := ⟨gb218, 2, none⟩) (Kd.R_far (p := ⟨gb218, 1, none⟩) (Kd.R_far (p := ⟨gb218, 0, none⟩) (Kd.R_types HO_8.out BK218.out (by decide)) (fun _ hk => hk.2) (.int .i64 ((rd_T86 l0_0 x10_1).f0))) (fun _ hk => hk.2) (.int .i64 ((rd_T86 l0_0 x10_1).f1))) (fun _ hk => hk.2) (.int .i64 ((rd_T86 l0_0 x10_1).f2))) (fun _ hk => hk.1)⟩, ⟨by (with_reducible repeat (first | apply Kd.R_alloc | apply Kd.R_drewN | apply Kd.R_drew)); exact Kd.R_mono (Kd.R_far (p := ⟨gb218, 2, none⟩) (Kd.R_far (p := ⟨gb218, 1, none⟩) (Kd.R_far (p := ⟨gb218, 0, none⟩) (Kd.R_types HO_9.out BK218.out (by decide)) (fun _ hk => hk.2) (.int .i64 ((rd_T86 l0_0 x10_1).f0))) (fun _ hk => hk.2) (.int .i64 ((rd_T86 l0_0 x10_1).f1))) (fun _ hk => hk.2) (.int .i64 ((rd_T86 l0_0 x10_1).f2))) (fun _ hk => hk.1)⟩, ⟨lJ BK210.out⟩, ⟨by (with_reducible repeat first | apply bN | apply bD | apply bA); refine blk_put (cs := #[.int .i64 ((rd_T86 l0_0 x10_1).f0), .int .i64 ((rd_T86 l0_0 x10_1).f1), .int .i64 0]) ?_ 2 _ rfl; (with_reducible repeat first | apply bN | apply bD | apply bA); refine blk_put (cs := #[.int .i64 ((rd_T86 l0_0 x10_1).f0), .int .i64 0, .int .i64 0]) ?_ 1 _ rfl; (with_reducible repeat first | apply bN | apply bD | apply bA); refine blk_put (cs := #[.int .i64 0, .int .i64 0, .int .i64 0]) ?_ 0 _ rfl; (with_reducible repeat first | apply bN | apply bD | apply bA); exact BK218.out⟩, ⟨lB⟩⟩
                        · rw [if_neg c34] at H
                          exact absurd H (by simp)
                      · rw [if_neg c33] at H
                        exact absurd H (by simp)
                    · rw [if_neg c32] at H
                      have c32b0 : (((rd_T86 l0_0 x10_1).f0) == 3) = false := beq_eq_false_iff_ne.mpr c32
                      have c32b1 : (((rd_T86 l0_0 x10_1).f0) != 3) = true := bne_iff_ne.mpr c32
                      by_cases c38 : ((rd_T86 l0_0 x10_1).f0) = 4
                      · rw [if_pos c38] at H
                        have c38b0 : (((rd_T86 l0_0 x10_1).f0) == 4) = true := beq_iff_eq.mpr c38
                        have c38b1 : (((rd_T86 l0_0 x10_1).f0) != 4) = false := bne_eq_false_iff_eq.mpr c38
                        clear c38
                        have H' := Aside0.mk H
                        clear H
                        have hnb39 := NB218_210.out
                        have hnc39 := NB210_218.out
                        obtain ⟨hcz40_0, hfz40_0, hcz40_1, hfz40_1, hcz40_2, hfz40_2⟩ := bk3 BK218.out
                        go_wp2
                        repeat (go_quiet (fail); try go_wp2)
                        go_meet
                        case rel => exact ⟨_, (x8_1), (x9_1), (0), ((rd_T86 l0_0 x10_1).f2), lF, lF, H', ⟨by have := HK1.out; first | omega | exact Nat.le_refl _⟩, ⟨by (with_reducible repeat (first | apply Kd.R_alloc | apply Kd.R_drewN | apply Kd.R_drew)); exact Kd.R_mono (Kd.R_far (p := ⟨gb218, 2, none⟩) (Kd.R_far (p := ⟨gb218, 1, none⟩) (Kd.R_far (p := ⟨gb218, 0, none⟩) (Kd.R_types HO_8.out BK218.out (by decide)) (fun _ hk => hk.2) (.int .i64 ((rd_T86 l0_0 x10_1).f0))) (fun _ hk => hk.2) (.int .i64 ((rd_T86 l0_0 x10_1).f1))) (fun _ hk => hk.2) (.int .i64 ((rd_T86 l0_0 x10_1).f2))) (fun _ hk => hk.1)⟩, ⟨by (with_reducible repeat (first | apply Kd.R_alloc | apply Kd.R_drewN | apply Kd.R_drew)); exact Kd.R_mono (Kd.R_far (p := ⟨gb218, 2, none⟩) (Kd.R_far (p := ⟨gb218, 1, none⟩) (Kd.R_far (p := ⟨gb218, 0, none⟩) (Kd.R_types HO_9.out BK218.out (by decide)) (fun _ hk => hk.2) (.int .i64 ((rd_T86 l0_0 x10_1).f0))) (fun _ hk => hk.2) (.int .i64 ((rd_T86 l0_0 x10_1).f1))) (fun _ hk => hk.2) (.int .i64 ((rd_T86 l0_0 x10_1).f2))) (fun _ hk => hk.1)⟩, ⟨lJ BK210.out⟩, ⟨by (with_reducible repeat first | apply bN | apply bD | apply bA); refine blk_put (cs := #[.int .i64 ((rd_T86 l0_0 x10_1).f0), .int .i64 ((rd_T86 l0_0 x10_1).f1), .int .i64 0]) ?_ 2 _ rfl; (with_reducible repeat first | apply bN | apply bD | apply bA); refine blk_put (cs := #[.int .i64 ((rd_T86 l0_0 x10_1).f0), .int .i64 0, .int .i64 0]) ?_ 1 _ rfl; (with_reducible repeat first | apply bN | apply bD | apply bA); refine blk_put (cs := #[.int .i64 0, .int .i64 0, .int .i64 0]) ?_ 0 _ rfl; (with_reducible repeat first | apply bN | apply bD | apply bA); exact BK218.out⟩, ⟨lB⟩⟩
                      · rw [if_neg c38] at H
                        have c38b0 : (((rd_T86 l0_0 x10_1).f0) == 4) = false := beq_eq_false_iff_ne.mpr c38
                        have c38b1 : (((rd_T86 l0_0 x10_1).f0) != 4) = true := bne_iff_ne.mpr c38
                        by_cases c41 : ((rd_T86 l0_0 x10_1).f0) = 5
                        · rw [if_pos c41] at H
                          have c41b0 : (((rd_T86 l0_0 x10_1).f0) == 5) = true := beq_iff_eq.mpr c41
                          have c41b1 : (((rd_T86 l0_0 x10_1).f0) != 5) = false := bne_eq_false_iff_eq.mpr c41
                          clear c41
                          by_cases c42 : 0 ≤ ((rd_T86 l0_0 x10_1).f1)
                          · rw [if_pos c42] at H
                            have c42b0 : decide (0 ≤ ((rd_T86 l0_0 x10_1).f1)) = true := decide_eq_true c42
                            clear c42
                            by_cases c43 : ((rd_T86 l0_0 x10_1).f1) < (x9_1.length : Int)
                            · rw [if_pos c43] at H
                              have c43b0 : decide (((rd_T86 l0_0 x10_1).f1) < (x9_1.length : Int)) = true := decide_eq_true c43
                              clear c43
                              obtain ⟨y223, hy223⟩ : ∃ y_ : List Int, y_ = (x9_1.set (((rd_T86 l0_0 x10_1).f1) : Int).toNat 0) := ⟨_, rfl⟩
                              replace H : (impl_runLined.j1 k1 a1 x8_1 y223 x10_1 (wrap64 (x11_1 + 1)) 0 (wrap64 (x10_1 + 1)) l0_0 l0_1) = some (r1, r2, r3, r4) := by first | (rw [hy223]; with_reducible exact H) | (have H2_ := (Option.bind_some _ _).symm.trans H; rw [hy223]; with_reducible exact H2_) | (have H2_ := (Option.bind_some _ _).symm.trans H; with_reducible exact H2_) | with_reducible exact H | (rw [hy223]; exact H) | exact H
                              have Ny223 := Aside0.mk hy223
                              clear hy223
                              have H' := Aside0.mk H
                              clear H
                              have hnb45 := NB218_210.out
                              have hnc45 := NB210_218.out
                              obtain ⟨hcz46_0, hfz46_0, hcz46_1, hfz46_1, hcz46_2, hfz46_2⟩ := bk3 BK218.out
                              have p44 : 0 ≤ (((rd_T86 l0_0 x10_1).f1) : Int) := lD
                              have q44 : (((rd_T86 l0_0 x10_1).f1) : Int) < ((x9_1.length : Int) : Int) := lD
                              obtain ⟨gb44, HG44⟩ := arr_form HO_9.out (by omega)
                              have GB44 := Aside0.mk gb44
                              have GG44 := Aside0.mk HG44
                              clear gb44 HG44
                              obtain ⟨hx44_0, hf44_0⟩ := Kd.R_celln 0 (Kd.R_far (p := ⟨gb218, 2, none⟩) (Kd.R_far (p := ⟨gb218, 1, none⟩) (Kd.R_far (p := ⟨gb218, 0, none⟩) (Kd.R_types HO_9.out BK218.out (by decide)) (fun _ hk => hk.2) (.int .i64 ((rd_T86 l0_0 x10_1).f0))) (fun _ hk => hk.2) (.int .i64 ((rd_T86 l0_0 x10_1).f1))) (fun _ hk => hk.2) (.int .i64 ((rd_T86 l0_0 x10_1).f2))) (((rd_T86 l0_0 x10_1).f1) : Int) p44 (arr_lt HO_9.out q44)
                              replace p44 := eq_true p44
                              replace q44 := eq_true q44
                              have bA44 := eq_true (arr_lt2 40 HO_9.out (of_eq_true q44) rfl)
                              go_wp2_with (first | ((with_reducible refine gate_store (t := 3) (p := 65) rfl ?_); have n0_ : Aside0 (Kd.R (Kd.int .i64) 3 (((w15.setCell ⟨gb218, 0, none⟩ (.int .i64 ((rd_T86 l0_0 x10_1).f0))).setCell ⟨gb218, 1, none⟩ (.int .i64 ((rd_T86 l0_0 x10_1).f1))).setCell ⟨gb218, 2, none⟩ (.int .i64 ((rd_T86 l0_0 x10_1).f2))) w.heap.size (fun k_ => some k_ ≠ (.slice (some ⟨gA9, 0, none⟩) 40 40 : Value).ownBlock) u8 x8_1) := ⟨by (with_reducible repeat (first | apply Kd.R_alloc | apply Kd.R_drewN | apply Kd.R_drew)); exact Kd.R_mono (Kd.R_far (p := ⟨gb218, 2, none⟩) (Kd.R_far (p := ⟨gb218, 1, none⟩) (Kd.R_far (p := ⟨gb218, 0, none⟩) (Kd.R_types HO_8.out BK218.out (by decide)) (fun _ hk => hk.2) (.int .i64 ((rd_T86 l0_0 x10_1).f0))) (fun _ hk => hk.2) (.int .i64 ((rd_T86 l0_0 x10_1).f1))) (fun _ hk => hk.2) (.int .i64 ((rd_T86 l0_0 x10_1).f2))) (fun _ hk => hk.1)⟩; have n1_ : Aside0 (Kd.R (Kd.int .i64) 136 (((w15.setCell ⟨gb218, 0, none⟩ (.int .i64 ((rd_T86 l0_0 x10_1).f0))).setCell ⟨gb218, 1, none⟩ (.int .i64 ((rd_T86 l0_0 x10_1).f1))).setCell ⟨gb218, 2, none⟩ (.int .i64 ((rd_T86 l0_0 x10_1).f2))) w.heap.size (fun k_ => some k_ ≠ (u8 : Value).ownBlock) (.slice (some ⟨gA9, 0, none⟩) 40 40) x9_1) := ⟨by (with_reducible repeat (first | apply Kd.R_alloc | apply Kd.R_drewN | apply Kd.R_drew)); exact Kd.R_mono (Kd.R_far (p := ⟨gb218, 2, none⟩) (Kd.R_far (p := ⟨gb218, 1, none⟩) (Kd.R_far (p := ⟨gb218, 0, none⟩) (Kd.R_types HO_9.out BK218.out (by decide)) (fun _ hk => hk.2) (.int .i64 ((rd_T86 l0_0 x10_1).f0))) (fun _ hk => hk.2) (.int .i64 ((rd_T86 l0_0 x10_1).f1))) (fun _ hk => hk.2) (.int .i64 ((rd_T86 l0_0 x10_1).f2))) (fun _ hk => hk.1)⟩; have n2_ : Aside0 ((((w15.setCell ⟨gb218, 0, none⟩ (.int .i64 ((rd_T86 l0_0 x10_1).f0))).setCell ⟨gb218, 1, none⟩ (.int .i64 ((rd_T86 l0_0 x10_1).f1))).setCell ⟨gb218, 2, none⟩ (.int .i64 ((rd_T86 l0_0 x10_1).f2))).heap[gb210]? = some (.cells #[.slice (some ad217) l0_0.length c0_0, .slice A0_1 l0_1.length c0_1] 38 (0, 0))) := ⟨lJ BK210.out⟩; have n3_ : Aside0 ((((w15.setCell ⟨gb218, 0, none⟩ (.int .i64 ((rd_T86 l0_0 x10_1).f0))).setCell ⟨gb218, 1, none⟩ (.int .i64 ((rd_T86 l0_0 x10_1).f1))).setCell ⟨gb218, 2, none⟩ (.int .i64 ((rd_T86 l0_0 x10_1).f2))).heap[gb218]? = some (.cells #[.int .i64 ((rd_T86 l0_0 x10_1).f0), .int .i64 ((rd_T86 l0_0 x10_1).f1), .int .i64 ((rd_T86 l0_0 x10_1).f2)] 86 (0, 0))) := ⟨by (with_reducible repeat first | apply bN | apply bD | apply bA); refine blk_put (cs := #[.int .i64 ((rd_T86 l0_0 x10_1).f0), .int .i64 ((rd_T86 l0_0 x10_1).f1), .int .i64 0]) ?_ 2 _ rfl; (with_reducible repeat first | apply bN | apply bD | apply bA); refine blk_put (cs := #[.int .i64 ((rd_T86 l0_0 x10_1).f0), .int .i64 0, .int .i64 0]) ?_ 1 _ rfl; (with_reducible repeat first | apply bN | apply bD | apply bA); refine blk_put (cs := #[.int .i64 0, .int .i64 0, .int .i64 0]) ?_ 0 _ rfl; (with_reducible repeat first | apply bN | apply bD | apply bA); exact BK218.out⟩; have n4_ : Aside0 (Below w.heap.size w (((w15.setCell ⟨gb218, 0, none⟩ (.int .i64 ((rd_T86 l0_0 x10_1).f0))).setCell ⟨gb218, 1, none⟩ (.int .i64 ((rd_T86 l0_0 x10_1).f1))).setCell ⟨gb218, 2, none⟩ (.int .i64 ((rd_T86 l0_0 x10_1).f2)))) := ⟨lB⟩; (try clear HO_8); (try clear HO_9); (try clear BK210); (try clear BK218); (try clear HB); generalize (((w15.setCell ⟨gb218, 0, none⟩ (.int .i64 ((rd_T86 l0_0 x10_1).f0))).setCell ⟨gb218, 1, none⟩ (.int .i64 ((rd_T86 l0_0 x10_1).f1))).setCell ⟨gb218, 2, none⟩ (.int .i64 ((rd_T86 l0_0 x10_1).f2))) = w49 at n0_ n1_ n2_ n3_ n4_ ⊢; have HO_8 := n0_; have HO_9 := n1_; have BK210 := n2_; have BK218 := n3_; have HB := n4_; clear n0_ n1_ n2_ n3_ n4_; (try (rw [drewN_self w49]; generalize hq_ : World.drewN w49 _ = w49; have n0_ := Aside0.mk (Kd.R_at hq_ HO_8.out); have n1_ := Aside0.mk (Kd.R_at hq_ HO_9.out); have n2_ := Aside0.mk (blk_at hq_ BK210.out); have n3_ := Aside0.mk (blk_at hq_ BK218.out); have n4_ := Aside0.mk (below_at hq_ HB.out); clear hq_ HO_8 HO_9 BK210 BK218 HB; have HO_8 := n0_; have HO_9 := n1_; have BK210 := n2_; have BK218 := n3_; have HB := n4_; clear n0_ n1_ n2_ n3_ n4_)); obtain ⟨hy47_, hz47_⟩ := Kd.R_celln 0 HO_9.out (((rd_T86 l0_0 x10_1).f1) : Int) (lD) (arr_lt HO_9.out (lD)); have HP47 := Kd.R_putg HO_9.out (((rd_T86 l0_0 x10_1).f1) : Int) 0; refine store_event (t := 3) (p := 65) (v := ?vo_w48) (w1 := (w49.setCell ⟨gA9, (((rd_T86 l0_0 x10_1).f1) : Int).toNat, none⟩ (.int .i64 0))) ?hg ?ho ?hn ?hr ?_; (case ho => rfl); (case hg => rfl); (case hn => rfl); (case hr => first | (go_simp; done) | (go_simp; rfl)); intro w48 hw; have hg : w49.grownBy w48 (some gA9) := (by rw [hw]; exact HP47.2); have hp_ : Kd.R (Kd.int .i64) 136 w48 w.heap.size (fun k_ => some k_ ≠ (u8 : Value).ownBlock) (.slice (some ⟨gA9, 0, none⟩) 40 40) y223 := (by rw [hw, Ny223.out]; exact HP47.1); clear HP47; have n0_ := Aside0.mk (Kd.R_after (v := (.slice (some ⟨gA9, 0, none⟩) 40 40)) (v1 := (.slice (some ⟨gA9, 0, none⟩) 40 40)) (ok := (fun _ => True)) (by (with_reducible repeat (first | apply Kd.R_alloc | apply Kd.R_drewN | apply Kd.R_drew)); exact Kd.R_mono HO_8.out (fun _ hk => ⟨trivial, hk⟩)) hg (.inl rfl)); have n1_ := Aside0.mk (hp_); have n2_ := Aside0.mk (blk_grown (lK BK210.out) hg (Kd.R_ne HO_9.out BK210.out (by decide))); have n3_ := Aside0.mk (blk_grown (lK BK218.out) hg (Kd.R_ne HO_9.out BK218.out (by decide))); have n4_ := Aside0.mk ((by rw [hw]; exact below_set (HB.out) GB44.out : Below w.heap.size w w48)); clear HO_8; clear HO_9; clear BK210; clear BK218; clear HB; have HO_8 := n0_; have HO_9 := n1_; have BK210 := n2_; have BK218 := n3_; have HB := n4_; clear n0_ n1_ n2_ n3_ n4_; clear hg hw hp_))
                              repeat (go_quiet (fail); try go_wp2_with (first | ((with_reducible refine gate_store (t := 3) (p := 65) rfl ?_); have n0_ : Aside0 (Kd.R (Kd.int .i64) 3 (((w15.setCell ⟨gb218, 0, none⟩ (.int .i64 ((rd_T86 l0_0 x10_1).f0))).setCell ⟨gb218, 1, none⟩ (.int .i64 ((rd_T86 l0_0 x10_1).f1))).setCell ⟨gb218, 2, none⟩ (.int .i64 ((rd_T86 l0_0 x10_1).f2))) w.heap.size (fun k_ => some k_ ≠ (.slice (some ⟨gA9, 0, none⟩) 40 40 : Value).ownBlock) u8 x8_1) := ⟨by (with_reducible repeat (first | apply Kd.R_alloc | apply Kd.R_drewN | apply Kd.R_drew)); exact Kd.R_mono (Kd.R_far (p := ⟨gb218, 2, none⟩) (Kd.R_far (p := ⟨gb218, 1, none⟩) (Kd.R_far (p := ⟨gb218, 0, none⟩) (Kd.R_types HO_8.out BK218.out (by decide)) (fun _ hk => hk.2) (.int .i64 ((rd_T86 l0_0 x10_1).f0))) (fun _ hk => hk.2) (.int .i64 ((rd_T86 l0_0 x10_1).f1))) (fun _ hk => hk.2) (.int .i64 ((rd_T86 l0_0 x10_1).f2))) (fun _ hk => hk.1)⟩; have n1_ : Aside0 (Kd.R (Kd.int .i64) 136 (((w15.setCell ⟨gb218, 0, none⟩ (.int .i64 ((rd_T86 l0_0 x10_1).f0))).setCell ⟨gb218, 1, none⟩ (.int .i64 ((rd_T86 l0_0 x10_1).f1))).setCell ⟨gb218, 2, none⟩ (.int .i64 ((rd_T86 l0_0 x10_1).f2))) w.heap.size (fun k_ => some k_ ≠ (u8 : Value).ownBlock) (.slice (some ⟨gA9, 0, none⟩) 40 40) x9_1) := ⟨by (with_reducible repeat (first | apply Kd.R_alloc | apply Kd.R_drewN | apply Kd.R_drew)); exact Kd.R_mono (Kd.R_far (p := ⟨gb218, 2, none⟩) (Kd.R_far (p := ⟨gb218, 1, none⟩) (Kd.R_far (p := ⟨gb218, 0, none⟩) (Kd.R_types HO_9.out BK218.out (by decide)) (fun _ hk => hk.2) (.int .i64 ((rd_T86 l0_0 x10_1).f0))) (fun _ hk => hk.2) (.int .i64 ((rd_T86 l0_0 x10_1).f1))) (fun _ hk => hk.2) (.int .i64 ((rd_T86 l0_0 x10_1).f2))) (fun _ hk => hk.1)⟩; have n2_ : Aside0 ((((w15.setCell ⟨gb218, 0, none⟩ (.int .i64 ((rd_T86 l0_0 x10_1).f0))).setCell ⟨gb218, 1, none⟩ (.int .i64 ((rd_T86 l0_0 x10_1).f1))).setCell ⟨gb218, 2, none⟩ (.int .i64 ((rd_T86 l0_0 x10_1).f2))).heap[gb210]? = some (.cells #[.slice (some ad217) l0_0.length c0_0, .slice A0_1 l0_1.length c0_1] 38 (0, 0))) := ⟨lJ BK210.out⟩; have n3_ : Aside0 ((((w15.setCell ⟨gb218, 0, none⟩ (.int .i64 ((rd_T86 l0_0 x10_1).f0))).setCell ⟨gb218, 1, none⟩ (.int .i64 ((rd_T86 l0_0 x10_1).f1))).setCell ⟨gb218, 2, none⟩ (.int .i64 ((rd_T86 l0_0 x10_1).f2))).heap[gb218]? = some (.cells #[.int .i64 ((rd_T86 l0_0 x10_1).f0), .int .i64 ((rd_T86 l0_0 x10_1).f1), .int .i64 ((rd_T86 l0_0 x10_1).f2)] 86 (0, 0))) := ⟨by (with_reducible repeat first | apply bN | apply bD | apply bA); refine blk_put (cs := #[.int .i64 ((rd_T86 l0_0 x10_1).f0), .int .i64 ((rd_T86 l0_0 x10_1).f1), .int .i64 0]) ?_ 2 _ rfl; (with_reducible repeat first | apply bN | apply bD | apply bA); refine blk_put (cs := #[.int .i64 ((rd_T86 l0_0 x10_1).f0), .int .i64 0, .int .i64 0]) ?_ 1 _ rfl; (with_reducible repeat first | apply bN | apply bD | apply bA); refine blk_put (cs := #[.int .i64 0, .int .i64 0, .int .i64 0]) ?_ 0 _ rfl; (with_reducible repeat first | apply bN | apply bD | apply bA); exact BK218.out⟩; have n4_ : Aside0 (Below w.heap.size w (((w15.setCell ⟨gb218, 0, none⟩ (.int .i64 ((rd_T86 l0_0 x10_1).f0))).setCell ⟨gb218, 1, none⟩ (.int .i64 ((rd_T86 l0_0 x10_1).f1))).setCell ⟨gb218, 2, none⟩ (.int .i64 ((rd_T86 l0_0 x10_1).f2)))) := ⟨lB⟩; (try clear HO_8); (try clear HO_9); (try clear BK210); (try clear BK218); (try clear HB); generalize (((w15.setCell ⟨gb218, 0, none⟩ (.int .i64 ((rd_T86 l0_0 x10_1).f0))).setCell ⟨gb218, 1, none⟩ (.int .i64 ((rd_T86 l0_0 x10_1).f1))).setCell ⟨gb218, 2, none⟩ (.int .i64 ((rd_T86 l0_0 x10_1).f2))) = w49 at n0_ n1_ n2_ n3_ n4_ ⊢; have HO_8 := n0_; have HO_9 := n1_; have BK210 := n2_; have BK218 := n3_; have HB := n4_; clear n0_ n1_ n2_ n3_ n4_; (try (rw [drewN_self w49]; generalize hq_ : World.drewN w49 _ = w49; have n0_ := Aside0.mk (Kd.R_at hq_ HO_8.out); have n1_ := Aside0.mk (Kd.R_at hq_ HO_9.out); have n2_ := Aside0.mk (blk_at hq_ BK210.out); have n3_ := Aside0.mk (blk_at hq_ BK218.out); have n4_ := Aside0.mk (below_at hq_ HB.out); clear hq_ HO_8 HO_9 BK210 BK218 HB; have HO_8 := n0_; have HO_9 := n1_; have BK210 := n2_; have BK218 := n3_; have HB := n4_; clear n0_ n1_ n2_ n3_ n4_)); obtain ⟨hy47_, hz47_⟩ := Kd.R_celln 0 HO_9.out (((rd_T86 l0_0 x10_1).f1) : Int) (lD) (arr_lt HO_9.out (lD)); have HP47 := Kd.R_putg HO_9.out (((rd_T86 l0_0 x10_1).f1) : Int) 0; refine store_event (t := 3) (p := 65) (v := ?vo_w48) (w1 := (w49.setCell ⟨gA9, (((rd_T86 l0_0 x10_1).f1) : Int).toNat, none⟩ (.int .i64 0))) ?hg ?ho ?hn ?hr ?_; (case ho => rfl); (case hg => rfl); (case hn => rfl); (case hr => first | (go_simp; done) | (go_simp; rfl)); intro w48 hw; have hg : w49.grownBy w48 (some gA9) := (by rw [hw]; exact HP47.2); have hp_ : Kd.R (Kd.int .i64) 136 w48 w.heap.size (fun k_ => some k_ ≠ (u8 : Value).ownBlock) (.slice (some ⟨gA9, 0, none⟩) 40 40) y223 := (by rw [hw, Ny223.out]; exact HP47.1); clear HP47; have n0_ := Aside0.mk (Kd.R_after (v := (.slice (some ⟨gA9, 0, none⟩) 40 40)) (v1 := (.slice (some ⟨gA9, 0, none⟩) 40 40)) (ok := (fun _ => True)) (by (with_reducible repeat (first | apply Kd.R_alloc | apply Kd.R_drewN | apply Kd.R_drew)); exact Kd.R_mono HO_8.out (fun _ hk => ⟨trivial, hk⟩)) hg (.inl rfl)); have n1_ := Aside0.mk (hp_); have n2_ := Aside0.mk (blk_grown (lK BK210.out) hg (Kd.R_ne HO_9.out BK210.out (by decide))); have n3_ := Aside0.mk (blk_grown (lK BK218.out) hg (Kd.R_ne HO_9.out BK218.out (by decide))); have n4_ := Aside0.mk ((by rw [hw]; exact below_set (HB.out) GB44.out : Below w.heap.size w w48)); clear HO_8; clear HO_9; clear BK210; clear BK218; clear HB; have HO_8 := n0_; have HO_9 := n1_; have BK210 := n2_; have BK218 := n3_; have HB := n4_; clear n0_ n1_ n2_ n3_ n4_; clear hg hw hp_)))
                              go_meet
                              case rel => exact ⟨_, (x8_1), (y223), (0), (wrap64 (x10_1 + 1)), lF, lF, H', ⟨by have := HK1.out; first | omega | exact Nat.le_refl _⟩, ⟨by (with_reducible repeat (first | apply Kd.R_alloc | apply Kd.R_drewN | apply Kd.R_drew)); exact Kd.R_mono HO_8.out (fun _ hk => hk.2)⟩, ⟨lR HO_9.out⟩, ⟨lK BK210.out⟩, ⟨lK BK218.out⟩, ⟨lB⟩⟩
                            · rw [if_neg c43] at H
                              exact absurd H (by simp)
                          · rw [if_neg c42] at H
                            exact absurd H (by simp)
                        · rw [if_neg c41] at H
                          have c41b0 : (((rd_T86 l0_0 x10_1).f0) == 5) = false := beq_eq_false_iff_ne.mpr c41
                          have c41b1 : (((rd_T86 l0_0 x10_1).f0) != 5) = true := bne_iff_ne.mpr c41
                          by_cases c50 : ((rd_T86 l0_0 x10_1).f0) = 6
                          · rw [if_pos c50] at H
                            have c50b0 : (((rd_T86 l0_0 x10_1).f0) == 6) = true := beq_iff_eq.mpr c50
                            have c50b1 : (((rd_T86 l0_0 x10_1).f0) != 6) = false := bne_eq_false_iff_eq.mpr c50
                            clear c50
                            by_cases c51 : 0 ≤ ((rd_T86 l0_0 x10_1).f1)
                            · rw [if_pos c51] at H
                              have c51b0 : decide (0 ≤ ((rd_T86 l0_0 x10_1).f1)) = true := decide_eq_true c51
                              clear c51
                              by_cases c52 : ((rd_T86 l0_0 x10_1).f1) < (x9_1.length : Int)
                              · rw [if_pos c52] at H
                                have c52b0 : decide (((rd_T86 l0_0 x10_1).f1) < (x9_1.length : Int)) = true := decide_eq_true c52
                                clear c52
                                by_cases c53 : (rd x9_1 ((rd_T86 l0_0 x10_1).f1)) = ((rd_T86 l0_0 x10_1).f2)
                                · rw [if_pos c53] at H
                                  have c53b0 : ((rd x9_1 ((rd_T86 l0_0 x10_1).f1)) == ((rd_T86 l0_0 x10_1).f2)) = true := beq_iff_eq.mpr c53
                                  have c53b1 : ((rd x9_1 ((rd_T86 l0_0 x10_1).f1)) != ((rd_T86 l0_0 x10_1).f2)) = false := bne_eq_false_iff_eq.mpr c53
                                  clear c53
                                  have H' := Aside0.mk H
                                  clear H
                                  have hnb54 := NB218_210.out
                                  have hnc54 := NB210_218.out
                                  obtain ⟨hcz55_0, hfz55_0, hcz55_1, hfz55_1, hcz55_2, hfz55_2⟩ := bk3 BK218.out
                                  have p224 : 0 ≤ (((rd_T86 l0_0 x10_1).f1) : Int) := lD
                                  have q224 : ((rd_T86 l0_0 x10_1).f1) < (x9_1.length : Int) := lD
                                  obtain ⟨ad224, e224, hx224_0⟩ := Kd.at_int (Kd.R_reads' HO_9.out).2.2 ((rd_T86 l0_0 x10_1).f1) p224 q224
                                  cases e224
                                  have hn224_0 : (⟨gA9, 0, none⟩ : Addr).block ≠ gb218 := Kd.own_blk (Kd.R_ne HO_9.out BK218.out (by decide))
                                  have hn224_1 : (⟨gA9, 0, none⟩ : Addr).block ≠ gb218 := Kd.own_blk (Kd.R_ne HO_9.out BK218.out (by decide))
                                  have hn224_2 : (⟨gA9, 0, none⟩ : Addr).block ≠ gb218 := Kd.own_blk (Kd.R_ne HO_9.out BK218.out (by decide))
                                  replace hx224_0 := (cell_far (p := ⟨gb218, 0, none⟩) (by first | (rw [add_block]; exact hn224_0) | (show (Addr.add _ _).block ≠ _; rw [add_block]; exact hn224_0) | exact hn224_0) (.int .i64 ((rd_T86 l0_0 x10_1).f0))).trans hx224_0
                                  replace hx224_0 := (cell_far (p := ⟨gb218, 1, none⟩) (by first | (rw [add_block]; exact hn224_1) | (show (Addr.add _ _).block ≠ _; rw [add_block]; exact hn224_1) | exact hn224_1) (.int .i64 ((rd_T86 l0_0 x10_1).f1))).trans hx224_0
                                  replace hx224_0 := (cell_far (p := ⟨gb218, 2, none⟩) (by first | (rw [add_block]; exact hn224_2) | (show (Addr.add _ _).block ≠ _; rw [add_block]; exact hn224_2) | exact hn224_2) (.int .i64 ((rd_T86 l0_0 x10_1).f2))).trans hx224_0
                                  (try have hy224_0 := fun (n_ : Nat) => (show (((((w15.drewN n_).setCell ⟨gb218, 0, none⟩ (.int .i64 ((rd_T86 l0_0 x10_1).f0))).setCell ⟨gb218, 1, none⟩ (.int .i64 ((rd_T86 l0_0 x10_1).f1))).setCell ⟨gb218, 2, none⟩ (.int .i64 ((rd_T86 l0_0 x10_1).f2)))).cell? _ = some _ from hx224_0))
                                  clear hn224_0
                                  clear hn224_1
                                  clear hn224_2
                                  replace p224 := eq_true p224
                                  replace q224 := eq_true q224
                                  have bA224 := eq_true (arr_lt2 40 HO_9.out (of_eq_true q224) rfl)
                                  have hA224 := hx224_0
                                  simp only [add_plain] at hA224
                                  clear hx224_0
                                  go_wp2
                                  repeat (go_quiet (fail); try go_wp2)
                                  go_meet
                                  case rel => exact ⟨_, (x8_1), (x9_1), (0), (wrap64 (x10_1 + 1)), lF, lF, H', ⟨by have := HK1.out; first | omega | exact Nat.le_refl _⟩, ⟨by (with_reducible repeat (first | apply Kd.R_alloc | apply Kd.R_drewN | apply Kd.R_drew)); exact Kd.R_mono (Kd.R_far (p := ⟨gb218, 2, none⟩) (Kd.R_far (p := ⟨gb218, 1, none⟩) (Kd.R_far (p := ⟨gb218, 0, none⟩) (Kd.R_types HO_8.out BK218.out (by decide)) (fun _ hk => hk.2) (.int .i64 ((rd_T86 l0_0 x10_1).f0))) (fun _ hk => hk.2) (.int .i64 ((rd_T86 l0_0 x10_1).f1))) (fun _ hk => hk.2) (.int .i64 ((rd_T86 l0_0 x10_1).f2))) (fun _ hk => hk.1)⟩, ⟨by (with_reducible repeat (first | apply Kd.R_alloc | apply Kd.R_drewN | apply Kd.R_drew)); exact Kd.R_mono (Kd.R_far (p := ⟨gb218, 2, none⟩) (Kd.R_far (p := ⟨gb218, 1, none⟩) (Kd.R_far (p := ⟨gb218, 0, none⟩) (Kd.R_types HO_9.out BK218.out (by decide)) (fun _ hk => hk.2) (.int .i64 ((rd_T86 l0_0 x10_1).f0))) (fun _ hk => hk.2) (.int .i64 ((rd_T86 l0_0 x10_1).f1))) (fun _ hk => hk.2) (.int .i64 ((rd_T86 l0_0 x10_1).f2))) (fun _ hk => hk.1)⟩, ⟨lJ BK210.out⟩, ⟨by (with_reducible repeat first | apply bN | apply bD | apply bA); refine blk_put (cs := #[.int .i64 ((rd_T86 l0_0 x10_1).f0), .int .i64 ((rd_T86 l0_0 x10_1).f1), .int .i64 0]) ?_ 2 _ rfl; (with_reducible repeat first | apply bN | apply bD | apply bA); refine blk_put (cs := #[.int .i64 ((rd_T86 l0_0 x10_1).f0), .int .i64 0, .int .i64 0]) ?_ 1 _ rfl; (with_reducible repeat first | apply bN | apply bD | apply bA); refine blk_put (cs := #[.int .i64 0, .int .i64 0, .int .i64 0]) ?_ 0 _ rfl; (with_reducible repeat first | apply bN | apply bD | apply bA); exact BK218.out⟩, ⟨lB⟩⟩
                                · rw [if_neg c53] at H
                                  have c53b0 : ((rd x9_1 ((rd_T86 l0_0 x10_1).f1)) == ((rd_T86 l0_0 x10_1).f2)) = false := beq_eq_false_iff_ne.mpr c53
                                  have c53b1 : ((rd x9_1 ((rd_T86 l0_0 x10_1).f1)) != ((rd_T86 l0_0 x10_1).f2)) = true := bne_iff_ne.mpr c53
                                  obtain ⟨y226, hy226⟩ : ∃ y_ : List Int, y_ = (x9_1.set (((rd_T86 l0_0 x10_1).f1) : Int).toNat (wrap64 ((rd x9_1 ((rd_T86 l0_0 x10_1).f1)) + 1))) := ⟨_, rfl⟩
                                  replace H : (impl_runLined.j1 k1 a1 x8_1 y226 x10_1 (wrap64 (x11_1 + 1)) 0 (wrap64 ((wrap64 (x10_1 + 1)) + 1)) l0_0 l0_1) = some (r1, r2, r3, r4) := by first | (rw [hy226]; with_reducible exact H) | (have H2_ := (Option.bind_some _ _).symm.trans H; rw [hy226]; with_reducible exact H2_) | (have H2_ := (Option.bind_some _ _).symm.trans H; with_reducible exact H2_) | with_reducible exact H | (rw [hy226]; exact H) | exact H
                                  have Ny226 := Aside0.mk hy226
                                  clear hy226
                                  have H' := Aside0.mk H
                                  clear H
                                  have hnb58 := NB218_210.out
                                  have hnc58 := NB210_218.out
                                  obtain ⟨hcz59_0, hfz59_0, hcz59_1, hfz59_1, hcz59_2, hfz59_2⟩ := bk3 BK218.out
                                  have p224 : 0 ≤ (((rd_T86 l0_0 x10_1).f1) : Int) := lD
                                  have q224 : ((rd_T86 l0_0 x10_1).f1) < (x9_1.length : Int) := lD
                                  obtain ⟨ad224, e224, hx224_0⟩ := Kd.at_int (Kd.R_reads' HO_9.out).2.2 ((rd_T86 l0_0 x10_1).f1) p224 q224
                                  cases e224
                                  have hn224_0 : (⟨gA9, 0, none⟩ : Addr).block ≠ gb218 := Kd.own_blk (Kd.R_ne HO_9.out BK218.out (by decide))
                                  have hn224_1 : (⟨gA9, 0, none⟩ : Addr).block ≠ gb218 := Kd.own_blk (Kd.R_ne HO_9.out BK218.out (by decide))
                                  have hn224_2 : (⟨gA9, 0, none⟩ : Addr).block ≠ gb218 := Kd.own_blk (Kd.R_ne HO_9.out BK218.out (by decide))
                                  replace hx224_0 := (cell_far (p := ⟨gb218, 0, none⟩) (by first | (rw [add_block]; exact hn224_0) | (show (Addr.add _ _).block ≠ _; rw [add_block]; exact hn224_0) | exact hn224_0) (.int .i64 ((rd_T86 l0_0 x10_1).f0))).trans hx224_0
                                  replace hx224_0 := (cell_far (p := ⟨gb218, 1, none⟩) (by first | (rw [add_block]; exact hn224_1) | (show (Addr.add _ _).block ≠ _; rw [add_block]; exact hn224_1) | exact hn224_1) (.int .i64 ((rd_T86 l0_0 x10_1).f1))).trans hx224_0
                                  replace hx224_0 := (cell_far (p := ⟨gb218, 2, none⟩) (by first | (rw [add_block]; exact hn224_2) | (show (Addr.add _ _).block ≠ _; rw [add_block]; exact hn224_2) | exact hn224_2) (.int .i64 ((rd_T86 l0_0 x10_1).f2))).trans hx224_0
                                  (try have hy224_0 := fun (n_ : Nat) => (show (((((w15.drewN n_).setCell ⟨gb218, 0, none⟩ (.int .i64 ((rd_T86 l0_0 x10_1).f0))).setCell ⟨gb218, 1, none⟩ (.int .i64 ((rd_T86 l0_0 x10_1).f1))).setCell ⟨gb218, 2, none⟩ (.int .i64 ((rd_T86 l0_0 x10_1).f2)))).cell? _ = some _ from hx224_0))
                                  clear hn224_0
                                  clear hn224_1
                                  clear hn224_2
                                  replace p224 := eq_true p224
                                  replace q224 := eq_true q224
                                  have bA224 := eq_true (arr_lt2 40 HO_9.out (of_eq_true q224) rfl)
                                  have hA224 := hx224_0
                                  simp only [add_plain] at hA224
                                  clear hx224_0
                                  have p225 : 0 ≤ (((rd_T86 l0_0 x10_1).f1) : Int) := lD
                                  have q225 : ((rd_T86 l0_0 x10_1).f1) < (x9_1.length : Int) := lD
                                  obtain ⟨ad225, e225, hx225_0⟩ := Kd.at_int (Kd.R_reads' HO_9.out).2.2 ((rd_T86 l0_0 x10_1).f1) p225 q225
                                  cases e225
                                  have hn225_0 : (⟨gA9, 0, none⟩ : Addr).block ≠ gb218 := Kd.own_blk (Kd.R_ne HO_9.out BK218.out (by decide))
                                  have hn225_1 : (⟨gA9, 0, none⟩ : Addr).block ≠ gb218 := Kd.own_blk (Kd.R_ne HO_9.out BK218.out (by decide))
                                  have hn225_2 : (⟨gA9, 0, none⟩ : Addr).block ≠ gb218 := Kd.own_blk (Kd.R_ne HO_9.out BK218.out (by decide))
                                  replace hx225_0 := (cell_far (p := ⟨gb218, 0, none⟩) (by first | (rw [add_block]; exact hn225_0) | (show (Addr.add _ _).block ≠ _; rw [add_block]; exact hn225_0) | exact hn225_0) (.int .i64 ((rd_T86 l0_0 x10_1).f0))).trans hx225_0
                                  replace hx225_0 := (cell_far (p := ⟨gb218, 1, none⟩) (by first | (rw [add_block]; exact hn225_1) | (show (Addr.add _ _).block ≠ _; rw [add_block]; exact hn225_1) | exact hn225_1) (.int .i64 ((rd_T86 l0_0 x10_1).f1))).trans hx225_0
                                  replace hx225_0 := (cell_far (p := ⟨gb218, 2, none⟩) (by first | (rw [add_block]; exact hn225_2) | (show (Addr.add _ _).block ≠ _; rw [add_block]; exact hn225_2) | exact hn225_2) (.int .i64 ((rd_T86 l0_0 x10_1).f2))).trans hx225_0
                                  (try have hy225_0 := fun (n_ : Nat) => (show (((((w15.drewN n_).setCell ⟨gb218, 0, none⟩ (.int .i64 ((rd_T86 l0_0 x10_1).f0))).setCell ⟨gb218, 1, none⟩ (.int .i64 ((rd_T86 l0_0 x10_1).f1))).setCell ⟨gb218, 2, none⟩ (.int .i64 ((rd_T86 l0_0 x10_1).f2)))).cell? _ = some _ from hx225_0))
                                  clear hn225_0
                                  clear hn225_1
                                  clear hn225_2
                                  replace p225 := eq_true p225
                                  replace q225 := eq_true q225
                                  have bA225 := eq_true (arr_lt2 40 HO_9.out (of_eq_true q225) rfl)
                                  have hA225 := hx225_0
                                  simp only [add_plain] at hA225
                                  clear hx225_0
                                  have p57 : 0 ≤ (((rd_T86 l0_0 x10_1).f1) : Int) := lD
                                  have q57 : (((rd_T86 l0_0 x10_1).f1) : Int) < ((x9_1.length : Int) : Int) := lD
                                  obtain ⟨gb57, HG57⟩ := arr_form HO_9.out (by omega)
                                  have GB57 := Aside0.mk gb57
                                  have GG57 := Aside0.mk HG57
                                  clear gb57 HG57
                                  (first | simp only [add_plain] at hx224_0 | skip)
                                  (first | simp only [add_plain] at hx225_0 | skip)
                                  obtain ⟨hx57_0, hf57_0⟩ := Kd.R_celln 0 (Kd.R_far (p := ⟨gb218, 2, none⟩) (Kd.R_far (p := ⟨gb218, 1, none⟩) (Kd.R_far (p := ⟨gb218, 0, none⟩) (Kd.R_types HO_9.out BK218.out (by decide)) (fun _ hk => hk.2) (.int .i64 ((rd_T86 l0_0 x10_1).f0))) (fun _ hk => hk.2) (.int .i64 ((rd_T86 l0_0 x10_1).f1))) (fun _ hk => hk.2) (.int .i64 ((rd_T86 l0_0 x10_1).f2))) (((rd_T86 l0_0 x10_1).f1) : Int) p57 (arr_lt HO_9.out q57)
                                  replace p57 := eq_true p57
                                  replace q57 := eq_true q57
                                  have bA57 := eq_true (arr_lt2 40 HO_9.out (of_eq_true q57) rfl)
                                  go_wp2_with (first | ((with_reducible refine gate_store (t := 3) (p := 80) rfl ?_); have n0_ : Aside0 (Kd.R (Kd.int .i64) 3 (((w15.setCell ⟨gb218, 0, none⟩ (.int .i64 ((rd_T86 l0_0 x10_1).f0))).setCell ⟨gb218, 1, none⟩ (.int .i64 ((rd_T86 l0_0 x10_1).f1))).setCell ⟨gb218, 2, none⟩ (.int .i64 ((rd_T86 l0_0 x10_1).f2))) w.heap.size (fun k_ => some k_ ≠ (.slice (some ⟨gA9, 0, none⟩) 40 40 : Value).ownBlock) u8 x8_1) := ⟨by (with_reducible repeat (first | apply Kd.R_alloc | apply Kd.R_drewN | apply Kd.R_drew)); exact Kd.R_mono (Kd.R_far (p := ⟨gb218, 2, none⟩) (Kd.R_far (p := ⟨gb218, 1, none⟩) (Kd.R_far (p := ⟨gb218, 0, none⟩) (Kd.R_types HO_8.out BK218.out (by decide)) (fun _ hk => hk.2) (.int .i64 ((rd_T86 l0_0 x10_1).f0))) (fun _ hk => hk.2) (.int .i64 ((rd_T86 l0_0 x10_1).f1))) (fun _ hk => hk.2) (.int .i64 ((rd_T86 l0_0 x10_1).f2))) (fun _ hk => hk.1)⟩; have n1_ : Aside0 (Kd.R (Kd.int .i64) 136 (((w15.setCell ⟨gb218, 0, none⟩ (.int .i64 ((rd_T86 l0_0 x10_1).f0))).setCell ⟨gb218, 1, none⟩ (.int .i64 ((rd_T86 l0_0 x10_1).f1))).setCell ⟨gb218, 2, none⟩ (.int .i64 ((rd_T86 l0_0 x10_1).f2))) w.heap.size (fun k_ => some k_ ≠ (u8 : Value).ownBlock) (.slice (some ⟨gA9, 0, none⟩) 40 40) x9_1) := ⟨by (with_reducible repeat (first | apply Kd.R_alloc | apply Kd.R_drewN | apply Kd.R_drew)); exact Kd.R_mono (Kd.R_far (p := ⟨gb218, 2, none⟩) (Kd.R_far (p := ⟨gb218, 1, none⟩) (Kd.R_far (p := ⟨gb218, 0, none⟩) (Kd.R_types HO_9.out BK218.out (by decide)) (fun _ hk => hk.2) (.int .i64 ((rd_T86 l0_0 x10_1).f0))) (fun _ hk => hk.2) (.int .i64 ((rd_T86 l0_0 x10_1).f1))) (fun _ hk => hk.2) (.int .i64 ((rd_T86 l0_0 x10_1).f2))) (fun _ hk => hk.1)⟩; have n2_ : Aside0 ((((w15.setCell ⟨gb218, 0, none⟩ (.int .i64 ((rd_T86 l0_0 x10_1).f0))).setCell ⟨gb218, 1, none⟩ (.int .i64 ((rd_T86 l0_0 x10_1).f1))).setCell ⟨gb218, 2, none⟩ (.int .i64 ((rd_T86 l0_0 x10_1).f2))).heap[gb210]? = some (.cells #[.slice (some ad217) l0_0.length c0_0, .slice A0_1 l0_1.length c0_1] 38 (0, 0))) := ⟨lJ BK210.out⟩; have n3_ : Aside0 ((((w15.setCell ⟨gb218, 0, none⟩ (.int .i64 ((rd_T86 l0_0 x10_1).f0))).setCell ⟨gb218, 1, none⟩ (.int .i64 ((rd_T86 l0_0 x10_1).f1))).setCell ⟨gb218, 2, none⟩ (.int .i64 ((rd_T86 l0_0 x10_1).f2))).heap[gb218]? = some (.cells #[.int .i64 ((rd_T86 l0_0 x10_1).f0), .int .i64 ((rd_T86 l0_0 x10_1).f1), .int .i64 ((rd_T86 l0_0 x10_1).f2)] 86 (0, 0))) := ⟨by (with_reducible repeat first | apply bN | apply bD | apply bA); refine blk_put (cs := #[.int .i64 ((rd_T86 l0_0 x10_1).f0), .int .i64 ((rd_T86 l0_0 x10_1).f1), .int .i64 0]) ?_ 2 _ rfl; (with_reducible repeat first | apply bN | apply bD | apply bA); refine blk_put (cs := #[.int .i64 ((rd_T86 l0_0 x10_1).f0), .int .i64 0, .int .i64 0]) ?_ 1 _ rfl; (with_reducible repeat first | apply bN | apply bD | apply bA); refine blk_put (cs := #[.int .i64 0, .int .i64 0, .int .i64 0]) ?_ 0 _ rfl; (with_reducible repeat first | apply bN | apply bD | apply bA); exact BK218.out⟩; have n4_ : Aside0 (Below w.heap.size w (((w15.setCell ⟨gb218, 0, none⟩ (.int .i64 ((rd_T86 l0_0 x10_1).f0))).setCell ⟨gb218, 1, none⟩ (.int .i64 ((rd_T86 l0_0 x10_1).f1))).setCell ⟨gb218, 2, none⟩ (.int .i64 ((rd_T86 l0_0 x10_1).f2)))) := ⟨lB⟩; (try clear HO_8); (try clear HO_9); (try clear BK210); (try clear BK218); (try clear HB); generalize (((w15.setCell ⟨gb218, 0, none⟩ (.int .i64 ((rd_T86 l0_0 x10_1).f0))).setCell ⟨gb218, 1, none⟩ (.int .i64 ((rd_T86 l0_0 x10_1).f1))).setCell ⟨gb218, 2, none⟩ (.int .i64 ((rd_T86 l0_0 x10_1).f2))) = w63 at n0_ n1_ n2_ n3_ n4_ ⊢; have HO_8 := n0_; have HO_9 := n1_; have BK210 := n2_; have BK218 := n3_; have HB := n4_; clear n0_ n1_ n2_ n3_ n4_; (try (rw [drewN_self w63]; generalize hq_ : World.drewN w63 _ = w63; have n0_ := Aside0.mk (Kd.R_at hq_ HO_8.out); have n1_ := Aside0.mk (Kd.R_at hq_ HO_9.out); have n2_ := Aside0.mk (blk_at hq_ BK210.out); have n3_ := Aside0.mk (blk_at hq_ BK218.out); have n4_ := Aside0.mk (below_at hq_ HB.out); clear hq_ HO_8 HO_9 BK210 BK218 HB; have HO_8 := n0_; have HO_9 := n1_; have BK210 := n2_; have BK218 := n3_; have HB := n4_; clear n0_ n1_ n2_ n3_ n4_)); obtain ⟨hy61_, hz61_⟩ := Kd.R_celln 0 HO_9.out (((rd_T86 l0_0 x10_1).f1) : Int) (lD) (arr_lt HO_9.out (lD)); have HP61 := Kd.R_putg HO_9.out (((rd_T86 l0_0 x10_1).f1) : Int) (wrap64 ((rd x9_1 ((rd_T86 l0_0 x10_1).f1)) + 1)); refine store_event (t := 3) (p := 80) (v := ?vo_w62) (w1 := (w63.setCell ⟨gA9, (((rd_T86 l0_0 x10_1).f1) : Int).toNat, none⟩ (.int .i64 (wrap64 ((rd x9_1 ((rd_T86 l0_0 x10_1).f1)) + 1))))) ?hg ?ho ?hn ?hr ?_; (case ho => rfl); (case hg => rfl); (case hn => rfl); (case hr => first | (go_simp; done) | (go_simp; rfl)); intro w62 hw; have hg : w63.grownBy w62 (some gA9) := (by rw [hw]; exact HP61.2); have hp_ : Kd.R (Kd.int .i64) 136 w62 w.heap.size (fun k_ => some k_ ≠ (u8 : Value).ownBlock) (.slice (some ⟨gA9, 0, none⟩) 40 40) y226 := (by rw [hw, Ny226.out]; exact HP61.1); clear HP61; have n0_ := Aside0.mk (Kd.R_after (v := (.slice (some ⟨gA9, 0, none⟩) 40 40)) (v1 := (.slice (some ⟨gA9, 0, none⟩) 40 40)) (ok := (fun _ => True)) (by (with_reducible repeat (first | apply Kd.R_alloc | apply Kd.R_drewN | apply Kd.R_drew)); exact Kd.R_mono HO_8.out (fun _ hk => ⟨trivial, hk⟩)) hg (.inl rfl)); have n1_ := Aside0.mk (hp_); have n2_ := Aside0.mk (blk_grown (lK BK210.out) hg (Kd.R_ne HO_9.out BK210.out (by decide))); have n3_ := Aside0.mk (blk_grown (lK BK218.out) hg (Kd.R_ne HO_9.out BK218.out (by decide))); have n4_ := Aside0.mk ((by rw [hw]; exact below_set (HB.out) GB57.out : Below w.heap.size w w62)); clear HO_8; clear HO_9; clear BK210; clear BK218; clear HB; have HO_8 := n0_; have HO_9 := n1_; have BK210 := n2_; have BK218 := n3_; have HB := n4_; clear n0_ n1_ n2_ n3_ n4_; clear hg hw hp_))
                                  repeat (go_quiet (fail); try go_wp2_with (first | ((with_reducible refine gate_store (t := 3) (p := 80) rfl ?_); have n0_ : Aside0 (Kd.R (Kd.int .i64) 3 (((w15.setCell ⟨gb218, 0, none⟩ (.int .i64 ((rd_T86 l0_0 x10_1).f0))).setCell ⟨gb218, 1, none⟩ (.int .i64 ((rd_T86 l0_0 x10_1).f1))).setCell ⟨gb218, 2, none⟩ (.int .i64 ((rd_T86 l0_0 x10_1).f2))) w.heap.size (fun k_ => some k_ ≠ (.slice (some ⟨gA9, 0, none⟩) 40 40 : Value).ownBlock) u8 x8_1) := ⟨by (with_reducible repeat (first | apply Kd.R_alloc | apply Kd.R_drewN | apply Kd.R_drew)); exact Kd.R_mono (Kd.R_far (p := ⟨gb218, 2, none⟩) (Kd.R_far (p := ⟨gb218, 1, none⟩) (Kd.R_far (p := ⟨gb218, 0, none⟩) (Kd.R_types HO_8.out BK218.out (by decide)) (fun _ hk => hk.2) (.int .i64 ((rd_T86 l0_0 x10_1).f0))) (fun _ hk => hk.2) (.int .i64 ((rd_T86 l0_0 x10_1).f1))) (fun _ hk => hk.2) (.int .i64 ((rd_T86 l0_0 x10_1).f2))) (fun _ hk => hk.1)⟩; have n1_ : Aside0 (Kd.R (Kd.int .i64) 136 (((w15.setCell ⟨gb218, 0, none⟩ (.int .i64 ((rd_T86 l0_0 x10_1).f0))).setCell ⟨gb218, 1, none⟩ (.int .i64 ((rd_T86 l0_0 x10_1).f1))).setCell ⟨gb218, 2, none⟩ (.int .i64 ((rd_T86 l0_0 x10_1).f2))) w.heap.size (fun k_ => some k_ ≠ (u8 : Value).ownBlock) (.slice (some ⟨gA9, 0, none⟩) 40 40) x9_1) := ⟨by (with_reducible repeat (first | apply Kd.R_alloc | apply Kd.R_drewN | apply Kd.R_drew)); exact Kd.R_mono (Kd.R_far (p := ⟨gb218, 2, none⟩) (Kd.R_far (p := ⟨gb218, 1, none⟩) (Kd.R_far (p := ⟨gb218, 0, none⟩) (Kd.R_types HO_9.out BK218.out (by decide)) (fun _ hk => hk.2) (.int .i64 ((rd_T86 l0_0 x10_1).f0))) (fun _ hk => hk.2) (.int .i64 ((rd_T86 l0_0 x10_1).f1))) (fun _ hk => hk.2) (.int .i64 ((rd_T86 l0_0 x10_1).f2))) (fun _ hk => hk.1)⟩; have n2_ : Aside0 ((((w15.setCell ⟨gb218, 0, none⟩ (.int .i64 ((rd_T86 l0_0 x10_1).f0))).setCell ⟨gb218, 1, none⟩ (.int .i64 ((rd_T86 l0_0 x10_1).f1))).setCell ⟨gb218, 2, none⟩ (.int .i64 ((rd_T86 l0_0 x10_1).f2))).heap[gb210]? = some (.cells #[.slice (some ad217) l0_0.length c0_0, .slice A0_1 l0_1.length c0_1] 38 (0, 0))) := ⟨lJ BK210.out⟩; have n3_ : Aside0 ((((w15.setCell ⟨gb218, 0, none⟩ (.int .i64 ((rd_T86 l0_0 x10_1).f0))).setCell ⟨gb218, 1, none⟩ (.int .i64 ((rd_T86 l0_0 x10_1).f1))).setCell ⟨gb218, 2, none⟩ (.int .i64 ((rd_T86 l0_0 x10_1).f2))).heap[gb218]? = some (.cells #[.int .i64 ((rd_T86 l0_0 x10_1).f0), .int .i64 ((rd_T86 l0_0 x10_1).f1), .int .i64 ((rd_T86 l0_0 x10_1).f2)] 86 (0, 0))) := ⟨by (with_reducible repeat first | apply bN | apply bD | apply bA); refine blk_put (cs := #[.int .i64 ((rd_T86 l0_0 x10_1).f0), .int .i64 ((rd_T86 l0_0 x10_1).f1), .int .i64 0]) ?_ 2 _ rfl; (with_reducible repeat first | apply bN | apply bD | apply bA); refine blk_put (cs := #[.int .i64 ((rd_T86 l0_0 x10_1).f0), .int .i64 0, .int .i64 0]) ?_ 1 _ rfl; (with_reducible repeat first | apply bN | apply bD | apply bA); refine blk_put (cs := #[.int .i64 0, .int .i64 0, .int .i64 0]) ?_ 0 _ rfl; (with_reducible repeat first | apply bN | apply bD | apply bA); exact BK218.out⟩; have n4_ : Aside0 (Below w.heap.size w (((w15.setCell ⟨gb218, 0, none⟩ (.int .i64 ((rd_T86 l0_0 x10_1).f0))).setCell ⟨gb218, 1, none⟩ (.int .i64 ((rd_T86 l0_0 x10_1).f1))).setCell ⟨gb218, 2, none⟩ (.int .i64 ((rd_T86 l0_0 x10_1).f2)))) := ⟨lB⟩; (try clear HO_8); (try clear HO_9); (try clear BK210); (try clear BK218); (try clear HB); generalize (((w15.setCell ⟨gb218, 0, none⟩ (.int .i64 ((rd_T86 l0_0 x10_1).f0))).setCell ⟨gb218, 1, none⟩ (.int .i64 ((rd_T86 l0_0 x10_1).f1))).setCell ⟨gb218, 2, none⟩ (.int .i64 ((rd_T86 l0_0 x10_1).f2))) = w63 at n0_ n1_ n2_ n3_ n4_ ⊢; have HO_8 := n0_; have HO_9 := n1_; have BK210 := n2_; have BK218 := n3_; have HB := n4_; clear n0_ n1_ n2_ n3_ n4_; (try (rw [drewN_self w63]; generalize hq_ : World.drewN w63 _ = w63; have n0_ := Aside0.mk (Kd.R_at hq_ HO_8.out); have n1_ := Aside0.mk (Kd.R_at hq_ HO_9.out); have n2_ := Aside0.mk (blk_at hq_ BK210.out); have n3_ := Aside0.mk (blk_at hq_ BK218.out); have n4_ := Aside0.mk (below_at hq_ HB.out); clear hq_ HO_8 HO_9 BK210 BK218 HB; have HO_8 := n0_; have HO_9 := n1_; have BK210 := n2_; have BK218 := n3_; have HB := n4_; clear n0_ n1_ n2_ n3_ n4_)); obtain ⟨hy61_, hz61_⟩ := Kd.R_celln 0 HO_9.out (((rd_T86 l0_0 x10_1).f1) : Int) (lD) (arr_lt HO_9.out (lD)); have HP61 := Kd.R_putg HO_9.out (((rd_T86 l0_0 x10_1).f1) : Int) (wrap64 ((rd x9_1 ((rd_T86 l0_0 x10_1).f1)) + 1)); refine store_event (t := 3) (p := 80) (v := ?vo_w62) (w1 := (w63.setCell ⟨gA9, (((rd_T86 l0_0 x10_1).f1) : Int).toNat, none⟩ (.int .i64 (wrap64 ((rd x9_1 ((rd_T86 l0_0 x10_1).f1)) + 1))))) ?hg ?ho ?hn ?hr ?_; (case ho => rfl); (case hg => rfl); (case hn => rfl); (case hr => first | (go_simp; done) | (go_simp; rfl)); intro w62 hw; have hg : w63.grownBy w62 (some gA9) := (by rw [hw]; exact HP61.2); have hp_ : Kd.R (Kd.int .i64) 136 w62 w.heap.size (fun k_ => some k_ ≠ (u8 : Value).ownBlock) (.slice (some ⟨gA9, 0, none⟩) 40 40) y226 := (by rw [hw, Ny226.out]; exact HP61.1); clear HP61; have n0_ := Aside0.mk (Kd.R_after (v := (.slice (some ⟨gA9, 0, none⟩) 40 40)) (v1 := (.slice (some ⟨gA9, 0, none⟩) 40 40)) (ok := (fun _ => True)) (by (with_reducible repeat (first | apply Kd.R_alloc | apply Kd.R_drewN | apply Kd.R_drew)); exact Kd.R_mono HO_8.out (fun _ hk => ⟨trivial, hk⟩)) hg (.inl rfl)); have n1_ := Aside0.mk (hp_); have n2_ := Aside0.mk (blk_grown (lK BK210.out) hg (Kd.R_ne HO_9.out BK210.out (by decide))); have n3_ := Aside0.mk (blk_grown (lK BK218.out) hg (Kd.R_ne HO_9.out BK218.out (by decide))); have n4_ := Aside0.mk ((by rw [hw]; exact below_set (HB.out) GB57.out : Below w.heap.size w w62)); clear HO_8; clear HO_9; clear BK210; clear BK218; clear HB; have HO_8 := n0_; have HO_9 := n1_; have BK210 := n2_; have BK218 := n3_; have HB := n4_; clear n0_ n1_ n2_ n3_ n4_; clear hg hw hp_)))
                                  go_meet
                                  case rel => exact ⟨_, (x8_1), (y226), (0), (wrap64 ((wrap64 (x10_1 + 1)) + 1)), lF, lF, H', ⟨by have := HK1.out; first | omega | exact Nat.le_refl _⟩, ⟨by (with_reducible repeat (first | apply Kd.R_alloc | apply Kd.R_drewN | apply Kd.R_drew)); exact Kd.R_mono HO_8.out (fun _ hk => hk.2)⟩, ⟨lR HO_9.out⟩, ⟨lK BK210.out⟩, ⟨lK BK218.out⟩, ⟨lB⟩⟩
                              · rw [if_neg c52] at H
                                exact absurd H (by simp)
                            · rw [if_neg c51] at H
                              exact absurd H (by simp)
                          · rw [if_neg c50] at H
                            have c50b0 : (((rd_T86 l0_0 x10_1).f0) == 6) = false := beq_eq_false_iff_ne.mpr c50
                            have c50b1 : (((rd_T86 l0_0 x10_1).f0) != 6) = true := bne_iff_ne.mpr c50
                            have H' := Aside0.mk H
                            clear H
                            go_wp2
                            repeat (go_quiet (fail); try go_wp2)
                            go_meet
                            case rel => exact ⟨_, (x8_1), (x9_1), (0), (wrap64 (x10_1 + 1)), lF, lF, H', ⟨by have := HK1.out; first | omega | exact Nat.le_refl _⟩, ⟨by (with_reducible repeat (first | apply Kd.R_alloc | apply Kd.R_drewN | apply Kd.R_drew)); exact Kd.R_mono (Kd.R_far (p := ⟨gb218, 2, none⟩) (Kd.R_far (p := ⟨gb218, 1, none⟩) (Kd.R_far (p := ⟨gb218, 0, none⟩) (Kd.R_types HO_8.out BK218.out (by decide)) (fun _ hk => hk.2) (.int .i64 ((rd_T86 l0_0 x10_1).f0))) (fun _ hk => hk.2) (.int .i64 ((rd_T86 l0_0 x10_1).f1))) (fun _ hk => hk.2) (.int .i64 ((rd_T86 l0_0 x10_1).f2))) (fun _ hk => hk.1)⟩, ⟨by (with_reducible repeat (first | apply Kd.R_alloc | apply Kd.R_drewN | apply Kd.R_drew)); exact Kd.R_mono (Kd.R_far (p := ⟨gb218, 2, none⟩) (Kd.R_far (p := ⟨gb218, 1, none⟩) (Kd.R_far (p := ⟨gb218, 0, none⟩) (Kd.R_types HO_9.out BK218.out (by decide)) (fun _ hk => hk.2) (.int .i64 ((rd_T86 l0_0 x10_1).f0))) (fun _ hk => hk.2) (.int .i64 ((rd_T86 l0_0 x10_1).f1))) (fun _ hk => hk.2) (.int .i64 ((rd_T86 l0_0 x10_1).f2))) (fun _ hk => hk.1)⟩, ⟨lJ BK210.out⟩, ⟨by (with_reducible repeat first | apply bN | apply bD | apply bA); refine blk_put (cs := #[.int .i64 ((rd_T86 l0_0 x10_1).f0), .int .i64 ((rd_T86 l0_0 x10_1).f1), .int .i64 0]) ?_ 2 _ rfl; (with_reducible repeat first | apply bN | apply bD | apply bA); refine blk_put (cs := #[.int .i64 ((rd_T86 l0_0 x10_1).f0), .int .i64 0, .int .i64 0]) ?_ 1 _ rfl; (with_reducible repeat first | apply bN | apply bD | apply bA); refine blk_put (cs := #[.int .i64 0, .int .i64 0, .int .i64 0]) ?_ 0 _ rfl; (with_reducible repeat first | apply bN | apply bD | apply bA); exact BK218.out⟩, ⟨lB⟩⟩
              case rest =>
                clear HC13
                try clear c1
                try clear c2
                try clear p2
                try clear q2
                try clear hx2
                try clear c3
                try clear c3b0
                try clear c3b1
                try clear c4
                try clear p4
                try clear q4
                try clear hx4
                try clear hf4
                try clear c5
                try clear p5
                try clear q5
                try clear hx5
                try clear hf5
                try clear c6
                try clear p6
                try clear c9
                try clear c9b0
                try clear c10
                try clear c10b0
                try clear c10b1
                try clear c12
                try clear c12b0
                try clear c16
                try clear c18
                try clear c18b0
                try clear c18b1
                try clear c19
                try clear c20
                try clear c20b0
                try clear c20b1
                try clear c21
                try clear p21
                try clear q21
                try clear hx21
                try clear p22
                try clear q22
                try clear hx22
                try clear c25
                try clear c29
                try clear c29b0
                try clear c29b1
                try clear c30
                try clear c32
                try clear c32b0
                try clear c32b1
                try clear c33
                try clear c33b0
                try clear c34
                try clear c34b0
                try clear c35
                try clear c38
                try clear c38b0
                try clear c38b1
                try clear c39
                try clear c41
                try clear c41b0
                try clear c41b1
                try clear c42
                try clear c42b0
                try clear c43
                try clear c43b0
                try clear p44
                try clear q44
                try clear hx44
                try clear hf44
                try clear c45
                try clear c50
                try clear c50b0
                try clear c50b1
                try clear c51
                try clear c51b0
                try clear c52
                try clear c52b0
                try clear c53
                try clear c53b0
                try clear c53b1
                try clear c54
                try clear p57
                try clear q57
                try clear hx57
                try clear hf57
                try clear c58
                try clear hcz11_0 hcz11_1
                try clear hcz14_0 hcz14_1
                try clear hcz17_0 hcz17_1 hcz17_2
                try clear hcz22_0 hcz22_1 hcz22_2
                try clear hcz26_0 hcz26_1 hcz26_2
                try clear hcz31_0 hcz31_1 hcz31_2
                try clear hcz36_0 hcz36_1 hcz36_2
                try clear hcz40_0 hcz40_1 hcz40_2
                try clear hcz46_0 hcz46_1 hcz46_2
                try clear hcz55_0 hcz55_1 hcz55_2
                try clear hcz59_0 hcz59_1 hcz59_2
                try clear hfz11_0 hfz11_1
                try clear hfz14_0 hfz14_1
                try clear hfz17_0 hfz17_1 hfz17_2
                try clear hfz22_0 hfz22_1 hfz22_2
                try clear hfz26_0 hfz26_1 hfz26_2
                try clear hfz31_0 hfz31_1 hfz31_2
                try clear hfz36_0 hfz36_1 hfz36_2
                try clear hfz40_0 hfz40_1 hfz40_2
                try clear hfz46_0 hfz46_1 hfz46_2
                try clear hfz55_0 hfz55_1 hfz55_2
                try clear hfz59_0 hfz59_1 hfz59_2
                try clear hx217_0
                try clear hx217_1
                try clear hx217_2
                try clear hx222_0
                try clear hx224_0
                try clear hx225_0
                try clear hx44_0
                try clear hx57_0
                try clear p2
                try clear p217
                try clear p222
                try clear p224
                try clear p225
                try clear p44
                try clear p57
                try clear q217
                try clear q222
                try clear q224
                try clear q225
                try clear q44
                try clear q57
                obtain ⟨kq, x8_12, x9_12, x13_12, x14_12, rfl, rfl, HA, HJ12, HO_8, HO_9, BK210, BK218, HB⟩ := hcut
                cases kq with
                | zero => exact absurd HA.out (by simp [impl_runLined.j1])
                | succ kj12 =>
                  have H := HA.out
                  clear HA
                  simp only [impl_runLined.j1] at H
                  by_cases c64 : x13_12 = 0
                  · rw [if_pos c64] at H
                    have c64b0 : (x13_12 == 0) = true := beq_iff_eq.mpr c64
                    have c64b1 : (x13_12 != 0) = false := bne_eq_false_iff_eq.mpr c64
                    clear c64
                    have H' := Aside0.mk H
                    clear H
                    go_wp2
                    repeat (go_quiet (fail); try go_wp2)
                    go_roundg kj12
                    case measure => have := HK1.out; have := HJ12.out; omega
                    case rel => exact ⟨(x8_12), (x9_12), (x14_12), ((wrap64 (x11_1 + 1))), lF, lF, H', ⟨by have := HK1.out; have := HJ12.out; omega⟩, ⟨lR HO_8.out⟩, ⟨lR HO_9.out⟩, ⟨lK BK210.out⟩, ⟨lB⟩⟩
                  · rw [if_neg c64] at H
                    have c64b0 : (x13_12 == 0) = false := beq_eq_false_iff_ne.mpr c64
                    have c64b1 : (x13_12 != 0) = true := bne_iff_ne.mpr c64
                    replace H := lO H
                    obtain ⟨t227, A65, H⟩ := H
                    by_cases c66 : t227 < 0
                    · rw [if_pos c66] at H
                      have c66b0 : decide (t227 < 0) = true := decide_eq_true c66
                      clear c66
                      simp only [Option.some.injEq, Prod.mk.injEq] at H
                      obtain ⟨rfl, rfl, rfl, rfl⟩ := H
                      have hnb67 := NB210_218.out
                      have hnc67 := NB218_210.out
                      obtain ⟨hcz68_0, hfz68_0, hcz68_1, hfz68_1⟩ := bk2 BK210.out
                      go_wp2_with (first | (go_at_call 59; (with_reducible refine (impl_guardAt.calls _ _ l0_0 _ _ l0_1 x10_1 x13_12 t227 _ ?side1 ?side2 ?side3 ?side4 A65.out).mono ?_); (case side1 => exact lC (Kd.C_below HR0_0.out HB.out)); (case side2 => exact HC0_0.out); (case side3 => exact lC (Kd.C_below HR0_1.out HB.out)); (case side4 => exact HC0_1.out); rintro e w69 ⟨rfl, hb⟩; have n0_ := Aside0.mk (Kd.R_below (lR HO_8.out) hb); have n1_ := Aside0.mk (Kd.R_below (lR HO_9.out) hb); have n2_ := Aside0.mk (blk_below (lK BK210.out) hb); have n3_ := Aside0.mk (blk_below (lK BK218.out) hb); have n4_ := Aside0.mk (below_step lB hb); clear HO_8; clear HO_9; clear BK210; clear BK218; clear HB; have HO_8 := n0_; have HO_9 := n1_; have BK210 := n2_; have BK218 := n3_; have HB := n4_; clear n0_ n1_ n2_ n3_ n4_; (try clear hb); (try clear hb2); (try clear hk); (try clear hi)))
                      repeat (go_quiet (fail); try go_wp2_with (first | (go_at_call 59; (with_reducible refine (impl_guardAt.calls _ _ l0_0 _ _ l0_1 x10_1 x13_12 t227 _ ?side1 ?side2 ?side3 ?side4 A65.out).mono ?_); (case side1 => exact lC (Kd.C_below HR0_0.out HB.out)); (case side2 => exact HC0_0.out); (case side3 => exact lC (Kd.C_below HR0_1.out HB.out)); (case side4 => exact HC0_1.out); rintro e w69 ⟨rfl, hb⟩; have n0_ := Aside0.mk (Kd.R_below (lR HO_8.out) hb); have n1_ := Aside0.mk (Kd.R_below (lR HO_9.out) hb); have n2_ := Aside0.mk (blk_below (lK BK210.out) hb); have n3_ := Aside0.mk (blk_below (lK BK218.out) hb); have n4_ := Aside0.mk (below_step lB hb); clear HO_8; clear HO_9; clear BK210; clear BK218; clear HB; have HO_8 := n0_; have HO_9 := n1_; have BK210 := n2_; have BK218 := n3_; have HB := n4_; clear n0_ n1_ n2_ n3_ n4_; (try clear hb); (try clear hb2); (try clear hk); (try clear hi))))
                      refine bodyPost_ret (results_list (rs := [.tmp 4, .tmp 5, .tmp 6, .tmp 7]) rfl (by simp) (.tmp (.tmp (.tmp (.tmp .nil))))) rfl ?_
                      exact ⟨_, lE, by (with_reducible repeat (first | apply Kd.R_alloc | apply Kd.R_drewN | apply Kd.R_drew)); exact Kd.R_mono HO_8.out (fun _ hk => trivial), lB⟩
                    · rw [if_neg c66] at H
                      have c66b0 : decide (t227 < 0) = false := decide_eq_false c66
                      clear c66
                      by_cases c70 : 0 ≤ t227
                      · rw [if_pos c70] at H
                        have c70b0 : decide (0 ≤ t227) = true := decide_eq_true c70
                        clear c70
                        by_cases c71 : t227 < (x9_12.length : Int)
                        · rw [if_pos c71] at H
                          have c71b0 : decide (t227 < (x9_12.length : Int)) = true := decide_eq_true c71
                          clear c71
                          obtain ⟨y228, hy228⟩ : ∃ y_ : List Int, y_ = (x9_12.set (t227 : Int).toNat x13_12) := ⟨_, rfl⟩
                          replace H : (if t227 < (l0_1.length : Int) then (impl_runLined.l0 kj12 a1 x8_12 y228 ((rd_T63 l0_1 t227).f3) (wrap64 (x11_1 + 1)) l0_0 l0_1) else (none)) = some (r1, r2, r3, r4) := by first | (rw [hy228]; with_reducible exact H) | (have H2_ := (Option.bind_some _ _).symm.trans H; rw [hy228]; with_reducible exact H2_) | (have H2_ := (Option.bind_some _ _).symm.trans H; with_reducible exact H2_) | with_reducible exact H | (rw [hy228]; exact H) | exact H
                          have Ny228 := Aside0.mk hy228
                          clear hy228
                          by_cases c73 : t227 < (l0_1.length : Int)
                          · rw [if_pos c73] at H
                            have c73b0 : decide (t227 < (l0_1.length : Int)) = true := decide_eq_true c73
                            clear c73
                            have H' := Aside0.mk H
                            clear H
                            have hnb74 := NB210_218.out
                            have hnc74 := NB218_210.out
                            obtain ⟨hcz75_0, hfz75_0, hcz75_1, hfz75_1⟩ := bk2 BK210.out
                            go_wp2_with (first | (go_at_call 59; (with_reducible refine (impl_guardAt.calls _ _ l0_0 _ _ l0_1 x10_1 x13_12 t227 _ ?side1 ?side2 ?side3 ?side4 A65.out).mono ?_); (case side1 => exact lC (Kd.C_below HR0_0.out HB.out)); (case side2 => exact HC0_0.out); (case side3 => exact lC (Kd.C_below HR0_1.out HB.out)); (case side4 => exact HC0_1.out); rintro e w76 ⟨rfl, hb⟩; have n0_ := Aside0.mk (Kd.R_below (lR HO_8.out) hb); have n1_ := Aside0.mk (Kd.R_below (lR HO_9.out) hb); have n2_ := Aside0.mk (blk_below (lK BK210.out) hb); have n3_ := Aside0.mk (blk_below (lK BK218.out) hb); have n4_ := Aside0.mk (below_step lB hb); clear HO_8; clear HO_9; clear BK210; clear BK218; clear HB; have HO_8 := n0_; have HO_9 := n1_; have BK210 := n2_; have BK218 := n3_; have HB := n4_; clear n0_ n1_ n2_ n3_ n4_; (try clear hb); (try clear hb2); (try clear hk); (try clear hi); have p72 : 0 ≤ (t227 : Int) := lD; have q72 : (t227 : Int) < ((x9_12.length : Int) : Int) := lD; obtain ⟨gb72, HG72⟩ := arr_form HO_9.out (by omega); have GB72 := Aside0.mk gb72; have GG72 := Aside0.mk HG72; clear gb72 HG72; obtain ⟨hx72_0, hf72_0⟩ := Kd.R_celln 0 HO_9.out (t227 : Int) p72 (arr_lt HO_9.out q72); replace p72 := eq_true p72; replace q72 := eq_true q72; have bA72 := eq_true (arr_lt2 40 HO_9.out (of_eq_true q72) rfl); have bA72 := eq_true (arr_lt2 40 HO_9.out (of_eq_true q72) rfl); obtain ⟨hy77_, hz77_⟩ := Kd.R_celln 0 HO_9.out (t227 : Int) (lD) (arr_lt HO_9.out (lD)); have HP77 := Kd.R_putg HO_9.out (t227 : Int) x13_12) | ((with_reducible refine gate_store (t := 3) (p := 96) rfl ?_); (try (rw [drewN_self w76]; generalize hq_ : World.drewN w76 _ = w76; have n0_ := Aside0.mk (Kd.R_at hq_ HO_8.out); have n1_ := Aside0.mk (Kd.R_at hq_ HO_9.out); have n2_ := Aside0.mk (blk_at hq_ BK210.out); have n3_ := Aside0.mk (blk_at hq_ BK218.out); have n4_ := Aside0.mk (below_at hq_ HB.out); clear hq_ HO_8 HO_9 BK210 BK218 HB; have HO_8 := n0_; have HO_9 := n1_; have BK210 := n2_; have BK218 := n3_; have HB := n4_; clear n0_ n1_ n2_ n3_ n4_; (try (obtain ⟨hy77_, hz77_⟩ := Kd.R_celln 0 HO_9.out (t227 : Int) (lD) (arr_lt HO_9.out (lD)))); (try (have HP77 := Kd.R_putg HO_9.out (t227 : Int) x13_12)))); refine store_event (t := 3) (p := 96) (v := ?vo_w78) (w1 := (w76.setCell ⟨gA9, (t227 : Int).toNat, none⟩ (.int .i64 x13_12))) ?hg ?ho ?hn ?hr ?_; (case ho => rfl); (case hg => rfl); (case hn => rfl); (case hr => first | (go_simp; done) | (go_simp; rfl)); intro w78 hw; have hg : w76.grownBy w78 (some gA9) := (by rw [hw]; exact HP77.2); have hp_ : Kd.R (Kd.int .i64) 136 w78 w.heap.size (fun k_ => some k_ ≠ (u8 : Value).ownBlock) (.slice (some ⟨gA9, 0, none⟩) 40 40) y228 := (by rw [hw, Ny228.out]; exact HP77.1); clear HP77; have n0_ := Aside0.mk (Kd.R_after (v := (.slice (some ⟨gA9, 0, none⟩) 40 40)) (v1 := (.slice (some ⟨gA9, 0, none⟩) 40 40)) (ok := (fun _ => True)) (by (with_reducible repeat (first | apply Kd.R_alloc | apply Kd.R_drewN | apply Kd.R_drew)); exact Kd.R_mono HO_8.out (fun _ hk => ⟨trivial, hk⟩)) hg (.inl rfl)); have n1_ := Aside0.mk (hp_); have n2_ := Aside0.mk (blk_grown (lK BK210.out) hg (Kd.R_ne HO_9.out BK210.out (by decide))); have n3_ := Aside0.mk (blk_grown (lK BK218.out) hg (Kd.R_ne HO_9.out BK218.out (by decide))); have n4_ := Aside0.mk ((by rw [hw]; exact below_set (HB.out) GB72.out : Below w.heap.size w w78)); clear HO_8; clear HO_9; clear BK210; clear BK218; clear HB; have HO_8 := n0_; have HO_9 := n1_; have BK210 := n2_; have BK218 := n3_; have HB := n4_; clear n0_ n1_ n2_ n3_ n4_; clear hg hw hp_; obtain ⟨hcz79_0, hfz79_0, hcz79_1, hfz79_1⟩ := bk2 BK210.out; have p229 : 0 ≤ (t227 : Int) := lD; have q229 : t227 < (l0_1.length : Int) := lD; obtain ⟨ad229, e229, hx229_0, hx229_1, hx229_2, hx229_3⟩ := at_T63 HR0_1.out t227 p229 q229; cases e229; replace hx229_0 := pw_cell_below HB.out hx229_0; replace hx229_1 := pw_cell_below HB.out hx229_1; replace hx229_2 := pw_cell_below HB.out hx229_2; replace hx229_3 := pw_cell_below HB.out hx229_3; replace p229 := eq_true p229; replace q229 := eq_true q229))
                            repeat (go_quiet (fail); try go_wp2_with (first | (go_at_call 59; (with_reducible refine (impl_guardAt.calls _ _ l0_0 _ _ l0_1 x10_1 x13_12 t227 _ ?side1 ?side2 ?side3 ?side4 A65.out).mono ?_); (case side1 => exact lC (Kd.C_below HR0_0.out HB.out)); (case side2 => exact HC0_0.out); (case side3 => exact lC (Kd.C_below HR0_1.out HB.out)); (case side4 => exact HC0_1.out); rintro e w76 ⟨rfl, hb⟩; have n0_ := Aside0.mk (Kd.R_below (lR HO_8.out) hb); have n1_ := Aside0.mk (Kd.R_below (lR HO_9.out) hb); have n2_ := Aside0.mk (blk_below (lK BK210.out) hb); have n3_ := Aside0.mk (blk_below (lK BK218.out) hb); have n4_ := Aside0.mk (below_step lB hb); clear HO_8; clear HO_9; clear BK210; clear BK218; clear HB; have HO_8 := n0_; have HO_9 := n1_; have BK210 := n2_; have BK218 := n3_; have HB := n4_; clear n0_ n1_ n2_ n3_ n4_; (try clear hb); (try clear hb2); (try clear hk); (try clear hi); have p72 : 0 ≤ (t227 : Int) := lD; have q72 : (t227 : Int) < ((x9_12.length : Int) : Int) := lD; obtain ⟨gb72, HG72⟩ := arr_form HO_9.out (by omega); have GB72 := Aside0.mk gb72; have GG72 := Aside0.mk HG72; clear gb72 HG72; obtain ⟨hx72_0, hf72_0⟩ := Kd.R_celln 0 HO_9.out (t227 : Int) p72 (arr_lt HO_9.out q72); replace p72 := eq_true p72; replace q72 := eq_true q72; have bA72 := eq_true (arr_lt2 40 HO_9.out (of_eq_true q72) rfl); have bA72 := eq_true (arr_lt2 40 HO_9.out (of_eq_true q72) rfl); obtain ⟨hy77_, hz77_⟩ := Kd.R_celln 0 HO_9.out (t227 : Int) (lD) (arr_lt HO_9.out (lD)); have HP77 := Kd.R_putg HO_9.out (t227 : Int) x13_12) | ((with_reducible refine gate_store (t := 3) (p := 96) rfl ?_); (try (rw [drewN_self w76]; generalize hq_ : World.drewN w76 _ = w76; have n0_ := Aside0.mk (Kd.R_at hq_ HO_8.out); have n1_ := Aside0.mk (Kd.R_at hq_ HO_9.out); have n2_ := Aside0.mk (blk_at hq_ BK210.out); have n3_ := Aside0.mk (blk_at hq_ BK218.out); have n4_ := Aside0.mk (below_at hq_ HB.out); clear hq_ HO_8 HO_9 BK210 BK218 HB; have HO_8 := n0_; have HO_9 := n1_; have BK210 := n2_; have BK218 := n3_; have HB := n4_; clear n0_ n1_ n2_ n3_ n4_; (try (obtain ⟨hy77_, hz77_⟩ := Kd.R_celln 0 HO_9.out (t227 : Int) (lD) (arr_lt HO_9.out (lD)))); (try (have HP77 := Kd.R_putg HO_9.out (t227 : Int) x13_12)))); refine store_event (t := 3) (p := 96) (v := ?vo_w78) (w1 := (w76.setCell ⟨gA9, (t227 : Int).toNat, none⟩ (.int .i64 x13_12))) ?hg ?ho ?hn ?hr ?_; (case ho => rfl); (case hg => rfl); (case hn => rfl); (case hr => first | (go_simp; done) | (go_simp; rfl)); intro w78 hw; have hg : w76.grownBy w78 (some gA9) := (by rw [hw]; exact HP77.2); have hp_ : Kd.R (Kd.int .i64) 136 w78 w.heap.size (fun k_ => some k_ ≠ (u8 : Value).ownBlock) (.slice (some ⟨gA9, 0, none⟩) 40 40) y228 := (by rw [hw, Ny228.out]; exact HP77.1); clear HP77; have n0_ := Aside0.mk (Kd.R_after (v := (.slice (some ⟨gA9, 0, none⟩) 40 40)) (v1 := (.slice (some ⟨gA9, 0, none⟩) 40 40)) (ok := (fun _ => True)) (by (with_reducible repeat (first | apply Kd.R_alloc | apply Kd.R_drewN | apply Kd.R_drew)); exact Kd.R_mono HO_8.out (fun _ hk => ⟨trivial, hk⟩)) hg (.inl rfl)); have n1_ := Aside0.mk (hp_); have n2_ := Aside0.mk (blk_grown (lK BK210.out) hg (Kd.R_ne HO_9.out BK210.out (by decide))); have n3_ := Aside0.mk (blk_grown (lK BK218.out) hg (Kd.R_ne HO_9.out BK218.out (by decide))); have n4_ := Aside0.mk ((by rw [hw]; exact below_set (HB.out) GB72.out : Below w.heap.size w w78)); clear HO_8; clear HO_9; clear BK210; clear BK218; clear HB; have HO_8 := n0_; have HO_9 := n1_; have BK210 := n2_; have BK218 := n3_; have HB := n4_; clear n0_ n1_ n2_ n3_ n4_; clear hg hw hp_; obtain ⟨hcz79_0, hfz79_0, hcz79_1, hfz79_1⟩ := bk2 BK210.out; have p229 : 0 ≤ (t227 : Int) := lD; have q229 : t227 < (l0_1.length : Int) := lD; obtain ⟨ad229, e229, hx229_0, hx229_1, hx229_2, hx229_3⟩ := at_T63 HR0_1.out t227 p229 q229; cases e229; replace hx229_0 := pw_cell_below HB.out hx229_0; replace hx229_1 := pw_cell_below HB.out hx229_1; replace hx229_2 := pw_cell_below HB.out hx229_2; replace hx229_3 := pw_cell_below HB.out hx229_3; replace p229 := eq_true p229; replace q229 := eq_true q229)))
                            go_roundg kj12
                            case measure => have := HK1.out; have := HJ12.out; omega
                            case rel => exact ⟨(x8_12), (y228), ((rd_T63 l0_1 t227).f3), ((wrap64 (x11_1 + 1))), lF, lF, H', ⟨by have := HK1.out; have := HJ12.out; omega⟩, ⟨by (with_reducible repeat (first | apply Kd.R_alloc | apply Kd.R_drewN | apply Kd.R_drew)); exact Kd.R_mono HO_8.out (fun _ hk => hk.2)⟩, ⟨lR HO_9.out⟩, ⟨lK BK210.out⟩, ⟨lB⟩⟩
                          · rw [if_neg c73] at H
                            exact absurd H (by simp)
                        · rw [if_neg c71] at H
                          exact absurd H (by simp)
                      · rw [if_neg c70] at H
                        exact absurd H (by simp)
            · rw [if_neg c12] at H
              exact absurd H (by simp)
        · rw [if_neg c9] at H
          have c9b0 : decide (x10_1 < (l0_0.length : Int)) = false := decide_eq_false c9
          clear c9
          simp only [Option.some.injEq, Prod.mk.injEq] at H
          obtain ⟨rfl, rfl, rfl, rfl⟩ := H
          obtain ⟨hcz80_0, hfz80_0, hcz80_1, hfz80_1⟩ := bk2 BK210.out
          go_wp2
          repeat (go_quiet (fail); try go_wp2)
          refine bodyPost_ret (results_list (rs := [.tmp 4, .tmp 5, .tmp 6, .tmp 7]) rfl (by simp) (.tmp (.tmp (.tmp (.tmp .nil))))) rfl ?_
          exact ⟨_, lE, by (with_reducible repeat (first | apply Kd.R_alloc | apply Kd.R_drewN | apply Kd.R_drew)); exact Kd.R_mono HO_8.out (fun _ hk => trivial), lB⟩
  · rw [if_neg c3] at H
    exact absurd H (by simp)

/-! ### impl_RunLined: function 33 -/
def impl_RunLined.f (k : Nat) (l0_0 : List (S86)) (l0_1 : List (S63)) (a1 : Int) : Option (List Int × Int × Int × Bool) := (impl_isLined.f k l0_0 l0_1).bind fun t231 => (if t231 = true then ((impl_in.f a1 0 2000).bind fun t232 => (if t232 = true then ((impl_runLined.f k l0_0 l0_1 a1).bind fun bt233 => (some (bt233.1, bt233.2.1, bt233.2.2.1, bt233.2.2.2))) else (some (([] : List Int), 0, 0, false)))) else (some (([] : List Int), 0, 0, false)))
theorem impl_RunLined.mono : ∀ a0 a1 a2 k, LeO (impl_RunLined.f k a0 a1 a2) (impl_RunLined.f (k + 1) a0 a1 a2) := by
 intro a0 a1 a2 k
 unfold impl_RunLined.f
 repeat' first
   | with_reducible apply impl_isLined.mono
   | with_reducible apply impl_runLined.mono
   | (with_reducible exact LeO.refl _)
   | (with_reducible exact LeO.none _)
   | (with_reducible refine LeO.ite ?_ ?_)
   | (with_reducible refine LeO.bind ?_ (fun _ => ?_))
   | apply impl_isLined.mono
   | apply impl_runLined.mono
   | exact LeO.none _
   | refine LeO.ite ?_ ?_
   | refine LeO.bind ?_ (fun _ => ?_)
set_option maxHeartbeats 8000000 in
set_option maxRecDepth 100000 in
theorem impl_RunLined.calls (k : Nat) (A0_0 : Option Addr) (c0_0 : Nat) (l0_0 : List (S86)) (A0_1 : Option Addr) (c0_1 : Nat) (l0_1 : List (S63)) (a1 : Int) (r1 : List Int) (r2 : Int) (r3 : Int) (r4 : Bool) (w : World) (hr0_0 : Kd.C k86 w A0_0 l0_0.length l0_0) (hc0_0 : l0_0.length ≤ c0_0) (hr0_1 : Kd.C k63 w A0_1 l0_1.length l0_1) (hc0_1 : l0_1.length ≤ c0_1) (h : impl_RunLined.f k l0_0 l0_1 a1 = some (r1, r2, r3, r4)) :
  Calls Try.prog 33 #[.agg #[.slice A0_0 l0_0.length c0_0, .slice A0_1 l0_1.length c0_1], .int .i64 a1] w fun e w' => ∃ v0_ : Value, e = .returned (.tuple #[v0_, .int .i64 r2, .int .i64 r3, .bool r4]) ∧ Kd.R (Kd.int .i64) 3 w' w.heap.size (fun _ => True) v0_ r1 ∧ Below w.heap.size w w' := by
 have hu38 := Try.underlying38
 have HR0_0 := Aside0.mk hr0_0
 have HC0_0 := Aside0.mk hc0_0
 clear hr0_0 hc0_0
 have HR0_1 := Aside0.mk hr0_1
 have HC0_1 := Aside0.mk hc0_1
 clear hr0_1 hc0_1
 have HB := Aside0.mk (Below.refl w.heap.size w)
 have H : ((impl_isLined.f k l0_0 l0_1).bind fun t231 => (if t231 = true then ((impl_in.f a1 0 2000).bind fun t232 => (if t232 = true then ((impl_runLined.f k l0_0 l0_1 a1).bind fun bt233 => (some (bt233.1, bt233.2.1, bt233.2.2.1, bt233.2.2.2))) else (some (([] : List Int), 0, 0, false)))) else (some (([] : List Int), 0, 0, false)))) = some (r1, r2, r3, r4) := h
 clear h
 replace H := lO H
 obtain ⟨t231, A3, H⟩ := H
 by_cases c4 : t231 = true
 ·subst c4
  rw [if_pos rfl] at H
  replace H := lO H
  obtain ⟨t232, A5, H⟩ := H
  by_cases c6 : t232 = true
  ·subst c6
   rw [if_pos rfl] at H
   replace H := Option.bind_eq_some_iff.mp H
   obtain ⟨⟨t233, t236, t237, t238⟩, A70, H⟩ := H
   replace H : (some (t233, t236, t237, t238)) = some (r1, r2, r3, r4) := H
   have A7 := Aside0.mk A70
   clear A70
   simp only [Option.some.injEq, Prod.mk.injEq] at H
   obtain ⟨rfl, rfl, rfl, rfl⟩ := H
   go_enter Try.func33, Try.ntmps33
   go_wp2_with (first | ((with_reducible refine gate_dst (N := 2) rfl ?_); refine bxe 2 #[.slice A0_0 l0_0.length c0_0, .slice A0_1 l0_1.length c0_1] 38 ?_; intro gb230 hg w8 hbox hb; have n0_ := Aside0.mk (below_step lB hb); have n1_ := Aside0.mk (hbox); have n2_ := lG w hg; have n3_ := lG w hg; clear HB; have HB := n0_; have BK230 := n1_; have GW230 := n2_; have GE230 := n3_; clear n0_ n1_ n2_ n3_; clear hb hbox hg; obtain ⟨hcz9_0, hfz9_0, hcz9_1, hfz9_1⟩ := bk2 BK230.out) | ((with_reducible refine gate_callee (f := 54) rfl ?_); refine gl_ (some 9) (Try.func54) #[.agg #[.slice A0_0 l0_0.length c0_0, .slice A0_1 l0_1.length c0_1]] ?_; (with_reducible refine (impl_isLined.calls k _ _ l0_0 _ _ l0_1 true _ ?side1 ?side2 ?side3 ?side4 A3.out).mono ?_); (case side1 => exact lC (Kd.C_below HR0_0.out HB.out)); (case side2 => exact HC0_0.out); (case side3 => exact lC (Kd.C_below HR0_1.out HB.out)); (case side4 => exact HC0_1.out); rintro e w10 ⟨rfl, hb⟩; refine ⟨_, rfl, ?_⟩; have n0_ := Aside0.mk (blk_below (lK BK230.out) hb); have n1_ := Aside0.mk (below_step lB hb); clear BK230; clear HB; have BK230 := n0_; have HB := n1_; clear n0_ n1_; (try clear hb); (try clear hb2); (try clear hk); (try clear hi)) | (go_at_call 58; (with_reducible refine (impl_in.calls a1 0 2000 true _ A5.out).mono ?_); rintro e w' ⟨rfl, ⟨nd, rfl⟩⟩; obtain ⟨hcz11_0, hfz11_0, hcz11_1, hfz11_1⟩ := bk2 BK230.out) | ((with_reducible refine gate_callee (f := 64) rfl ?_); refine gl_ (some 18) (Try.func64) #[.agg #[.slice A0_0 l0_0.length c0_0, .slice A0_1 l0_1.length c0_1], .int .i64 a1] ?_; (with_reducible refine (impl_runLined.calls k _ _ l0_0 _ _ l0_1 a1 t233 t236 t237 t238 _ ?side1 ?side2 ?side3 ?side4 A7.out).mono ?_); (case side1 => repeat (first | exact (Kd.C_below HR0_0.out lB) | (with_reducible refine Kd.C_alloc ?_ _) | (with_reducible refine Kd.C_drewN ?_ _) | (with_reducible refine Kd.C_drew ?_))); (case side2 => exact HC0_0.out); (case side3 => repeat (first | exact (Kd.C_below HR0_1.out lB) | (with_reducible refine Kd.C_alloc ?_ _) | (with_reducible refine Kd.C_drewN ?_ _) | (with_reducible refine Kd.C_drew ?_))); (case side4 => exact HC0_1.out); rintro e w12 ⟨v234, rfl, ho0, hb⟩; refine ⟨_, rfl, ?_⟩; have n0_ := Aside0.mk (Kd.R_lower ho0 (below_size lB)); have n1_ := Aside0.mk (blk_below (lK BK230.out) hb); have n2_ := Aside0.mk (below_step lB hb); clear BK230; clear HB; have HO235 := n0_; have BK230 := n1_; have HB := n2_; clear n0_ n1_ n2_; (try clear hb); (try clear hb2); (try clear hk); (try clear hi); (try clear ho0)))
   refine bodyPost_ret (results_list (rs := [.tmp 4, .tmp 5, .tmp 6, .tmp 7]) rfl (by simp) (.tmp (.tmp (.tmp (.tmp .nil))))) rfl ?_
   exact ⟨_, lE, lR HO235.out, lB⟩
  ·replace c6 := Bool.eq_false_iff.mpr c6
   subst c6
   rw [if_neg (show ¬ (false = true) by decide)] at H
   simp only [Option.some.injEq, Prod.mk.injEq] at H
   obtain ⟨rfl, rfl, rfl, rfl⟩ := H
   go_enter Try.func33, Try.ntmps33
   go_wp2_with (first | ((with_reducible refine gate_dst (N := 2) rfl ?_); refine bxe 2 #[.slice A0_0 l0_0.length c0_0, .slice A0_1 l0_1.length c0_1] 38 ?_; intro gb230 hg w13 hbox hb; have n0_ := Aside0.mk (below_step lB hb); have n1_ := Aside0.mk (hbox); have n2_ := lG w hg; have n3_ := lG w hg; clear HB; have HB := n0_; have BK230 := n1_; have GW230 := n2_; have GE230 := n3_; clear n0_ n1_ n2_ n3_; clear hb hbox hg; obtain ⟨hcz14_0, hfz14_0, hcz14_1, hfz14_1⟩ := bk2 BK230.out) | ((with_reducible refine gate_callee (f := 54) rfl ?_); refine gl_ (some 9) (Try.func54) #[.agg #[.slice A0_0 l0_0.length c0_0, .slice A0_1 l0_1.length c0_1]] ?_; (with_reducible refine (impl_isLined.calls k _ _ l0_0 _ _ l0_1 true _ ?side1 ?side2 ?side3 ?side4 A3.out).mono ?_); (case side1 => exact lC (Kd.C_below HR0_0.out HB.out)); (case side2 => exact HC0_0.out); (case side3 => exact lC (Kd.C_below HR0_1.out HB.out)); (case side4 => exact HC0_1.out); rintro e w15 ⟨rfl, hb⟩; refine ⟨_, rfl, ?_⟩; have n0_ := Aside0.mk (blk_below (lK BK230.out) hb); have n1_ := Aside0.mk (below_step lB hb); clear BK230; clear HB; have BK230 := n0_; have HB := n1_; clear n0_ n1_; (try clear hb); (try clear hb2); (try clear hk); (try clear hi)) | (go_at_call 58; (with_reducible refine (impl_in.calls a1 0 2000 false _ A5.out).mono ?_); rintro e w' ⟨rfl, ⟨nd, rfl⟩⟩))
   refine bodyPost_ret (results_list (rs := [.tmp 4, .tmp 5, .tmp 6, .tmp 7]) rfl (by simp) (.tmp (.tmp (.tmp (.tmp .nil))))) rfl ?_
   exact ⟨_, lE, by first | exact Kd.R_nil _ _ _ _ _ | exact Kd.N_nil _ _ _ _ _ | exact Kd.V_nil _ _ _ _ _ | exact Kd.Q_nil _ _ _ _ _ | exact Kd.S_nil _ _ _ _ _, lB⟩
 ·replace c4 := Bool.eq_false_iff.mpr c4
  subst c4
  rw [if_neg (show ¬ (false = true) by decide)] at H
  simp only [Option.some.injEq, Prod.mk.injEq] at H
  obtain ⟨rfl, rfl, rfl, rfl⟩ := H
  go_enter Try.func33, Try.ntmps33
  go_wp2_with (first | ((with_reducible refine gate_dst (N := 2) rfl ?_); refine bxe 2 #[.slice A0_0 l0_0.length c0_0, .slice A0_1 l0_1.length c0_1] 38 ?_; intro gb230 hg w16 hbox hb; have n0_ := Aside0.mk (below_step lB hb); have n1_ := Aside0.mk (hbox); have n2_ := lG w hg; have n3_ := lG w hg; clear HB; have HB := n0_; have BK230 := n1_; have GW230 := n2_; have GE230 := n3_; clear n0_ n1_ n2_ n3_; clear hb hbox hg; obtain ⟨hcz17_0, hfz17_0, hcz17_1, hfz17_1⟩ := bk2 BK230.out) | ((with_reducible refine gate_callee (f := 54) rfl ?_); refine gl_ (some 9) (Try.func54) #[.agg #[.slice A0_0 l0_0.length c0_0, .slice A0_1 l0_1.length c0_1]] ?_; (with_reducible refine (impl_isLined.calls k _ _ l0_0 _ _ l0_1 false _ ?side1 ?side2 ?side3 ?side4 A3.out).mono ?_); (case side1 => exact lC (Kd.C_below HR0_0.out HB.out)); (case side2 => exact HC0_0.out); (case side3 => exact lC (Kd.C_below HR0_1.out HB.out)); (case side4 => exact HC0_1.out); rintro e w18 ⟨rfl, hb⟩; refine ⟨_, rfl, ?_⟩; have n0_ := Aside0.mk (blk_below (lK BK230.out) hb); have n1_ := Aside0.mk (below_step lB hb); clear BK230; clear HB; have BK230 := n0_; have HB := n1_; clear n0_ n1_; (try clear hb); (try clear hb2); (try clear hk); (try clear hi)))
  refine bodyPost_ret (results_list (rs := [.tmp 4, .tmp 5, .tmp 6, .tmp 7]) rfl (by simp) (.tmp (.tmp (.tmp (.tmp .nil))))) rfl ?_
  exact ⟨_, lE, by first | exact Kd.R_nil _ _ _ _ _ | exact Kd.N_nil _ _ _ _ _ | exact Kd.V_nil _ _ _ _ _ | exact Kd.Q_nil _ _ _ _ _ | exact Kd.S_nil _ _ _ _ _, lB⟩

/-! ### laws_markLStepS: function 65 -/
def laws_markLStepS.l0 : Nat → List (S86) → Int → Int → Option (Int × (List (S86)))
 | 0, _, _, _ => none
 | k + 1, x0, x1, x5 => if x5 < (x0.length : Int) then (if 0 ≤ x5 then ((some (x0.set (x5 : Int).toNat (⟨x1, (rd_T86 x0 x5).f1, (rd_T86 x0 x5).f2⟩ : S86) : List (S86))).bind fun y239 => ((some (y239.set (x5 : Int).toNat (⟨(rd_T86 y239 x5).f0, wrap64 (x1 + 1), (rd_T86 y239 x5).f2⟩ : S86) : List (S86))).bind fun y240 => (laws_markLStepS.l0 k (y240.set (x5 : Int).toNat (⟨(rd_T86 y240 x5).f0, (rd_T86 y240 x5).f1, wrap64 ((wrap64 (x1 + 1)) + 1)⟩ : S86)) (wrap64 ((wrap64 ((wrap64 (x1 + 1)) + 1)) + 1)) (wrap64 (x5 + 1))))) else (none)) else (some (x1, x0))
def laws_markLStepS.f (k : Nat) (l0 : List (S86)) (a1 : Int) : Option (Int × (List (S86))) := laws_markLStepS.l0 k l0 a1 0
theorem laws_markLStepS.mono_l : ∀ k, (∀ y0 y1 y2, LeO (laws_markLStepS.l0 k y0 y1 y2) (laws_markLStepS.l0 (k + 1) y0 y1 y2))
 | 0 => fun _ _ _ r h => by simp [laws_markLStepS.l0] at h
 | k + 1 => by
  have ih0 := laws_markLStepS.mono_l k
  ·intro y0 y1 y2
   unfold laws_markLStepS.l0
   repeat' first
   | with_reducible apply ih0
   | (with_reducible exact LeO.refl _)
   | (with_reducible exact LeO.none _)
   | (with_reducible refine LeO.ite ?_ ?_)
   | (with_reducible refine LeO.bind ?_ (fun _ => ?_))
   | apply ih0
   | exact LeO.none _
   | refine LeO.ite ?_ ?_
   | refine LeO.bind ?_ (fun _ => ?_)
theorem laws_markLStepS.mono : ∀ a0 a1 k, LeO (laws_markLStepS.f k a0 a1) (laws_markLStepS.f (k + 1) a0 a1) := by
 intro a0 a1 k
 have ih0 := laws_markLStepS.mono_l k
 unfold laws_markLStepS.f
 repeat' first
   | with_reducible apply ih0
   | (with_reducible exact LeO.refl _)
   | (with_reducible exact LeO.none _)
   | (with_reducible refine LeO.ite ?_ ?_)
   | (with_reducible refine LeO.bind ?_ (fun _ => ?_))
   | apply ih0
   | exact LeO.none _
   | refine LeO.ite ?_ ?_
   | refine LeO.bind ?_ (fun _ => ?_)
set_option maxHeartbeats 8000000 in
set_option maxRecDepth 100000 in
theorem laws_markLStepS.calls (k : Nat) (P0_ : Nat → Prop) (u9000_ : Value) (l0 : List (S86)) (a1 : Int) (r1 : Int) (r2 : List (S86)) (w0 w : World) (hB : Below w0.heap.size w0 w) (ho0 : Kd.R k86 86 w w0.heap.size P0_ u9000_ l0) (h : laws_markLStepS.f k l0 a1 = some (r1, r2)) :
  Calls Try.prog 65 #[u9000_, .int .i64 a1] w fun e w' => e = .returned (.int .i64 r1) ∧ Kd.R k86 86 w' w0.heap.size (fun k_ => (P0_ k_ ∨ w.heap.size ≤ k_)) u9000_ r2 ∧ Below w0.heap.size w0 w' ∧ Kept w w' (fun k_ => P0_ k_) := by
 have HO0 := Aside0.mk (show Kd.R k86 86 w w0.heap.size (fun k_ => (P0_ k_ ∨ w.heap.size ≤ k_)) u9000_ l0 from Kd.R_mono ho0 (fun k_ hk => (.inl hk)))
 have HK := Aside0.mk (Kept.refl w (fun k_ => P0_ k_))
 have HW0 := Aside0.mk hB.size
 have HB := Aside0.mk hB
 clear hB
 have H : (laws_markLStepS.l0 k l0 a1 0) = some (r1, r2) := h
 clear h
 have H' := Aside0.mk H
 clear H
 go_enter Try.func65, Try.ntmps65
 go_wp2
 go_loopg [1, 5] k (fun kq v1 v5 w' => ∃ (x0_1 : List (S86)) (x1_1 : Int) (x5_1 : Int), v1 = .int .i64 x1_1 ∧ v5 = .int .i64 x5_1 ∧ Aside0 (laws_markLStepS.l0 kq x0_1 x1_1 x5_1 = some (r1, r2)) ∧ Aside0 (kq ≤ k) ∧ Aside0 (Kd.R k86 86 w' w0.heap.size (fun k_ => (P0_ k_ ∨ w.heap.size ≤ k_)) u9000_ x0_1) ∧ Aside0 (Kept w w' (fun k_ => P0_ k_)) ∧ Aside0 (Below w0.heap.size w0 w'))
 case atStart => exact ⟨(l0), (a1), (0), lF, lF, H', ⟨Nat.le_refl _⟩, ⟨lR HO0.out⟩, ⟨by repeat (first | (with_reducible first | exact HK.out | apply Kept.alloc | apply Kept.drewN | apply Kept.drew) | exact HK.out)⟩, ⟨lB⟩⟩
 case round =>
  clear H'
  try clear p2
  obtain ⟨x0_1, x1_1, x5_1, rfl, rfl, HA, HK1, HO_0, HK, HB⟩ := hrel
  cases gk with
  | zero => exact absurd HA.out (by simp [laws_markLStepS.l0])
  | succ k1 =>
   have H := HA.out
   clear HA
   simp only [laws_markLStepS.l0] at H
   by_cases c3 : x5_1 < (x0_1.length : Int)
   ·rw [if_pos c3] at H
    have c3b0 : decide (x5_1 < (x0_1.length : Int)) = true := decide_eq_true c3
    clear c3
    by_cases c4 : 0 ≤ x5_1
    ·rw [if_pos c4] at H
     have c4b0 : decide (0 ≤ x5_1) = true := decide_eq_true c4
     clear c4
     obtain ⟨y239, hy239⟩ : ∃ y_ : List (S86), y_ = (x0_1.set (x5_1 : Int).toNat (⟨x1_1, (rd_T86 x0_1 x5_1).f1, (rd_T86 x0_1 x5_1).f2⟩ : S86)) := ⟨_, rfl⟩
     replace H : ((some (y239.set (x5_1 : Int).toNat (⟨(rd_T86 y239 x5_1).f0, wrap64 (x1_1 + 1), (rd_T86 y239 x5_1).f2⟩ : S86) : List (S86))).bind fun y240 => (laws_markLStepS.l0 k1 (y240.set (x5_1 : Int).toNat (⟨(rd_T86 y240 x5_1).f0, (rd_T86 y240 x5_1).f1, wrap64 ((wrap64 (x1_1 + 1)) + 1)⟩ : S86)) (wrap64 ((wrap64 ((wrap64 (x1_1 + 1)) + 1)) + 1)) (wrap64 (x5_1 + 1)))) = some (r1, r2) := by first | (rw [hy239]; with_reducible exact H) | (have H2_ := (Option.bind_some _ _).symm.trans H; rw [hy239]; with_reducible exact H2_) | (have H2_ := (Option.bind_some _ _).symm.trans H; with_reducible exact H2_) | with_reducible exact H | (rw [hy239]; exact H) | exact H
     have Ny239 := Aside0.mk hy239
     clear hy239
     obtain ⟨y240, hy240⟩ : ∃ y_ : List (S86), y_ = (y239.set (x5_1 : Int).toNat (⟨(rd_T86 y239 x5_1).f0, wrap64 (x1_1 + 1), (rd_T86 y239 x5_1).f2⟩ : S86)) := ⟨_, rfl⟩
     replace H : (laws_markLStepS.l0 k1 (y240.set (x5_1 : Int).toNat (⟨(rd_T86 y240 x5_1).f0, (rd_T86 y240 x5_1).f1, wrap64 ((wrap64 (x1_1 + 1)) + 1)⟩ : S86)) (wrap64 ((wrap64 ((wrap64 (x1_1 + 1)) + 1)) + 1)) (wrap64 (x5_1 + 1))) = some (r1, r2) := by first | (rw [hy240]; with_reducible exact H) | (have H2_ := (Option.bind_some _ _).symm.trans H; rw [hy240]; with_reducible exact H2_) | (have H2_ := (Option.bind_some _ _).symm.trans H; with_reducible exact H2_) | with_reducible exact H | (rw [hy240]; exact H) | exact H
     have Ny240 := Aside0.mk hy240
     clear hy240
     obtain ⟨y241, hy241⟩ : ∃ y_ : List (S86), y_ = (y240.set (x5_1 : Int).toNat (⟨(rd_T86 y240 x5_1).f0, (rd_T86 y240 x5_1).f1, wrap64 ((wrap64 (x1_1 + 1)) + 1)⟩ : S86)) := ⟨_, rfl⟩
     replace H : (laws_markLStepS.l0 k1 y241 (wrap64 ((wrap64 ((wrap64 (x1_1 + 1)) + 1)) + 1)) (wrap64 (x5_1 + 1))) = some (r1, r2) := by first | (rw [hy241]; with_reducible exact H) | (have H2_ := (Option.bind_some _ _).symm.trans H; rw [hy241]; with_reducible exact H2_) | (have H2_ := (Option.bind_some _ _).symm.trans H; with_reducible exact H2_) | with_reducible exact H | (rw [hy241]; exact H) | exact H
     have Ny241 := Aside0.mk hy241
     clear hy241
     have H' := Aside0.mk H
     clear H
     obtain ⟨Ao8, co8, eo8⟩ := Kd.R_slice HO_0.out
     subst eo8
     have p5 : 0 ≤ (x5_1 : Int) := lD
     have q5 : (x5_1 : Int) < ((x0_1.length : Int) : Int) := lD
     obtain ⟨go5, co5, eo5, gb5, gl5, cl5, HG5⟩ := Kd.R_form HO_0.out (by omega)
     (first | cases eo5 | (injection eo5 with ea_ en_ ec_; (first | subst ea_ | (injection ea_ with ea_; subst ea_)); subst ec_; clear en_))
     have GB5 := Aside0.mk gb5
     have GG5 := Aside0.mk HG5
     clear gb5 gl5 HG5
     have HMgo5 := Aside0.mk (show (P0_ go5 ∨ w.heap.size ≤ go5) from (HO_0.out.1 _ rfl))
     obtain ⟨ce5, hcl5, hM5, hcc5, hfr5⟩ := Kd.R_elem HO_0.out z86 (x5_1 : Int) p5 q5
     obtain rfl := k86_openM hM5
     have hx5_0 : wr.cell? ⟨go5, (x5_1 : Int).toNat * 3, none⟩ = some (.int .i64 ((rd_T86 x0_1 x5_1).f0)) := hcc5 0 _ rfl
     have hx5_1 : wr.cell? ⟨go5, (x5_1 : Int).toNat * 3 + 1, none⟩ = some (.int .i64 ((rd_T86 x0_1 x5_1).f1)) := hcc5 1 _ rfl
     have hx5_2 : wr.cell? ⟨go5, (x5_1 : Int).toNat * 3 + 2, none⟩ = some (.int .i64 ((rd_T86 x0_1 x5_1).f2)) := hcc5 2 _ rfl
     have hf5_0 : wr.frozen? ⟨go5, (x5_1 : Int).toNat * 3, none⟩ = false := hfr5 0
     have hf5_1 : wr.frozen? ⟨go5, (x5_1 : Int).toNat * 3 + 1, none⟩ = false := hfr5 1
     have hf5_2 : wr.frozen? ⟨go5, (x5_1 : Int).toNat * 3 + 2, none⟩ = false := hfr5 2
     clear hcl5 hcc5 hfr5; (try clear hM5)
     replace p5 := eq_true p5
     replace q5 := eq_true q5
     have HX9 := Aside0.mk (show Kd.R k86 86 wr w0.heap.size (fun k_ => (P0_ k_ ∨ w.heap.size ≤ k_)) (.slice (some ⟨go5, 0, none⟩) x0_1.length co8) x0_1 from (lR HO_0.out))
     obtain ⟨ce9, hcl9, hM9, hcc9, hfr9⟩ := Kd.R_elem HX9.out z86 (x5_1 : Int) (lD) (by have h_ : (x5_1 : Int) < ((x0_1.length : Int) : Int) := lD; first | exact h_ | (have e_ := (Kd.R_reads' HO_0.out).1; omega) | simpa using h_)
     obtain rfl := k86_openM hM9
     have HP9 := Kd.R_seg HX9.out (x5_1 : Int) (lD) (by have h_ : (x5_1 : Int) < ((x0_1.length : Int) : Int) := lD; first | exact h_ | (have e_ := (Kd.R_reads' HO_0.out).1; omega) | simpa using h_) (seg := [.int .i64 x1_1]) (j := 0) hcl9 hcc9 (show 1 ≤ 3 from by decide) (x' := (⟨x1_1, (rd_T86 x0_1 x5_1).f1, (rd_T86 x0_1 x5_1).f2⟩ : S86)) (k86_mkM _ _ _ (⟨x1_1, (rd_T86 x0_1 x5_1).f1, (rd_T86 x0_1 x5_1).f2⟩ : S86) ) (fun _ hk => hk)
     have hx9_0 := hcc9 0 _ rfl
     (try simp only [show (k86).sz = 3 from rfl, Nat.mul_one, Nat.add_zero] at hx9_0)
     have hf9_0 := hfr9 0
     (try simp only [show (k86).sz = 3 from rfl, Nat.mul_one, Nat.add_zero] at hf9_0)
     clear hcl9 hcc9 hfr9; (try clear hM9)
     go_wp2_with (first | ((with_reducible refine gate_store (t := 3) (p := 16) rfl ?_); refine store_event (t := 3) (p := 16) (v := ?vo_w10) (w1 := (wr.setCell ⟨go5, (x5_1 : Int).toNat * 3, none⟩ (.int .i64 x1_1))) ?hg ?ho ?hn ?hr ?_; (case ho => rfl); (case hg => rfl); (case hn => rfl); (case hr => first | (go_simp; done) | (go_simp; rfl)); intro w10 hw; have hg : wr.grownBy w10 (some go5) := (by rw [hw]; exact HP9.2); have hp_ : Kd.R k86 86 w10 w0.heap.size (fun k_ => (P0_ k_ ∨ w.heap.size ≤ k_)) (.slice (some ⟨go5, 0, none⟩) x0_1.length co8) y239 := (by rw [hw, Ny239.out]; exact HP9.1); clear HP9; have n0_ := Aside0.mk (hp_); have n1_ := Aside0.mk ((by rw [hw]; exact below_set (HB.out) GB5.out : Below w0.heap.size w0 w10)); have n2_ := Aside0.mk (Kept.of_grown (S := (fun k_ => P0_ k_)) hg (by repeat (first | (with_reducible first | exact HK.out | apply Kept.alloc | apply Kept.drewN | apply Kept.drew) | exact HK.out)) (fun k_ e_ => (HO_0.out.1 k_ e_))); clear HO_0; clear HB; clear HK; have HO_0 := n0_; have HB := n1_; have HK := n2_; clear n0_ n1_ n2_; clear hg hw hp_; have p6 : 0 ≤ (x5_1 : Int) := lD; have q6 : (x5_1 : Int) < ((x0_1.length : Int) : Int) := lD; obtain ⟨ce6, hcl6, hM6, hcc6, hfr6⟩ := Kd.R_elem HO_0.out z86 (x5_1 : Int) p6 q6; obtain rfl := k86_openM hM6; have hx6_0 : w10.cell? ⟨go5, (x5_1 : Int).toNat * 3, none⟩ = some (.int .i64 ((rd_T86 y239 x5_1).f0)) := hcc6 0 _ rfl; have hx6_1 : w10.cell? ⟨go5, (x5_1 : Int).toNat * 3 + 1, none⟩ = some (.int .i64 ((rd_T86 y239 x5_1).f1)) := hcc6 1 _ rfl; have hx6_2 : w10.cell? ⟨go5, (x5_1 : Int).toNat * 3 + 2, none⟩ = some (.int .i64 ((rd_T86 y239 x5_1).f2)) := hcc6 2 _ rfl; have hf6_0 : w10.frozen? ⟨go5, (x5_1 : Int).toNat * 3, none⟩ = false := hfr6 0; have hf6_1 : w10.frozen? ⟨go5, (x5_1 : Int).toNat * 3 + 1, none⟩ = false := hfr6 1; have hf6_2 : w10.frozen? ⟨go5, (x5_1 : Int).toNat * 3 + 2, none⟩ = false := hfr6 2; clear hcl6 hcc6 hfr6; (try clear hM6); replace p6 := eq_true p6; replace q6 := eq_true q6; have HX11 := Aside0.mk (show Kd.R k86 86 w10 w0.heap.size (fun k_ => (P0_ k_ ∨ w.heap.size ≤ k_)) (.slice (some ⟨go5, 0, none⟩) x0_1.length co8) y239 from (lR HO_0.out)); obtain ⟨ce11, hcl11, hM11, hcc11, hfr11⟩ := Kd.R_elem HX11.out z86 (x5_1 : Int) (lD) (by have h_ : (x5_1 : Int) < ((x0_1.length : Int) : Int) := lD; first | exact h_ | (have e_ := (Kd.R_reads' HO_0.out).1; omega) | simpa using h_); obtain rfl := k86_openM hM11; have HP11 := Kd.R_seg HX11.out (x5_1 : Int) (lD) (by have h_ : (x5_1 : Int) < ((x0_1.length : Int) : Int) := lD; first | exact h_ | (have e_ := (Kd.R_reads' HO_0.out).1; omega) | simpa using h_) (seg := [.int .i64 (wrap64 (x1_1 + 1))]) (j := 1) hcl11 hcc11 (show 2 ≤ 3 from by decide) (x' := (⟨(rd_T86 y239 x5_1).f0, wrap64 (x1_1 + 1), (rd_T86 y239 x5_1).f2⟩ : S86)) (k86_mkM _ _ _ (⟨(rd_T86 y239 x5_1).f0, wrap64 (x1_1 + 1), (rd_T86 y239 x5_1).f2⟩ : S86) ) (fun _ hk => hk); have hx11_1 := hcc11 1 _ rfl; (try simp only [show (k86).sz = 3 from rfl, Nat.mul_one, Nat.add_zero] at hx11_1); have hf11_1 := hfr11 1; (try simp only [show (k86).sz = 3 from rfl, Nat.mul_one, Nat.add_zero] at hf11_1); clear hcl11 hcc11 hfr11; (try clear hM11)) | ((with_reducible refine gate_store (t := 3) (p := 23) rfl ?_); refine store_event (t := 3) (p := 23) (v := ?vo_w12) (w1 := (w10.setCell ⟨go5, (x5_1 : Int).toNat * 3 + 1, none⟩ (.int .i64 (wrap64 (x1_1 + 1))))) ?hg ?ho ?hn ?hr ?_; (case ho => rfl); (case hg => rfl); (case hn => rfl); (case hr => first | (go_simp; done) | (go_simp; rfl)); intro w12 hw; have hg : w10.grownBy w12 (some go5) := (by rw [hw]; exact HP11.2); have hp_ : Kd.R k86 86 w12 w0.heap.size (fun k_ => (P0_ k_ ∨ w.heap.size ≤ k_)) (.slice (some ⟨go5, 0, none⟩) x0_1.length co8) y240 := (by rw [hw, Ny240.out]; exact HP11.1); clear HP11; have n0_ := Aside0.mk (hp_); have n1_ := Aside0.mk ((by rw [hw]; exact below_set (HB.out) GB5.out : Below w0.heap.size w0 w12)); have n2_ := Aside0.mk (Kept.of_grown (S := (fun k_ => P0_ k_)) hg (by repeat (first | (with_reducible first | exact HK.out | apply Kept.alloc | apply Kept.drewN | apply Kept.drew) | exact HK.out)) (fun k_ e_ => (HO_0.out.1 k_ e_))); clear HO_0; clear HB; clear HK; have HO_0 := n0_; have HB := n1_; have HK := n2_; clear n0_ n1_ n2_; clear hg hw hp_; have p7 : 0 ≤ (x5_1 : Int) := lD; have q7 : (x5_1 : Int) < ((x0_1.length : Int) : Int) := lD; obtain ⟨ce7, hcl7, hM7, hcc7, hfr7⟩ := Kd.R_elem HO_0.out z86 (x5_1 : Int) p7 q7; obtain rfl := k86_openM hM7; have hx7_0 : w12.cell? ⟨go5, (x5_1 : Int).toNat * 3, none⟩ = some (.int .i64 ((rd_T86 y240 x5_1).f0)) := hcc7 0 _ rfl; have hx7_1 : w12.cell? ⟨go5, (x5_1 : Int).toNat * 3 + 1, none⟩ = some (.int .i64 ((rd_T86 y240 x5_1).f1)) := hcc7 1 _ rfl; have hx7_2 : w12.cell? ⟨go5, (x5_1 : Int).toNat * 3 + 2, none⟩ = some (.int .i64 ((rd_T86 y240 x5_1).f2)) := hcc7 2 _ rfl; have hf7_0 : w12.frozen? ⟨go5, (x5_1 : Int).toNat * 3, none⟩ = false := hfr7 0; have hf7_1 : w12.frozen? ⟨go5, (x5_1 : Int).toNat * 3 + 1, none⟩ = false := hfr7 1; have hf7_2 : w12.frozen? ⟨go5, (x5_1 : Int).toNat * 3 + 2, none⟩ = false := hfr7 2; clear hcl7 hcc7 hfr7; (try clear hM7); replace p7 := eq_true p7; replace q7 := eq_true q7; have HX13 := Aside0.mk (show Kd.R k86 86 w12 w0.heap.size (fun k_ => (P0_ k_ ∨ w.heap.size ≤ k_)) (.slice (some ⟨go5, 0, none⟩) x0_1.length co8) y240 from (lR HO_0.out)); obtain ⟨ce13, hcl13, hM13, hcc13, hfr13⟩ := Kd.R_elem HX13.out z86 (x5_1 : Int) (lD) (by have h_ : (x5_1 : Int) < ((x0_1.length : Int) : Int) := lD; first | exact h_ | (have e_ := (Kd.R_reads' HO_0.out).1; omega) | simpa using h_); obtain rfl := k86_openM hM13; have HP13 := Kd.R_seg HX13.out (x5_1 : Int) (lD) (by have h_ : (x5_1 : Int) < ((x0_1.length : Int) : Int) := lD; first | exact h_ | (have e_ := (Kd.R_reads' HO_0.out).1; omega) | simpa using h_) (seg := [.int .i64 (wrap64 ((wrap64 (x1_1 + 1)) + 1))]) (j := 2) hcl13 hcc13 (show 3 ≤ 3 from by decide) (x' := (⟨(rd_T86 y240 x5_1).f0, (rd_T86 y240 x5_1).f1, wrap64 ((wrap64 (x1_1 + 1)) + 1)⟩ : S86)) (k86_mkM _ _ _ (⟨(rd_T86 y240 x5_1).f0, (rd_T86 y240 x5_1).f1, wrap64 ((wrap64 (x1_1 + 1)) + 1)⟩ : S86) ) (fun _ hk => hk); have hx13_2 := hcc13 2 _ rfl; (try simp only [show (k86).sz = 3 from rfl, Nat.mul_one, Nat.add_zero] at hx13_2); have hf13_2 := hfr13 2; (try simp only [show (k86).sz = 3 from rfl, Nat.mul_one, Nat.add_zero] at hf13_2); clear hcl13 hcc13 hfr13; (try clear hM13)) | ((with_reducible refine gate_store (t := 3) (p := 30) rfl ?_); refine store_event (t := 3) (p := 30) (v := ?vo_w14) (w1 := (w12.setCell ⟨go5, (x5_1 : Int).toNat * 3 + 2, none⟩ (.int .i64 (wrap64 ((wrap64 (x1_1 + 1)) + 1))))) ?hg ?ho ?hn ?hr ?_; (case ho => rfl); (case hg => rfl); (case hn => rfl); (case hr => first | (go_simp; done) | (go_simp; rfl)); intro w14 hw; have hg : w12.grownBy w14 (some go5) := (by rw [hw]; exact HP13.2); have hp_ : Kd.R k86 86 w14 w0.heap.size (fun k_ => (P0_ k_ ∨ w.heap.size ≤ k_)) (.slice (some ⟨go5, 0, none⟩) x0_1.length co8) y241 := (by rw [hw, Ny241.out]; exact HP13.1); clear HP13; have n0_ := Aside0.mk (hp_); have n1_ := Aside0.mk ((by rw [hw]; exact below_set (HB.out) GB5.out : Below w0.heap.size w0 w14)); have n2_ := Aside0.mk (Kept.of_grown (S := (fun k_ => P0_ k_)) hg (by repeat (first | (with_reducible first | exact HK.out | apply Kept.alloc | apply Kept.drewN | apply Kept.drew) | exact HK.out)) (fun k_ e_ => (HO_0.out.1 k_ e_))); clear HO_0; clear HB; clear HK; have HO_0 := n0_; have HB := n1_; have HK := n2_; clear n0_ n1_ n2_; clear hg hw hp_))
     go_roundg k1
     case measure => have := HK1.out; omega
     case rel => exact ⟨(y241), (wrap64 ((wrap64 ((wrap64 (x1_1 + 1)) + 1)) + 1)), (wrap64 (x5_1 + 1)), lF, lF, H', ⟨by have := HK1.out; omega⟩, ⟨lR HO_0.out⟩, ⟨by repeat (first | (with_reducible first | exact HK.out | apply Kept.alloc | apply Kept.drewN | apply Kept.drew) | exact HK.out)⟩, ⟨lB⟩⟩
    ·rw [if_neg c4] at H
     exact absurd H (by simp)
   ·rw [if_neg c3] at H
    have c3b0 : decide (x5_1 < (x0_1.length : Int)) = false := decide_eq_false c3
    clear c3
    simp only [Option.some.injEq, Prod.mk.injEq] at H
    obtain ⟨rfl, rfl⟩ := H
    obtain ⟨Ao15, co15, eo15⟩ := Kd.R_slice HO_0.out
    subst eo15
    first | (go_wp2; go_ret; exact ⟨lE, lR HO_0.out, lB, by repeat (first | (with_reducible first | exact HK.out | apply Kept.alloc | apply Kept.drewN | apply Kept.drew) | exact HK.out)⟩) | (exfalso; simp only [decide_eq_false_iff_not, decide_eq_true_eq] at *; omega)

end Go.Proofs.Ytgjojppbichaiaa.Q
