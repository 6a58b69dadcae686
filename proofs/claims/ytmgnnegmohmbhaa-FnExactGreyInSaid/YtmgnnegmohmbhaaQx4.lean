-- Written by the program wip/tools/pr.py of this claim's session, over the kit's print.py.
import Derived.Test.YtmgnnegmohmbhaaQx0
import Derived.Test.YtmgnnegmohmbhaaQx2
import Derived.Test.YtmgnnegmohmbhaaQx3
namespace Go.Proofs.Ytmgnnegmohmbhaa.Q
open Go.RowKit Go.Proofs.YtmgnnegmohmbhaaW.PrintWords Go.Proofs.YtmgnnegmohmbhaaW.PrintLast Go.Proofs.YtmgnnegmohmbhaaW.PrintMore
attribute [local go_sem] max2_int min2_int max_two min_two max_three min_three max_four min_four   -- for this text's walks alone
set_option linter.unusedVariables false
set_option linter.unusedSimpArgs false

/-! ### spec_GoodMarker: function 13 -/
mutual
def spec_GoodMarker.j0 : Nat → Bool → List (S44) → List Int → Bool → Option (Bool)
  | 0, _, _, _, _ => none
  | k + 1, x19, x156000, x156001, x156002 => if x19 = true then (some false) else (spec_GoodMarker.l0 k x156000 (x156000.length : Int) 0 x156000 x156001 x156002)
def spec_GoodMarker.l0 : Nat → List (S44) → Int → Int → List (S44) → List Int → Bool → Option (Bool)
  | 0, _, _, _, _, _, _ => none
  | k + 1, x21, x22, x23, x156000, x156001, x156002 => if x23 < x22 then (if 0 ≤ x23 then (if x23 < (x21.length : Int) then (if (((rd_T44 x21 x23).f0).length : Int) = 2 then ((spec_l1In.f ((rd_T44 x21 x23).f1) 0 2).bind fun t159 => (if t159 = true then (if (rd_T44 x21 x23).f2 = true then (spec_GoodMarker.j2 k x21 x22 x23 (((rd_T44 x21 x23).f1) != 0) x156000 x156001 x156002 ((rd_T44 x21 x23).f0) ((rd_T44 x21 x23).f1) ((rd_T44 x21 x23).f2)) else (if x156002 = true then (spec_GoodMarker.j2 k x21 x22 x23 false x156000 x156001 x156002 ((rd_T44 x21 x23).f0) ((rd_T44 x21 x23).f1) ((rd_T44 x21 x23).f2)) else (spec_GoodMarker.j2 k x21 x22 x23 (((rd_T44 x21 x23).f1) != 0) x156000 x156001 x156002 ((rd_T44 x21 x23).f0) ((rd_T44 x21 x23).f1) ((rd_T44 x21 x23).f2)))) else (spec_GoodMarker.j2 k x21 x22 x23 true x156000 x156001 x156002 ((rd_T44 x21 x23).f0) ((rd_T44 x21 x23).f1) ((rd_T44 x21 x23).f2)))) else (spec_GoodMarker.j2 k x21 x22 x23 true x156000 x156001 x156002 ((rd_T44 x21 x23).f0) ((rd_T44 x21 x23).f1) ((rd_T44 x21 x23).f2))) else (none)) else (none)) else (spec_GoodMarker.l2 k x156001 (x156001.length : Int) 0 x156000 x156001 x156002)
def spec_GoodMarker.j2 : Nat → List (S44) → Int → Int → Bool → List (S44) → List Int → Bool → List Int → Int → Bool → Option (Bool)
  | 0, _, _, _, _, _, _, _, _, _, _ => none
  | k + 1, x21, x22, x23, x50, x156000, x156001, x156002, x159000, x159001, x159002 => if x50 = true then (some false) else (spec_GoodMarker.l1 k x21 x22 x23 x159000 (x159000.length : Int) 0 x156000 x156001 x156002 x159000 x159001 x159002)
def spec_GoodMarker.l1 : Nat → List (S44) → Int → Int → List Int → Int → Int → List (S44) → List Int → Bool → List Int → Int → Bool → Option (Bool)
  | 0, _, _, _, _, _, _, _, _, _, _, _, _ => none
  | k + 1, x21, x22, x23, x52, x53, x54, x156000, x156001, x156002, x159000, x159001, x159002 => if x54 < x53 then (if 0 ≤ x54 then (if x54 < (x52.length : Int) then ((spec_l15Cell.f x156000 x156001 x156002 (rd x52 x54)).bind fun t161 => (if t161 = true then (if x159002 = true then (if (rd x52 x54) = (-1) then (if x159001 = 2 then ((spec_l15Color.f x156000 x156001 x156002 (rd x52 x54)).bind fun t162 => (if t162 = 0 then (some false) else (spec_GoodMarker.l1 k x21 x22 x23 x52 x53 (wrap64 (x54 + 1)) x156000 x156001 x156002 x159000 x159001 x159002))) else (spec_GoodMarker.l1 k x21 x22 x23 x52 x53 (wrap64 (x54 + 1)) x156000 x156001 x156002 x159000 x159001 x159002)) else (some false)) else (if x159001 = 2 then ((spec_l15Color.f x156000 x156001 x156002 (rd x52 x54)).bind fun t163 => (if t163 = 0 then (some false) else (spec_GoodMarker.l1 k x21 x22 x23 x52 x53 (wrap64 (x54 + 1)) x156000 x156001 x156002 x159000 x159001 x159002))) else (spec_GoodMarker.l1 k x21 x22 x23 x52 x53 (wrap64 (x54 + 1)) x156000 x156001 x156002 x159000 x159001 x159002))) else (some false))) else (none)) else (none)) else (spec_GoodMarker.l0 k x21 x22 (wrap64 (x23 + 1)) x156000 x156001 x156002)
def spec_GoodMarker.l2 : Nat → List Int → Int → Int → List (S44) → List Int → Bool → Option (Bool)
  | 0, _, _, _, _, _, _ => none
  | k + 1, x84, x85, x86, x156000, x156001, x156002 => if x86 < x85 then (if 0 ≤ x86 then (if x86 < (x84.length : Int) then ((spec_l15Cell.f x156000 x156001 x156002 (rd x84 x86)).bind fun t165 => (if t165 = true then (if x156002 = true then ((spec_l15Color.f x156000 x156001 x156002 (rd x84 x86)).bind fun t166 => (if t166 = 0 then (some false) else (spec_GoodMarker.l2 k x84 x85 (wrap64 (x86 + 1)) x156000 x156001 x156002))) else (spec_GoodMarker.l2 k x84 x85 (wrap64 (x86 + 1)) x156000 x156001 x156002)) else (some false))) else (none)) else (none)) else (some true)
end
def spec_GoodMarker.f (k : Nat) (l0_0 : List (S44)) (l0_1 : List Int) (a0_2 : Bool) : Option (Bool) := (spec_l1In.f (l0_0.length : Int) 2 10).bind fun t156 => (if t156 = true then (spec_GoodMarker.j0 k ((l0_1.length : Int) != 2) l0_0 l0_1 a0_2) else (spec_GoodMarker.j0 k true l0_0 l0_1 a0_2))
theorem spec_GoodMarker.mono_l : ∀ k, (∀ y0 y1 y2 y3, LeO (spec_GoodMarker.j0 k y0 y1 y2 y3) (spec_GoodMarker.j0 (k + 1) y0 y1 y2 y3)) ∧ (∀ y0 y1 y2 y3 y4 y5, LeO (spec_GoodMarker.l0 k y0 y1 y2 y3 y4 y5) (spec_GoodMarker.l0 (k + 1) y0 y1 y2 y3 y4 y5)) ∧ (∀ y0 y1 y2 y3 y4 y5 y6 y7 y8 y9, LeO (spec_GoodMarker.j2 k y0 y1 y2 y3 y4 y5 y6 y7 y8 y9) (spec_GoodMarker.j2 (k + 1) y0 y1 y2 y3 y4 y5 y6 y7 y8 y9)) ∧ (∀ y0 y1 y2 y3 y4 y5 y6 y7 y8 y9 y10 y11, LeO (spec_GoodMarker.l1 k y0 y1 y2 y3 y4 y5 y6 y7 y8 y9 y10 y11) (spec_GoodMarker.l1 (k + 1) y0 y1 y2 y3 y4 y5 y6 y7 y8 y9 y10 y11)) ∧ (∀ y0 y1 y2 y3 y4 y5, LeO (spec_GoodMarker.l2 k y0 y1 y2 y3 y4 y5) (spec_GoodMarker.l2 (k + 1) y0 y1 y2 y3 y4 y5))
  | 0 => ⟨fun _ _ _ _ r h => by simp [spec_GoodMarker.j0] at h, fun _ _ _ _ _ _ r h => by simp [spec_GoodMarker.l0] at h, fun _ _ _ _ _ _ _ _ _ _ r h => by simp [spec_GoodMarker.j2] at h, fun _ _ _ _ _ _ _ _ _ _ _ _ r h => by simp [spec_GoodMarker.l1] at h, fun _ _ _ _ _ _ r h => by simp [spec_GoodMarker.l2] at h⟩
  | k + 1 => by
    obtain ⟨ih0, ih1, ih2, ih3, ih4⟩ := spec_GoodMarker.mono_l k
    refine ⟨?_, ?_, ?_, ?_, ?_⟩
    · intro y0 y1 y2 y3
      unfold spec_GoodMarker.j0
      repeat' first
      | (with_reducible exact ih0 _ _ _ _)
      | (with_reducible exact ih1 _ _ _ _ _ _)
      | (with_reducible exact ih2 _ _ _ _ _ _ _ _ _ _)
      | (with_reducible exact ih3 _ _ _ _ _ _ _ _ _ _ _ _)
      | (with_reducible exact ih4 _ _ _ _ _ _)
      | (with_reducible exact LeO.refl _)
      | (with_reducible exact LeO.none _)
      | (with_reducible refine LeO.ite ?_ ?_)
      | (with_reducible refine LeO.bind ?_ (fun _ => ?_))
      | exact ih0 _ _ _ _
      | exact ih1 _ _ _ _ _ _
      | exact ih2 _ _ _ _ _ _ _ _ _ _
      | exact ih3 _ _ _ _ _ _ _ _ _ _ _ _
      | exact ih4 _ _ _ _ _ _
      | exact LeO.none _
      | refine LeO.ite ?_ ?_
      | refine LeO.bind ?_ (fun _ => ?_)
    · intro y0 y1 y2 y3 y4 y5
      unfold spec_GoodMarker.l0
      repeat' first
      | (with_reducible exact ih0 _ _ _ _)
      | (with_reducible exact ih1 _ _ _ _ _ _)
      | (with_reducible exact ih2 _ _ _ _ _ _ _ _ _ _)
      | (with_reducible exact ih3 _ _ _ _ _ _ _ _ _ _ _ _)
      | (with_reducible exact ih4 _ _ _ _ _ _)
      | (with_reducible exact LeO.refl _)
      | (with_reducible exact LeO.none _)
      | (with_reducible refine LeO.ite ?_ ?_)
      | (with_reducible refine LeO.bind ?_ (fun _ => ?_))
      | exact ih0 _ _ _ _
      | exact ih1 _ _ _ _ _ _
      | exact ih2 _ _ _ _ _ _ _ _ _ _
      | exact ih3 _ _ _ _ _ _ _ _ _ _ _ _
      | exact ih4 _ _ _ _ _ _
      | exact LeO.none _
      | refine LeO.ite ?_ ?_
      | refine LeO.bind ?_ (fun _ => ?_)
    · intro y0 y1 y2 y3 y4 y5 y6 y7 y8 y9
      unfold spec_GoodMarker.j2
      repeat' first
      | (with_reducible exact ih0 _ _ _ _)
      | (with_reducible exact ih1 _ _ _ _ _ _)
      | (with_reducible exact ih2 _ _ _ _ _ _ _ _ _ _)
      | (with_reducible exact ih3 _ _ _ _ _ _ _ _ _ _ _ _)
      | (with_reducible exact ih4 _ _ _ _ _ _)
      | (with_reducible exact LeO.refl _)
      | (with_reducible exact LeO.none _)
      | (with_reducible refine LeO.ite ?_ ?_)
      | (with_reducible refine LeO.bind ?_ (fun _ => ?_))
      | exact ih0 _ _ _ _
      | exact ih1 _ _ _ _ _ _
      | exact ih2 _ _ _ _ _ _ _ _ _ _
      | exact ih3 _ _ _ _ _ _ _ _ _ _ _ _
      | exact ih4 _ _ _ _ _ _
      | exact LeO.none _
      | refine LeO.ite ?_ ?_
      | refine LeO.bind ?_ (fun _ => ?_)
    · intro y0 y1 y2 y3 y4 y5 y6 y7 y8 y9 y10 y11
      unfold spec_GoodMarker.l1
      repeat' first
      | (with_reducible exact ih0 _ _ _ _)
      | (with_reducible exact ih1 _ _ _ _ _ _)
      | (with_reducible exact ih2 _ _ _ _ _ _ _ _ _ _)
      | (with_reducible exact ih3 _ _ _ _ _ _ _ _ _ _ _ _)
      | (with_reducible exact ih4 _ _ _ _ _ _)
      | (with_reducible exact LeO.refl _)
      | (with_reducible exact LeO.none _)
      | (with_reducible refine LeO.ite ?_ ?_)
      | (with_reducible refine LeO.bind ?_ (fun _ => ?_))
      | exact ih0 _ _ _ _
      | exact ih1 _ _ _ _ _ _
      | exact ih2 _ _ _ _ _ _ _ _ _ _
      | exact ih3 _ _ _ _ _ _ _ _ _ _ _ _
      | exact ih4 _ _ _ _ _ _
      | exact LeO.none _
      | refine LeO.ite ?_ ?_
      | refine LeO.bind ?_ (fun _ => ?_)
    · intro y0 y1 y2 y3 y4 y5
      unfold spec_GoodMarker.l2
      repeat' first
      | (with_reducible exact ih0 _ _ _ _)
      | (with_reducible exact ih1 _ _ _ _ _ _)
      | (with_reducible exact ih2 _ _ _ _ _ _ _ _ _ _)
      | (with_reducible exact ih3 _ _ _ _ _ _ _ _ _ _ _ _)
      | (with_reducible exact ih4 _ _ _ _ _ _)
      | (with_reducible exact LeO.refl _)
      | (with_reducible exact LeO.none _)
      | (with_reducible refine LeO.ite ?_ ?_)
      | (with_reducible refine LeO.bind ?_ (fun _ => ?_))
      | exact ih0 _ _ _ _
      | exact ih1 _ _ _ _ _ _
      | exact ih2 _ _ _ _ _ _ _ _ _ _
      | exact ih3 _ _ _ _ _ _ _ _ _ _ _ _
      | exact ih4 _ _ _ _ _ _
      | exact LeO.none _
      | refine LeO.ite ?_ ?_
      | refine LeO.bind ?_ (fun _ => ?_)
theorem spec_GoodMarker.mono : ∀ a0 a1 a2 k, LeO (spec_GoodMarker.f k a0 a1 a2) (spec_GoodMarker.f (k + 1) a0 a1 a2) := by
  intro a0 a1 a2 k
  obtain ⟨ih0, ih1, ih2, ih3, ih4⟩ := spec_GoodMarker.mono_l k
  unfold spec_GoodMarker.f
  repeat' first
      | (with_reducible exact ih0 _ _ _ _)
      | (with_reducible exact ih1 _ _ _ _ _ _)
      | (with_reducible exact ih2 _ _ _ _ _ _ _ _ _ _)
      | (with_reducible exact ih3 _ _ _ _ _ _ _ _ _ _ _ _)
      | (with_reducible exact ih4 _ _ _ _ _ _)
      | (with_reducible exact LeO.refl _)
      | (with_reducible exact LeO.none _)
      | (with_reducible refine LeO.ite ?_ ?_)
      | (with_reducible refine LeO.bind ?_ (fun _ => ?_))
      | exact ih0 _ _ _ _
      | exact ih1 _ _ _ _ _ _
      | exact ih2 _ _ _ _ _ _ _ _ _ _
      | exact ih3 _ _ _ _ _ _ _ _ _ _ _ _
      | exact ih4 _ _ _ _ _ _
      | exact LeO.none _
      | refine LeO.ite ?_ ?_
      | refine LeO.bind ?_ (fun _ => ?_)
set_option maxHeartbeats 8000000 in
set_option maxRecDepth 100000 in
theorem spec_GoodMarker.calls (k : Nat) (A0_0 : Option Addr) (c0_0 : Nat) (l0_0 : List (S44)) (A0_1 : Option Addr) (c0_1 : Nat) (l0_1 : List Int) (a0_2 : Bool) (r : Bool) (w : World) (hr0_0 : Kd.C k44 w A0_0 l0_0.length l0_0) (hc0_0 : l0_0.length ≤ c0_0) (hr0_1 : Kd.C (Kd.int .i64) w A0_1 l0_1.length l0_1) (hc0_1 : l0_1.length ≤ c0_1) (h : spec_GoodMarker.f k l0_0 l0_1 a0_2 = some r) :
    Calls Try.prog 13 #[.agg #[.slice A0_0 l0_0.length c0_0, .slice A0_1 l0_1.length c0_1, .bool a0_2]] w fun e w' => e = .returned (.bool r) ∧ Below w.heap.size w w' := by
  have hu25 := Try.underlying25
  have hu44 := Try.underlying44
  have HR0_0 := Aside0.mk hr0_0
  have HC0_0 := Aside0.mk hc0_0
  clear hr0_0 hc0_0
  have HR0_1 := Aside0.mk hr0_1
  have HC0_1 := Aside0.mk hc0_1
  clear hr0_1 hc0_1
  have HB := Aside0.mk (Below.refl w.heap.size w)
  have H : ((spec_l1In.f (l0_0.length : Int) 2 10).bind fun t156 => (if t156 = true then (spec_GoodMarker.j0 k ((l0_1.length : Int) != 2) l0_0 l0_1 a0_2) else (spec_GoodMarker.j0 k true l0_0 l0_1 a0_2))) = some r := h
  clear h
  have HC2 := Aside0.mk H
  clear H
  go_enter Try.func13, Try.ntmps13
  go_upto_region 1 with (first | ((with_reducible refine gate_dst (N := 1) rfl ?_); (try (refine gate_guard (by rfl) ?_; dsimp only)); refine box_event ?hg (N := 1) ?hd (cs := #[.slice A0_0 l0_0.length c0_0, .slice A0_1 l0_1.length c0_1, .bool a0_2]) (t := 25) ?hr ?_; (case hd => rfl); (case hg => rfl); (case hr => first | (go_simp; done) | (go_simp; rfl)); intro gb155 hg w3 hbox hb; have n0_ := Aside0.mk (below_step (by repeat (first | (with_reducible first | exact HB.out | apply below_alloc | apply pw_below_drewN | apply below_drew1) | exact HB.out)) hb); have n1_ := Aside0.mk (hbox); have n2_ := Aside0.mk ((by rw [hg]; exact (below_size (by repeat (first | (with_reducible first | exact HB.out | apply below_alloc | apply pw_below_drewN | apply below_drew1) | exact HB.out))) : w.heap.size ≤ gb155)); have n3_ := Aside0.mk ((by rw [hg]; exact (below_size (by repeat (first | (with_reducible first | exact HB.out | apply below_alloc | apply pw_below_drewN | apply below_drew1) | exact HB.out))) : w.heap.size ≤ gb155)); clear HB; have HB := n0_; have BK155 := n1_; have GW155 := n2_; have GE155 := n3_; clear n0_ n1_ n2_ n3_; clear hb hbox hg))
  (try simp only [Act.put, List.setIfInBounds_toArray, List.set_cons_zero, List.set_cons_succ])
  go_cut [19] (fun v19 wc => ∃ (kq : Nat) (x19_1 : Bool), v19 = .bool x19_1 ∧ Aside0 (spec_GoodMarker.j0 kq x19_1 l0_0 l0_1 a0_2 = some r) ∧ Aside0 (kq ≤ k) ∧ Aside0 (wc.heap[gb155]? = some (.cells #[(.slice A0_0 l0_0.length c0_0), (.slice A0_1 l0_1.length c0_1), .bool a0_2] 25 (0, 0))) ∧ Aside0 (Below w.heap.size w wc))
  case first =>
    have H := HC2.out
    clear HC2
    replace H := Option.bind_eq_some_iff.mp H
    obtain ⟨t156, A40, H⟩ := H
    replace H : (if t156 = true then (spec_GoodMarker.j0 k ((l0_1.length : Int) != 2) l0_0 l0_1 a0_2) else (spec_GoodMarker.j0 k true l0_0 l0_1 a0_2)) = some r := H
    have A4 := Aside0.mk A40
    clear A40
    by_cases c5 : t156 = true
    · subst c5
      have H1 : (spec_GoodMarker.j0 k ((l0_1.length : Int) != 2) l0_0 l0_1 a0_2) = some r := by rw [if_pos rfl] at H; exact H
      clear H
      have H := H1
      clear H1
      have H' := Aside0.mk H
      clear H
      have hcz6_0 : w3.cell? ⟨gb155, 0, none⟩ = some (.slice A0_0 l0_0.length c0_0) := (blk_cell BK155.out 0).trans rfl
      have hcz6_1 : w3.cell? ⟨gb155, 1, none⟩ = some (.slice A0_1 l0_1.length c0_1) := (blk_cell BK155.out 1).trans rfl
      have hcz6_2 : w3.cell? ⟨gb155, 2, none⟩ = some (.bool a0_2) := (blk_cell BK155.out 2).trans rfl
      have hfz6_0 := blk_frozen BK155.out 0
      have hfz6_1 := blk_frozen BK155.out 1
      have hfz6_2 := blk_frozen BK155.out 2
      go_wp2_with (first | ((with_reducible refine gate_callee (f := 23) rfl ?_); refine goesL_ (some 12) rfl rfl Try.func23 (by kernel_rfl) rfl #[.int .i64 (l0_0.length : Int), .int .i64 2, .int .i64 10] rfl (by (try simp only [List.map_toArray, List.map_cons, List.map_nil]); first | done | rfl | (simp only [List.length_drop, List.length_take]; rfl)) ?_; (with_reducible refine (spec_l1In.calls (l0_0.length : Int) 2 10 true _ A4.out).mono ?_); rintro e w' ⟨rfl, ⟨nd, rfl⟩⟩; refine ⟨_, rfl, ?_⟩))
      go_meet
      case rel => exact ⟨_, (((l0_1.length : Int) != 2)), (by first | rfl | (simp; done) | (simp [*]; done)), H', ⟨by first | omega | exact Nat.le_refl _⟩, ⟨by (with_reducible repeat (first | refine blk_drewN ?_ _ | refine blk_drew ?_ | refine blk_alloc ?_ _)); exact BK155.out⟩, ⟨by repeat (first | (with_reducible first | exact HB.out | apply below_alloc | apply pw_below_drewN | apply below_drew1 | refine below_set ?_ GE155.out) | exact HB.out)⟩⟩
    · replace c5 := Bool.eq_false_iff.mpr c5
      subst c5
      have H1 : (spec_GoodMarker.j0 k true l0_0 l0_1 a0_2) = some r := by rw [if_neg (show ¬ (false = true) by decide)] at H; exact H
      clear H
      have H := H1
      clear H1
      have H' := Aside0.mk H
      clear H
      have hcz7_0 : w3.cell? ⟨gb155, 0, none⟩ = some (.slice A0_0 l0_0.length c0_0) := (blk_cell BK155.out 0).trans rfl
      have hcz7_1 : w3.cell? ⟨gb155, 1, none⟩ = some (.slice A0_1 l0_1.length c0_1) := (blk_cell BK155.out 1).trans rfl
      have hcz7_2 : w3.cell? ⟨gb155, 2, none⟩ = some (.bool a0_2) := (blk_cell BK155.out 2).trans rfl
      have hfz7_0 := blk_frozen BK155.out 0
      have hfz7_1 := blk_frozen BK155.out 1
      have hfz7_2 := blk_frozen BK155.out 2
      go_wp2_with (first | ((with_reducible refine gate_callee (f := 23) rfl ?_); refine goesL_ (some 12) rfl rfl Try.func23 (by kernel_rfl) rfl #[.int .i64 (l0_0.length : Int), .int .i64 2, .int .i64 10] rfl (by (try simp only [List.map_toArray, List.map_cons, List.map_nil]); first | done | rfl | (simp only [List.length_drop, List.length_take]; rfl)) ?_; (with_reducible refine (spec_l1In.calls (l0_0.length : Int) 2 10 false _ A4.out).mono ?_); rintro e w' ⟨rfl, ⟨nd, rfl⟩⟩; refine ⟨_, rfl, ?_⟩))
      go_meet
      case rel => exact ⟨_, (true), (by first | rfl | (simp; done) | (simp [*]; done)), H', ⟨by first | omega | exact Nat.le_refl _⟩, ⟨by (with_reducible repeat (first | refine blk_drewN ?_ _ | refine blk_drew ?_ | refine blk_alloc ?_ _)); exact BK155.out⟩, ⟨by repeat (first | (with_reducible first | exact HB.out | apply below_alloc | apply pw_below_drewN | apply below_drew1 | refine below_set ?_ GE155.out) | exact HB.out)⟩⟩
  case rest =>
    clear HC2
    try clear c1
    try clear c2
    try clear p2
    try clear c5
    try clear hcz6_0
    try clear hcz6_1
    try clear hcz6_2
    try clear hcz7_0
    try clear hcz7_1
    try clear hcz7_2
    try clear hfz6_0
    try clear hfz6_1
    try clear hfz6_2
    try clear hfz7_0
    try clear hfz7_1
    try clear hfz7_2
    obtain ⟨kq, x19_1, rfl, HA, HJ1, BK155, HB⟩ := hcut
    cases kq with
    | zero => exact absurd HA.out (by simp [spec_GoodMarker.j0])
    | succ kj1 =>
      have H := HA.out
      clear HA
      simp only [spec_GoodMarker.j0] at H
      by_cases c8 : x19_1 = true
      · subst c8
        have H1 : (some false) = some r := by rw [if_pos rfl] at H; exact H
        clear H
        have H := H1
        clear H1
        obtain rfl := Option.some.inj H
        first | (go_wp2; go_ret; exact ⟨by first | rfl | (simp [errW_none, errW_some] <;> rfl) | (simp [*, errW_none, errW_some] <;> rfl), by repeat (first | (with_reducible first | exact HB.out | apply below_alloc | apply pw_below_drewN | apply below_drew1 | refine below_set ?_ GE155.out) | exact HB.out)⟩) | (exfalso; simp only [decide_eq_false_iff_not, decide_eq_true_eq] at *; omega)
      · replace c8 := Bool.eq_false_iff.mpr c8
        subst c8
        have H1 : (spec_GoodMarker.l0 kj1 l0_0 (l0_0.length : Int) 0 l0_0 l0_1 a0_2) = some r := by rw [if_neg (show ¬ (false = true) by decide)] at H; exact H
        clear H
        have H := H1
        clear H1
        have H' := Aside0.mk H
        clear H
        have hcz9_0 : wc.cell? ⟨gb155, 0, none⟩ = some (.slice A0_0 l0_0.length c0_0) := (blk_cell BK155.out 0).trans rfl
        have hcz9_1 : wc.cell? ⟨gb155, 1, none⟩ = some (.slice A0_1 l0_1.length c0_1) := (blk_cell BK155.out 1).trans rfl
        have hcz9_2 : wc.cell? ⟨gb155, 2, none⟩ = some (.bool a0_2) := (blk_cell BK155.out 2).trans rfl
        have hfz9_0 := blk_frozen BK155.out 0
        have hfz9_1 := blk_frozen BK155.out 1
        have hfz9_2 := blk_frozen BK155.out 2
        go_wp2
        go_loopg [23] kj1 (fun kq v23 w' => ∃ (x23_2 : Int), v23 = .int .i64 x23_2 ∧ Aside0 (spec_GoodMarker.l0 kq l0_0 (l0_0.length : Int) x23_2 l0_0 l0_1 a0_2 = some r) ∧ Aside0 (kq ≤ kj1) ∧ Aside0 (w'.heap[gb155]? = some (.cells #[(.slice A0_0 l0_0.length c0_0), (.slice A0_1 l0_1.length c0_1), .bool a0_2] 25 (0, 0))) ∧ Aside0 (Below w.heap.size w w'))
        case atStart => exact ⟨(0), (by first | rfl | (simp; done) | (simp [*]; done)), H', ⟨Nat.le_refl _⟩, ⟨by (with_reducible repeat (first | refine blk_drewN ?_ _ | refine blk_drew ?_ | refine blk_alloc ?_ _)); exact BK155.out⟩, ⟨by repeat (first | (with_reducible first | exact HB.out | apply below_alloc | apply pw_below_drewN | apply below_drew1 | refine below_set ?_ GE155.out) | exact HB.out)⟩⟩
        case round =>
          clear H'
          try clear c1
          try clear c2
          try clear p2
          try clear c5
          try clear c8
          try clear hcz6_0
          try clear hcz6_1
          try clear hcz6_2
          try clear hcz7_0
          try clear hcz7_1
          try clear hcz7_2
          try clear hcz9_0
          try clear hcz9_1
          try clear hcz9_2
          try clear hfz6_0
          try clear hfz6_1
          try clear hfz6_2
          try clear hfz7_0
          try clear hfz7_1
          try clear hfz7_2
          try clear hfz9_0
          try clear hfz9_1
          try clear hfz9_2
          try clear p2
          obtain ⟨x23_2, rfl, HA, HK2, BK155, HB⟩ := hrel
          cases gk with
          | zero => exact absurd HA.out (by simp [spec_GoodMarker.l0])
          | succ k2 =>
            have H := HA.out
            clear HA
            simp only [spec_GoodMarker.l0] at H
            by_cases c10 : x23_2 < (l0_0.length : Int)
            · rw [if_pos c10] at H
              have c10b0 : decide (x23_2 < (l0_0.length : Int)) = true := decide_eq_true c10
              clear c10
              by_cases c11 : 0 ≤ x23_2
              · rw [if_pos c11] at H
                have c11b0 : decide (0 ≤ x23_2) = true := decide_eq_true c11
                clear c11
                by_cases c12 : x23_2 < (l0_0.length : Int)
                · rw [if_pos c12] at H
                  have c12b0 : decide (x23_2 < (l0_0.length : Int)) = true := decide_eq_true c12
                  clear c12
                  have HC13 := Aside0.mk H
                  clear H
                  have p157 : 0 ≤ (x23_2 : Int) := of_decide_eq_true (by first | (with_reducible assumption) | assumption)
                  have q157 : x23_2 < (l0_0.length : Int) := of_decide_eq_true (by first | (with_reducible assumption) | assumption)
                  obtain ⟨ad157, A157_0, c157_0, e157, hx157_0, hx157_1, hx157_2, hl157_0, hi157_0⟩ := at_T44 HR0_0.out x23_2 p157 q157
                  cases e157
                  replace hx157_0 := (HB.out.cell (World.block_lt_of_cell? w _ hx157_0)).trans hx157_0
                  replace hx157_1 := (HB.out.cell (World.block_lt_of_cell? w _ hx157_1)).trans hx157_1
                  replace hx157_2 := (HB.out.cell (World.block_lt_of_cell? w _ hx157_2)).trans hx157_2
                  have HR157_0 := Aside0.mk hi157_0
                  have HC157_0 := Aside0.mk hl157_0
                  clear hi157_0 hl157_0
                  replace p157 := eq_true p157
                  replace q157 := eq_true q157
                  go_upto_region 6 with (first | ((with_reducible refine gate_dst (N := 4) rfl ?_); (try (refine gate_guard (by rfl) ?_; dsimp only)); refine box_event ?hg (N := 4) ?hd (cs := #[.slice none 0 0, .int .i64 0, .bool false]) (t := 44) ?hr ?_; (case hd => rfl); (case hg => rfl); (case hr => first | (go_simp; done) | (go_simp; rfl)); intro gb158 hg w14 hbox hb; have n0_ := Aside0.mk (blk_below (g := gb155) (o := .cells #[.slice (some ad157) l0_0.length c0_0, .slice A0_1 l0_1.length c0_1, .bool a0_2] 25 (0, 0)) (by (with_reducible repeat (first | refine blk_drewN ?_ _ | refine blk_drew ?_ | refine blk_alloc ?_ _)); exact BK155.out) hb); have n1_ := Aside0.mk (below_step (by repeat (first | (with_reducible first | exact HB.out | apply below_alloc | apply pw_below_drewN | apply below_drew1 | refine below_set ?_ GE155.out) | exact HB.out)) hb); have n2_ := Aside0.mk (hbox); have n3_ := Aside0.mk ((by rw [hg]; exact (below_size (by repeat (first | (with_reducible first | exact HB.out | apply below_alloc | apply pw_below_drewN | apply below_drew1 | refine below_set ?_ GE155.out) | exact HB.out))) : w.heap.size ≤ gb158)); have n4_ := Aside0.mk ((by rw [hg]; exact (below_size (by repeat (first | (with_reducible first | exact HB.out | apply below_alloc | apply pw_below_drewN | apply below_drew1 | refine below_set ?_ GE155.out) | exact HB.out))) : w.heap.size ≤ gb158)); have n5_ := Aside0.mk ((by rw [hg]; exact Nat.ne_of_lt (blk_lt (g := gb155) (o := .cells #[.slice (some ad157) l0_0.length c0_0, .slice A0_1 l0_1.length c0_1, .bool a0_2] 25 (0, 0)) (by (with_reducible repeat (first | refine blk_drewN ?_ _ | refine blk_drew ?_ | refine blk_alloc ?_ _)); exact BK155.out)) : gb155 ≠ gb158)); have n6_ := Aside0.mk ((by rw [hg]; exact Nat.ne_of_gt (blk_lt (g := gb155) (o := .cells #[.slice (some ad157) l0_0.length c0_0, .slice A0_1 l0_1.length c0_1, .bool a0_2] 25 (0, 0)) (by (with_reducible repeat (first | refine blk_drewN ?_ _ | refine blk_drew ?_ | refine blk_alloc ?_ _)); exact BK155.out)) : gb158 ≠ gb155)); clear BK155; clear HB; have BK155 := n0_; have HB := n1_; have BK158 := n2_; have GW158 := n3_; have GE158 := n4_; have NB155_158 := n5_; have NB158_155 := n6_; clear n0_ n1_ n2_ n3_ n4_ n5_ n6_; clear hb hbox hg; have hnb15 := NB158_155.out; have hnc15 := NB155_158.out; have hcz16_0 : w14.cell? ⟨gb158, 0, none⟩ = some (.slice none 0 0) := (blk_cell BK158.out 0).trans rfl; have hcz16_1 : w14.cell? ⟨gb158, 1, none⟩ = some (.int .i64 0) := (blk_cell BK158.out 1).trans rfl; have hcz16_2 : w14.cell? ⟨gb158, 2, none⟩ = some (.bool false) := (blk_cell BK158.out 2).trans rfl; have hfz16_0 := blk_frozen BK158.out 0; have hfz16_1 := blk_frozen BK158.out 1; have hfz16_2 := blk_frozen BK158.out 2))
                  (try simp only [Act.put, List.setIfInBounds_toArray, List.set_cons_zero, List.set_cons_succ])
                  go_cut [50] (fun v50 wc => ∃ (kq : Nat) (x50_12 : Bool), v50 = .bool x50_12 ∧ Aside0 (spec_GoodMarker.j2 kq l0_0 (l0_0.length : Int) x23_2 x50_12 l0_0 l0_1 a0_2 ((rd_T44 l0_0 x23_2).f0) ((rd_T44 l0_0 x23_2).f1) ((rd_T44 l0_0 x23_2).f2) = some r) ∧ Aside0 (kq ≤ k2) ∧ Aside0 (wc.heap[gb155]? = some (.cells #[(.slice (some ad157) l0_0.length c0_0), (.slice A0_1 l0_1.length c0_1), .bool a0_2] 25 (0, 0))) ∧ Aside0 (wc.heap[gb158]? = some (.cells #[(.slice A157_0 ((rd_T44 l0_0 x23_2).f0).length c157_0), .int .i64 ((rd_T44 l0_0 x23_2).f1), .bool ((rd_T44 l0_0 x23_2).f2)] 44 (0, 0))) ∧ Aside0 (Below w.heap.size w wc))
                  case first =>
                    have H := HC13.out
                    clear HC13
                    by_cases c17 : (((rd_T44 l0_0 x23_2).f0).length : Int) = 2
                    · rw [if_pos c17] at H
                      have c17b0 : ((((rd_T44 l0_0 x23_2).f0).length : Int) == 2) = true := beq_iff_eq.mpr c17
                      have c17b1 : ((((rd_T44 l0_0 x23_2).f0).length : Int) != 2) = false := bne_eq_false_iff_eq.mpr c17
                      clear c17
                      (first | rw [c17b0] | (simp only [i64_w, i32_w]; rw [c17b0]) | skip)
                      replace H := Option.bind_eq_some_iff.mp H
                      obtain ⟨t159, A180, H⟩ := H
                      replace H : (if t159 = true then (if (rd_T44 l0_0 x23_2).f2 = true then (spec_GoodMarker.j2 k2 l0_0 (l0_0.length : Int) x23_2 (((rd_T44 l0_0 x23_2).f1) != 0) l0_0 l0_1 a0_2 ((rd_T44 l0_0 x23_2).f0) ((rd_T44 l0_0 x23_2).f1) ((rd_T44 l0_0 x23_2).f2)) else (if a0_2 = true then (spec_GoodMarker.j2 k2 l0_0 (l0_0.length : Int) x23_2 false l0_0 l0_1 a0_2 ((rd_T44 l0_0 x23_2).f0) ((rd_T44 l0_0 x23_2).f1) ((rd_T44 l0_0 x23_2).f2)) else (spec_GoodMarker.j2 k2 l0_0 (l0_0.length : Int) x23_2 (((rd_T44 l0_0 x23_2).f1) != 0) l0_0 l0_1 a0_2 ((rd_T44 l0_0 x23_2).f0) ((rd_T44 l0_0 x23_2).f1) ((rd_T44 l0_0 x23_2).f2)))) else (spec_GoodMarker.j2 k2 l0_0 (l0_0.length : Int) x23_2 true l0_0 l0_1 a0_2 ((rd_T44 l0_0 x23_2).f0) ((rd_T44 l0_0 x23_2).f1) ((rd_T44 l0_0 x23_2).f2))) = some r := H
                      have A18 := Aside0.mk A180
                      clear A180
                      by_cases c19 : t159 = true
                      · subst c19
                        have H1 : (if (rd_T44 l0_0 x23_2).f2 = true then (spec_GoodMarker.j2 k2 l0_0 (l0_0.length : Int) x23_2 (((rd_T44 l0_0 x23_2).f1) != 0) l0_0 l0_1 a0_2 ((rd_T44 l0_0 x23_2).f0) ((rd_T44 l0_0 x23_2).f1) ((rd_T44 l0_0 x23_2).f2)) else (if a0_2 = true then (spec_GoodMarker.j2 k2 l0_0 (l0_0.length : Int) x23_2 false l0_0 l0_1 a0_2 ((rd_T44 l0_0 x23_2).f0) ((rd_T44 l0_0 x23_2).f1) ((rd_T44 l0_0 x23_2).f2)) else (spec_GoodMarker.j2 k2 l0_0 (l0_0.length : Int) x23_2 (((rd_T44 l0_0 x23_2).f1) != 0) l0_0 l0_1 a0_2 ((rd_T44 l0_0 x23_2).f0) ((rd_T44 l0_0 x23_2).f1) ((rd_T44 l0_0 x23_2).f2)))) = some r := by rw [if_pos rfl] at H; exact H
                        clear H
                        have H := H1
                        clear H1
                        obtain ⟨bq20, hbq20⟩ : ∃ b_ : Bool, b_ = ((rd_T44 l0_0 x23_2).f2) := ⟨_, rfl⟩
                        replace H : (if bq20 = true then (spec_GoodMarker.j2 k2 l0_0 (l0_0.length : Int) x23_2 (((rd_T44 l0_0 x23_2).f1) != 0) l0_0 l0_1 a0_2 ((rd_T44 l0_0 x23_2).f0) ((rd_T44 l0_0 x23_2).f1) bq20) else (if a0_2 = true then (spec_GoodMarker.j2 k2 l0_0 (l0_0.length : Int) x23_2 false l0_0 l0_1 a0_2 ((rd_T44 l0_0 x23_2).f0) ((rd_T44 l0_0 x23_2).f1) bq20) else (spec_GoodMarker.j2 k2 l0_0 (l0_0.length : Int) x23_2 (((rd_T44 l0_0 x23_2).f1) != 0) l0_0 l0_1 a0_2 ((rd_T44 l0_0 x23_2).f0) ((rd_T44 l0_0 x23_2).f1) bq20))) = some r := by rw [← hbq20] at H; exact H
                        have Nbq20 := Aside0.mk hbq20
                        clear hbq20
                        (try rw [← Nbq20.out])
                        by_cases c21 : bq20 = true
                        · subst c21
                          have H1 : (spec_GoodMarker.j2 k2 l0_0 (l0_0.length : Int) x23_2 (((rd_T44 l0_0 x23_2).f1) != 0) l0_0 l0_1 a0_2 ((rd_T44 l0_0 x23_2).f0) ((rd_T44 l0_0 x23_2).f1) true) = some r := by rw [if_pos rfl] at H; exact H
                          clear H
                          have H := H1
                          clear H1
                          have H' := Aside0.mk H
                          clear H
                          have hnb22 := NB158_155.out
                          have hnc22 := NB155_158.out
                          have hcz23_0 : w14.cell? ⟨gb158, 0, none⟩ = some (.slice none 0 0) := (blk_cell BK158.out 0).trans rfl
                          have hcz23_1 : w14.cell? ⟨gb158, 1, none⟩ = some (.int .i64 0) := (blk_cell BK158.out 1).trans rfl
                          have hcz23_2 : w14.cell? ⟨gb158, 2, none⟩ = some (.bool false) := (blk_cell BK158.out 2).trans rfl
                          have hfz23_0 := blk_frozen BK158.out 0
                          have hfz23_1 := blk_frozen BK158.out 1
                          have hfz23_2 := blk_frozen BK158.out 2
                          go_wp2_with (first | (go_at_call 23; (with_reducible refine (spec_l1In.calls ((rd_T44 l0_0 x23_2).f1) 0 2 true _ A18.out).mono ?_); rintro e w' ⟨rfl, ⟨nd, rfl⟩⟩))
                          go_meet
                          case rel => (try rw [← Nbq20.out]); exact ⟨_, ((((rd_T44 l0_0 x23_2).f1) != 0)), (by first | rfl | (simp; done) | (simp [*]; done)), H', ⟨by have := HJ1.out; have := HK2.out; first | omega | exact Nat.le_refl _⟩, ⟨by (with_reducible repeat (first | refine blk_drewN ?_ _ | refine blk_drew ?_ | refine blk_alloc ?_ _)); refine blk_far ?_ NB155_158.out _; (with_reducible repeat (first | refine blk_drewN ?_ _ | refine blk_drew ?_ | refine blk_alloc ?_ _)); refine blk_far ?_ NB155_158.out _; (with_reducible repeat (first | refine blk_drewN ?_ _ | refine blk_drew ?_ | refine blk_alloc ?_ _)); refine blk_far ?_ NB155_158.out _; (with_reducible repeat (first | refine blk_drewN ?_ _ | refine blk_drew ?_ | refine blk_alloc ?_ _)); exact BK155.out⟩, ⟨by (with_reducible repeat (first | refine blk_drewN ?_ _ | refine blk_drew ?_ | refine blk_alloc ?_ _)); refine blk_put (cs := #[.slice A157_0 ((rd_T44 l0_0 x23_2).f0).length c157_0, .int .i64 ((rd_T44 l0_0 x23_2).f1), .bool false]) ?_ 2 _ rfl; (with_reducible repeat (first | refine blk_drewN ?_ _ | refine blk_drew ?_ | refine blk_alloc ?_ _)); refine blk_put (cs := #[.slice A157_0 ((rd_T44 l0_0 x23_2).f0).length c157_0, .int .i64 0, .bool false]) ?_ 1 _ rfl; (with_reducible repeat (first | refine blk_drewN ?_ _ | refine blk_drew ?_ | refine blk_alloc ?_ _)); refine blk_put (cs := #[.slice none 0 0, .int .i64 0, .bool false]) ?_ 0 _ rfl; (with_reducible repeat (first | refine blk_drewN ?_ _ | refine blk_drew ?_ | refine blk_alloc ?_ _)); exact BK158.out⟩, ⟨by repeat (first | (with_reducible first | exact HB.out | apply below_alloc | apply pw_below_drewN | apply below_drew1 | refine below_set ?_ GE155.out | refine below_set ?_ GE158.out) | exact HB.out)⟩⟩
                        · replace c21 := Bool.eq_false_iff.mpr c21
                          subst c21
                          have H1 : (if a0_2 = true then (spec_GoodMarker.j2 k2 l0_0 (l0_0.length : Int) x23_2 false l0_0 l0_1 a0_2 ((rd_T44 l0_0 x23_2).f0) ((rd_T44 l0_0 x23_2).f1) false) else (spec_GoodMarker.j2 k2 l0_0 (l0_0.length : Int) x23_2 (((rd_T44 l0_0 x23_2).f1) != 0) l0_0 l0_1 a0_2 ((rd_T44 l0_0 x23_2).f0) ((rd_T44 l0_0 x23_2).f1) false)) = some r := by rw [if_neg (show ¬ (false = true) by decide)] at H; exact H
                          clear H
                          have H := H1
                          clear H1
                          by_cases c24 : a0_2 = true
                          · subst c24
                            have H1 : (spec_GoodMarker.j2 k2 l0_0 (l0_0.length : Int) x23_2 false l0_0 l0_1 true ((rd_T44 l0_0 x23_2).f0) ((rd_T44 l0_0 x23_2).f1) false) = some r := by rw [if_pos rfl] at H; exact H
                            clear H
                            have H := H1
                            clear H1
                            have H' := Aside0.mk H
                            clear H
                            have hnb25 := NB158_155.out
                            have hnc25 := NB155_158.out
                            have hcz26_0 : w14.cell? ⟨gb158, 0, none⟩ = some (.slice none 0 0) := (blk_cell BK158.out 0).trans rfl
                            have hcz26_1 : w14.cell? ⟨gb158, 1, none⟩ = some (.int .i64 0) := (blk_cell BK158.out 1).trans rfl
                            have hcz26_2 : w14.cell? ⟨gb158, 2, none⟩ = some (.bool false) := (blk_cell BK158.out 2).trans rfl
                            have hfz26_0 := blk_frozen BK158.out 0
                            have hfz26_1 := blk_frozen BK158.out 1
                            have hfz26_2 := blk_frozen BK158.out 2
                            go_wp2_with (first | (go_at_call 23; (with_reducible refine (spec_l1In.calls ((rd_T44 l0_0 x23_2).f1) 0 2 true _ A18.out).mono ?_); rintro e w' ⟨rfl, ⟨nd, rfl⟩⟩; have hcz27_0 : w14.cell? ⟨gb155, 0, none⟩ = some (.slice (some ad157) l0_0.length c0_0) := (blk_cell BK155.out 0).trans rfl; have hcz27_1 : w14.cell? ⟨gb155, 1, none⟩ = some (.slice A0_1 l0_1.length c0_1) := (blk_cell BK155.out 1).trans rfl; have hcz27_2 : w14.cell? ⟨gb155, 2, none⟩ = some (.bool true) := (blk_cell BK155.out 2).trans rfl; have hfz27_0 := blk_frozen BK155.out 0; have hfz27_1 := blk_frozen BK155.out 1; have hfz27_2 := blk_frozen BK155.out 2))
                            go_meet
                            case rel => (try rw [← Nbq20.out]); exact ⟨_, (false), (by first | rfl | (simp; done) | (simp [*]; done)), H', ⟨by have := HJ1.out; have := HK2.out; first | omega | exact Nat.le_refl _⟩, ⟨by (with_reducible repeat (first | refine blk_drewN ?_ _ | refine blk_drew ?_ | refine blk_alloc ?_ _)); refine blk_far ?_ NB155_158.out _; (with_reducible repeat (first | refine blk_drewN ?_ _ | refine blk_drew ?_ | refine blk_alloc ?_ _)); refine blk_far ?_ NB155_158.out _; (with_reducible repeat (first | refine blk_drewN ?_ _ | refine blk_drew ?_ | refine blk_alloc ?_ _)); refine blk_far ?_ NB155_158.out _; (with_reducible repeat (first | refine blk_drewN ?_ _ | refine blk_drew ?_ | refine blk_alloc ?_ _)); exact BK155.out⟩, ⟨by (with_reducible repeat (first | refine blk_drewN ?_ _ | refine blk_drew ?_ | refine blk_alloc ?_ _)); refine blk_put (cs := #[.slice A157_0 ((rd_T44 l0_0 x23_2).f0).length c157_0, .int .i64 ((rd_T44 l0_0 x23_2).f1), .bool false]) ?_ 2 _ rfl; (with_reducible repeat (first | refine blk_drewN ?_ _ | refine blk_drew ?_ | refine blk_alloc ?_ _)); refine blk_put (cs := #[.slice A157_0 ((rd_T44 l0_0 x23_2).f0).length c157_0, .int .i64 0, .bool false]) ?_ 1 _ rfl; (with_reducible repeat (first | refine blk_drewN ?_ _ | refine blk_drew ?_ | refine blk_alloc ?_ _)); refine blk_put (cs := #[.slice none 0 0, .int .i64 0, .bool false]) ?_ 0 _ rfl; (with_reducible repeat (first | refine blk_drewN ?_ _ | refine blk_drew ?_ | refine blk_alloc ?_ _)); exact BK158.out⟩, ⟨by repeat (first | (with_reducible first | exact HB.out | apply below_alloc | apply pw_below_drewN | apply below_drew1 | refine below_set ?_ GE155.out | refine below_set ?_ GE158.out) | exact HB.out)⟩⟩
                          · replace c24 := Bool.eq_false_iff.mpr c24
                            subst c24
                            have H1 : (spec_GoodMarker.j2 k2 l0_0 (l0_0.length : Int) x23_2 (((rd_T44 l0_0 x23_2).f1) != 0) l0_0 l0_1 false ((rd_T44 l0_0 x23_2).f0) ((rd_T44 l0_0 x23_2).f1) false) = some r := by rw [if_neg (show ¬ (false = true) by decide)] at H; exact H
                            clear H
                            have H := H1
                            clear H1
                            have H' := Aside0.mk H
                            clear H
                            have hnb28 := NB158_155.out
                            have hnc28 := NB155_158.out
                            have hcz29_0 : w14.cell? ⟨gb158, 0, none⟩ = some (.slice none 0 0) := (blk_cell BK158.out 0).trans rfl
                            have hcz29_1 : w14.cell? ⟨gb158, 1, none⟩ = some (.int .i64 0) := (blk_cell BK158.out 1).trans rfl
                            have hcz29_2 : w14.cell? ⟨gb158, 2, none⟩ = some (.bool false) := (blk_cell BK158.out 2).trans rfl
                            have hfz29_0 := blk_frozen BK158.out 0
                            have hfz29_1 := blk_frozen BK158.out 1
                            have hfz29_2 := blk_frozen BK158.out 2
                            go_wp2_with (first | (go_at_call 23; (with_reducible refine (spec_l1In.calls ((rd_T44 l0_0 x23_2).f1) 0 2 true _ A18.out).mono ?_); rintro e w' ⟨rfl, ⟨nd, rfl⟩⟩; have hcz30_0 : w14.cell? ⟨gb155, 0, none⟩ = some (.slice (some ad157) l0_0.length c0_0) := (blk_cell BK155.out 0).trans rfl; have hcz30_1 : w14.cell? ⟨gb155, 1, none⟩ = some (.slice A0_1 l0_1.length c0_1) := (blk_cell BK155.out 1).trans rfl; have hcz30_2 : w14.cell? ⟨gb155, 2, none⟩ = some (.bool false) := (blk_cell BK155.out 2).trans rfl; have hfz30_0 := blk_frozen BK155.out 0; have hfz30_1 := blk_frozen BK155.out 1; have hfz30_2 := blk_frozen BK155.out 2))
                            go_meet
                            case rel => (try rw [← Nbq20.out]); exact ⟨_, ((((rd_T44 l0_0 x23_2).f1) != 0)), (by first | rfl | (simp; done) | (simp [*]; done)), H', ⟨by have := HJ1.out; have := HK2.out; first | omega | exact Nat.le_refl _⟩, ⟨by (with_reducible repeat (first | refine blk_drewN ?_ _ | refine blk_drew ?_ | refine blk_alloc ?_ _)); refine blk_far ?_ NB155_158.out _; (with_reducible repeat (first | refine blk_drewN ?_ _ | refine blk_drew ?_ | refine blk_alloc ?_ _)); refine blk_far ?_ NB155_158.out _; (with_reducible repeat (first | refine blk_drewN ?_ _ | refine blk_drew ?_ | refine blk_alloc ?_ _)); refine blk_far ?_ NB155_158.out _; (with_reducible repeat (first | refine blk_drewN ?_ _ | refine blk_drew ?_ | refine blk_alloc ?_ _)); exact BK155.out⟩, ⟨by (with_reducible repeat (first | refine blk_drewN ?_ _ | refine blk_drew ?_ | refine blk_alloc ?_ _)); refine blk_put (cs := #[.slice A157_0 ((rd_T44 l0_0 x23_2).f0).length c157_0, .int .i64 ((rd_T44 l0_0 x23_2).f1), .bool false]) ?_ 2 _ rfl; (with_reducible repeat (first | refine blk_drewN ?_ _ | refine blk_drew ?_ | refine blk_alloc ?_ _)); refine blk_put (cs := #[.slice A157_0 ((rd_T44 l0_0 x23_2).f0).length c157_0, .int .i64 0, .bool false]) ?_ 1 _ rfl; (with_reducible repeat (first | refine blk_drewN ?_ _ | refine blk_drew ?_ | refine blk_alloc ?_ _)); refine blk_put (cs := #[.slice none 0 0, .int .i64 0, .bool false]) ?_ 0 _ rfl; (with_reducible repeat (first | refine blk_drewN ?_ _ | refine blk_drew ?_ | refine blk_alloc ?_ _)); exact BK158.out⟩, ⟨by repeat (first | (with_reducible first | exact HB.out | apply below_alloc | apply pw_below_drewN | apply below_drew1 | refine below_set ?_ GE155.out | refine below_set ?_ GE158.out) | exact HB.out)⟩⟩
                      · replace c19 := Bool.eq_false_iff.mpr c19
                        subst c19
                        have H1 : (spec_GoodMarker.j2 k2 l0_0 (l0_0.length : Int) x23_2 true l0_0 l0_1 a0_2 ((rd_T44 l0_0 x23_2).f0) ((rd_T44 l0_0 x23_2).f1) ((rd_T44 l0_0 x23_2).f2)) = some r := by rw [if_neg (show ¬ (false = true) by decide)] at H; exact H
                        clear H
                        have H := H1
                        clear H1
                        have H' := Aside0.mk H
                        clear H
                        have hnb31 := NB158_155.out
                        have hnc31 := NB155_158.out
                        have hcz32_0 : w14.cell? ⟨gb158, 0, none⟩ = some (.slice none 0 0) := (blk_cell BK158.out 0).trans rfl
                        have hcz32_1 : w14.cell? ⟨gb158, 1, none⟩ = some (.int .i64 0) := (blk_cell BK158.out 1).trans rfl
                        have hcz32_2 : w14.cell? ⟨gb158, 2, none⟩ = some (.bool false) := (blk_cell BK158.out 2).trans rfl
                        have hfz32_0 := blk_frozen BK158.out 0
                        have hfz32_1 := blk_frozen BK158.out 1
                        have hfz32_2 := blk_frozen BK158.out 2
                        go_wp2_with (first | (go_at_call 23; (with_reducible refine (spec_l1In.calls ((rd_T44 l0_0 x23_2).f1) 0 2 false _ A18.out).mono ?_); rintro e w' ⟨rfl, ⟨nd, rfl⟩⟩))
                        go_meet
                        case rel => exact ⟨_, (true), (by first | rfl | (simp; done) | (simp [*]; done)), H', ⟨by have := HJ1.out; have := HK2.out; first | omega | exact Nat.le_refl _⟩, ⟨by (with_reducible repeat (first | refine blk_drewN ?_ _ | refine blk_drew ?_ | refine blk_alloc ?_ _)); refine blk_far ?_ NB155_158.out _; (with_reducible repeat (first | refine blk_drewN ?_ _ | refine blk_drew ?_ | refine blk_alloc ?_ _)); refine blk_far ?_ NB155_158.out _; (with_reducible repeat (first | refine blk_drewN ?_ _ | refine blk_drew ?_ | refine blk_alloc ?_ _)); refine blk_far ?_ NB155_158.out _; (with_reducible repeat (first | refine blk_drewN ?_ _ | refine blk_drew ?_ | refine blk_alloc ?_ _)); exact BK155.out⟩, ⟨by (with_reducible repeat (first | refine blk_drewN ?_ _ | refine blk_drew ?_ | refine blk_alloc ?_ _)); refine blk_put (cs := #[.slice A157_0 ((rd_T44 l0_0 x23_2).f0).length c157_0, .int .i64 ((rd_T44 l0_0 x23_2).f1), .bool false]) ?_ 2 _ rfl; (with_reducible repeat (first | refine blk_drewN ?_ _ | refine blk_drew ?_ | refine blk_alloc ?_ _)); refine blk_put (cs := #[.slice A157_0 ((rd_T44 l0_0 x23_2).f0).length c157_0, .int .i64 0, .bool false]) ?_ 1 _ rfl; (with_reducible repeat (first | refine blk_drewN ?_ _ | refine blk_drew ?_ | refine blk_alloc ?_ _)); refine blk_put (cs := #[.slice none 0 0, .int .i64 0, .bool false]) ?_ 0 _ rfl; (with_reducible repeat (first | refine blk_drewN ?_ _ | refine blk_drew ?_ | refine blk_alloc ?_ _)); exact BK158.out⟩, ⟨by repeat (first | (with_reducible first | exact HB.out | apply below_alloc | apply pw_below_drewN | apply below_drew1 | refine below_set ?_ GE155.out | refine below_set ?_ GE158.out) | exact HB.out)⟩⟩
                    · rw [if_neg c17] at H
                      have c17b0 : ((((rd_T44 l0_0 x23_2).f0).length : Int) == 2) = false := beq_eq_false_iff_ne.mpr c17
                      have c17b1 : ((((rd_T44 l0_0 x23_2).f0).length : Int) != 2) = true := bne_iff_ne.mpr c17
                      (first | rw [c17b0] | (simp only [i64_w, i32_w]; rw [c17b0]) | skip)
                      have H' := Aside0.mk H
                      clear H
                      have hnb33 := NB158_155.out
                      have hnc33 := NB155_158.out
                      have hcz34_0 : w14.cell? ⟨gb158, 0, none⟩ = some (.slice none 0 0) := (blk_cell BK158.out 0).trans rfl
                      have hcz34_1 : w14.cell? ⟨gb158, 1, none⟩ = some (.int .i64 0) := (blk_cell BK158.out 1).trans rfl
                      have hcz34_2 : w14.cell? ⟨gb158, 2, none⟩ = some (.bool false) := (blk_cell BK158.out 2).trans rfl
                      have hfz34_0 := blk_frozen BK158.out 0
                      have hfz34_1 := blk_frozen BK158.out 1
                      have hfz34_2 := blk_frozen BK158.out 2
                      go_wp2
                      go_meet
                      case rel => exact ⟨_, (true), (by first | rfl | (simp; done) | (simp [*]; done)), H', ⟨by have := HJ1.out; have := HK2.out; first | omega | exact Nat.le_refl _⟩, ⟨by (with_reducible repeat (first | refine blk_drewN ?_ _ | refine blk_drew ?_ | refine blk_alloc ?_ _)); refine blk_far ?_ NB155_158.out _; (with_reducible repeat (first | refine blk_drewN ?_ _ | refine blk_drew ?_ | refine blk_alloc ?_ _)); refine blk_far ?_ NB155_158.out _; (with_reducible repeat (first | refine blk_drewN ?_ _ | refine blk_drew ?_ | refine blk_alloc ?_ _)); refine blk_far ?_ NB155_158.out _; (with_reducible repeat (first | refine blk_drewN ?_ _ | refine blk_drew ?_ | refine blk_alloc ?_ _)); exact BK155.out⟩, ⟨by (with_reducible repeat (first | refine blk_drewN ?_ _ | refine blk_drew ?_ | refine blk_alloc ?_ _)); refine blk_put (cs := #[.slice A157_0 ((rd_T44 l0_0 x23_2).f0).length c157_0, .int .i64 ((rd_T44 l0_0 x23_2).f1), .bool false]) ?_ 2 _ rfl; (with_reducible repeat (first | refine blk_drewN ?_ _ | refine blk_drew ?_ | refine blk_alloc ?_ _)); refine blk_put (cs := #[.slice A157_0 ((rd_T44 l0_0 x23_2).f0).length c157_0, .int .i64 0, .bool false]) ?_ 1 _ rfl; (with_reducible repeat (first | refine blk_drewN ?_ _ | refine blk_drew ?_ | refine blk_alloc ?_ _)); refine blk_put (cs := #[.slice none 0 0, .int .i64 0, .bool false]) ?_ 0 _ rfl; (with_reducible repeat (first | refine blk_drewN ?_ _ | refine blk_drew ?_ | refine blk_alloc ?_ _)); exact BK158.out⟩, ⟨by repeat (first | (with_reducible first | exact HB.out | apply below_alloc | apply pw_below_drewN | apply below_drew1 | refine below_set ?_ GE155.out | refine below_set ?_ GE158.out) | exact HB.out)⟩⟩
                  case rest =>
                    clear HC13
                    try clear c1
                    try clear p1
                    try clear q1
                    try clear hx1
                    try clear c2
                    try clear p2
                    try clear q2
                    try clear c3
                    try clear c5
                    try clear c8
                    try clear c10
                    try clear c10b0
                    try clear c11
                    try clear c11b0
                    try clear c12
                    try clear c12b0
                    try clear c13
                    try clear c15
                    try clear p15
                    try clear q15
                    try clear hx15
                    try clear c17
                    try clear c17b0
                    try clear c17b1
                    try clear c19
                    try clear q20
                    try clear c21
                    try clear c22
                    try clear c23
                    try clear c24
                    try clear c25
                    try clear c28
                    try clear c31
                    try clear c33
                    try clear hcz16_0
                    try clear hcz16_1
                    try clear hcz16_2
                    try clear hcz23_0
                    try clear hcz23_1
                    try clear hcz23_2
                    try clear hcz26_0
                    try clear hcz26_1
                    try clear hcz26_2
                    try clear hcz27_0
                    try clear hcz27_1
                    try clear hcz27_2
                    try clear hcz29_0
                    try clear hcz29_1
                    try clear hcz29_2
                    try clear hcz30_0
                    try clear hcz30_1
                    try clear hcz30_2
                    try clear hcz32_0
                    try clear hcz32_1
                    try clear hcz32_2
                    try clear hcz34_0
                    try clear hcz34_1
                    try clear hcz34_2
                    try clear hcz6_0
                    try clear hcz6_1
                    try clear hcz6_2
                    try clear hcz7_0
                    try clear hcz7_1
                    try clear hcz7_2
                    try clear hcz9_0
                    try clear hcz9_1
                    try clear hcz9_2
                    try clear hfz16_0
                    try clear hfz16_1
                    try clear hfz16_2
                    try clear hfz23_0
                    try clear hfz23_1
                    try clear hfz23_2
                    try clear hfz26_0
                    try clear hfz26_1
                    try clear hfz26_2
                    try clear hfz27_0
                    try clear hfz27_1
                    try clear hfz27_2
                    try clear hfz29_0
                    try clear hfz29_1
                    try clear hfz29_2
                    try clear hfz30_0
                    try clear hfz30_1
                    try clear hfz30_2
                    try clear hfz32_0
                    try clear hfz32_1
                    try clear hfz32_2
                    try clear hfz34_0
                    try clear hfz34_1
                    try clear hfz34_2
                    try clear hfz6_0
                    try clear hfz6_1
                    try clear hfz6_2
                    try clear hfz7_0
                    try clear hfz7_1
                    try clear hfz7_2
                    try clear hfz9_0
                    try clear hfz9_1
                    try clear hfz9_2
                    try clear hx157_0
                    try clear hx157_1
                    try clear hx157_2
                    try clear p157
                    try clear p2
                    try clear q157
                    obtain ⟨kq, x50_12, rfl, HA, HJ12, BK155, BK158, HB⟩ := hcut
                    cases kq with
                    | zero => exact absurd HA.out (by simp [spec_GoodMarker.j2])
                    | succ kj12 =>
                      have H := HA.out
                      clear HA
                      simp only [spec_GoodMarker.j2] at H
                      by_cases c35 : x50_12 = true
                      · subst c35
                        have H1 : (some false) = some r := by rw [if_pos rfl] at H; exact H
                        clear H
                        have H := H1
                        clear H1
                        obtain rfl := Option.some.inj H
                        first | (go_wp2; go_ret; exact ⟨by first | rfl | (simp [errW_none, errW_some] <;> rfl) | (simp [*, errW_none, errW_some] <;> rfl), by repeat (first | (with_reducible first | exact HB.out | apply below_alloc | apply pw_below_drewN | apply below_drew1 | refine below_set ?_ GE155.out | refine below_set ?_ GE158.out) | exact HB.out)⟩) | (exfalso; simp only [decide_eq_false_iff_not, decide_eq_true_eq] at *; omega)
                      · replace c35 := Bool.eq_false_iff.mpr c35
                        subst c35
                        have H1 : (spec_GoodMarker.l1 kj12 l0_0 (l0_0.length : Int) x23_2 ((rd_T44 l0_0 x23_2).f0) (((rd_T44 l0_0 x23_2).f0).length : Int) 0 l0_0 l0_1 a0_2 ((rd_T44 l0_0 x23_2).f0) ((rd_T44 l0_0 x23_2).f1) ((rd_T44 l0_0 x23_2).f2)) = some r := by rw [if_neg (show ¬ (false = true) by decide)] at H; exact H
                        clear H
                        have H := H1
                        clear H1
                        have H' := Aside0.mk H
                        clear H
                        have hnb36 := NB158_155.out
                        have hnc36 := NB155_158.out
                        have hcz37_0 : wc.cell? ⟨gb158, 0, none⟩ = some (.slice A157_0 ((rd_T44 l0_0 x23_2).f0).length c157_0) := (blk_cell BK158.out 0).trans rfl
                        have hcz37_1 : wc.cell? ⟨gb158, 1, none⟩ = some (.int .i64 ((rd_T44 l0_0 x23_2).f1)) := (blk_cell BK158.out 1).trans rfl
                        have hcz37_2 : wc.cell? ⟨gb158, 2, none⟩ = some (.bool ((rd_T44 l0_0 x23_2).f2)) := (blk_cell BK158.out 2).trans rfl
                        have hfz37_0 := blk_frozen BK158.out 0
                        have hfz37_1 := blk_frozen BK158.out 1
                        have hfz37_2 := blk_frozen BK158.out 2
                        go_wp2
                        go_loopg [54] kj12 (fun kq v54 w' => ∃ (x54_4 : Int), v54 = .int .i64 x54_4 ∧ Aside0 (spec_GoodMarker.l1 kq l0_0 (l0_0.length : Int) x23_2 ((rd_T44 l0_0 x23_2).f0) (((rd_T44 l0_0 x23_2).f0).length : Int) x54_4 l0_0 l0_1 a0_2 ((rd_T44 l0_0 x23_2).f0) ((rd_T44 l0_0 x23_2).f1) ((rd_T44 l0_0 x23_2).f2) = some r) ∧ Aside0 (kq ≤ kj12) ∧ Aside0 (w'.heap[gb155]? = some (.cells #[(.slice (some ad157) l0_0.length c0_0), (.slice A0_1 l0_1.length c0_1), .bool a0_2] 25 (0, 0))) ∧ Aside0 (w'.heap[gb158]? = some (.cells #[(.slice A157_0 ((rd_T44 l0_0 x23_2).f0).length c157_0), .int .i64 ((rd_T44 l0_0 x23_2).f1), .bool ((rd_T44 l0_0 x23_2).f2)] 44 (0, 0))) ∧ Aside0 (Below w.heap.size w w'))
                        case atStart => exact ⟨(0), (by first | rfl | (simp; done) | (simp [*]; done)), H', ⟨Nat.le_refl _⟩, ⟨by (with_reducible repeat (first | refine blk_drewN ?_ _ | refine blk_drew ?_ | refine blk_alloc ?_ _)); exact BK155.out⟩, ⟨by (with_reducible repeat (first | refine blk_drewN ?_ _ | refine blk_drew ?_ | refine blk_alloc ?_ _)); exact BK158.out⟩, ⟨by repeat (first | (with_reducible first | exact HB.out | apply below_alloc | apply pw_below_drewN | apply below_drew1 | refine below_set ?_ GE155.out | refine below_set ?_ GE158.out) | exact HB.out)⟩⟩
                        case round =>
                          clear H'
                          try clear c1
                          try clear p1
                          try clear q1
                          try clear hx1
                          try clear c2
                          try clear p2
                          try clear q2
                          try clear c3
                          try clear c5
                          try clear c8
                          try clear c10
                          try clear c10b0
                          try clear c11
                          try clear c11b0
                          try clear c12
                          try clear c12b0
                          try clear c13
                          try clear c15
                          try clear p15
                          try clear q15
                          try clear hx15
                          try clear c17
                          try clear c17b0
                          try clear c17b1
                          try clear c19
                          try clear q20
                          try clear c21
                          try clear c22
                          try clear c23
                          try clear c24
                          try clear c25
                          try clear c28
                          try clear c31
                          try clear c33
                          try clear c35
                          try clear c36
                          try clear hcz16_0
                          try clear hcz16_1
                          try clear hcz16_2
                          try clear hcz23_0
                          try clear hcz23_1
                          try clear hcz23_2
                          try clear hcz26_0
                          try clear hcz26_1
                          try clear hcz26_2
                          try clear hcz27_0
                          try clear hcz27_1
                          try clear hcz27_2
                          try clear hcz29_0
                          try clear hcz29_1
                          try clear hcz29_2
                          try clear hcz30_0
                          try clear hcz30_1
                          try clear hcz30_2
                          try clear hcz32_0
                          try clear hcz32_1
                          try clear hcz32_2
                          try clear hcz34_0
                          try clear hcz34_1
                          try clear hcz34_2
                          try clear hcz37_0
                          try clear hcz37_1
                          try clear hcz37_2
                          try clear hcz6_0
                          try clear hcz6_1
                          try clear hcz6_2
                          try clear hcz7_0
                          try clear hcz7_1
                          try clear hcz7_2
                          try clear hcz9_0
                          try clear hcz9_1
                          try clear hcz9_2
                          try clear hfz16_0
                          try clear hfz16_1
                          try clear hfz16_2
                          try clear hfz23_0
                          try clear hfz23_1
                          try clear hfz23_2
                          try clear hfz26_0
                          try clear hfz26_1
                          try clear hfz26_2
                          try clear hfz27_0
                          try clear hfz27_1
                          try clear hfz27_2
                          try clear hfz29_0
                          try clear hfz29_1
                          try clear hfz29_2
                          try clear hfz30_0
                          try clear hfz30_1
                          try clear hfz30_2
                          try clear hfz32_0
                          try clear hfz32_1
                          try clear hfz32_2
                          try clear hfz34_0
                          try clear hfz34_1
                          try clear hfz34_2
                          try clear hfz37_0
                          try clear hfz37_1
                          try clear hfz37_2
                          try clear hfz6_0
                          try clear hfz6_1
                          try clear hfz6_2
                          try clear hfz7_0
                          try clear hfz7_1
                          try clear hfz7_2
                          try clear hfz9_0
                          try clear hfz9_1
                          try clear hfz9_2
                          try clear hx157_0
                          try clear hx157_1
                          try clear hx157_2
                          try clear p1
                          try clear p15
                          try clear p157
                          try clear p2
                          try clear q1
                          try clear q15
                          try clear q157
                          try clear q2
                          try clear q20
                          obtain ⟨x54_4, rfl, HA, HK4, BK155, BK158, HB⟩ := hrel
                          cases gk with
                          | zero => exact absurd HA.out (by simp [spec_GoodMarker.l1])
                          | succ k4 =>
                            have H := HA.out
                            clear HA
                            simp only [spec_GoodMarker.l1] at H
                            by_cases c38 : x54_4 < (((rd_T44 l0_0 x23_2).f0).length : Int)
                            · rw [if_pos c38] at H
                              have c38b0 : decide (x54_4 < (((rd_T44 l0_0 x23_2).f0).length : Int)) = true := decide_eq_true c38
                              clear c38
                              by_cases c39 : 0 ≤ x54_4
                              · rw [if_pos c39] at H
                                have c39b0 : decide (0 ≤ x54_4) = true := decide_eq_true c39
                                clear c39
                                by_cases c40 : x54_4 < (((rd_T44 l0_0 x23_2).f0).length : Int)
                                · rw [if_pos c40] at H
                                  have c40b0 : decide (x54_4 < (((rd_T44 l0_0 x23_2).f0).length : Int)) = true := decide_eq_true c40
                                  clear c40
                                  replace H := Option.bind_eq_some_iff.mp H
                                  obtain ⟨t161, A410, H⟩ := H
                                  replace H : (if t161 = true then (if ((rd_T44 l0_0 x23_2).f2) = true then (if (rd ((rd_T44 l0_0 x23_2).f0) x54_4) = (-1) then (if ((rd_T44 l0_0 x23_2).f1) = 2 then ((spec_l15Color.f l0_0 l0_1 a0_2 (rd ((rd_T44 l0_0 x23_2).f0) x54_4)).bind fun t162 => (if t162 = 0 then (some false) else (spec_GoodMarker.l1 k4 l0_0 (l0_0.length : Int) x23_2 ((rd_T44 l0_0 x23_2).f0) (((rd_T44 l0_0 x23_2).f0).length : Int) (wrap64 (x54_4 + 1)) l0_0 l0_1 a0_2 ((rd_T44 l0_0 x23_2).f0) ((rd_T44 l0_0 x23_2).f1) ((rd_T44 l0_0 x23_2).f2)))) else (spec_GoodMarker.l1 k4 l0_0 (l0_0.length : Int) x23_2 ((rd_T44 l0_0 x23_2).f0) (((rd_T44 l0_0 x23_2).f0).length : Int) (wrap64 (x54_4 + 1)) l0_0 l0_1 a0_2 ((rd_T44 l0_0 x23_2).f0) ((rd_T44 l0_0 x23_2).f1) ((rd_T44 l0_0 x23_2).f2))) else (some false)) else (if ((rd_T44 l0_0 x23_2).f1) = 2 then ((spec_l15Color.f l0_0 l0_1 a0_2 (rd ((rd_T44 l0_0 x23_2).f0) x54_4)).bind fun t163 => (if t163 = 0 then (some false) else (spec_GoodMarker.l1 k4 l0_0 (l0_0.length : Int) x23_2 ((rd_T44 l0_0 x23_2).f0) (((rd_T44 l0_0 x23_2).f0).length : Int) (wrap64 (x54_4 + 1)) l0_0 l0_1 a0_2 ((rd_T44 l0_0 x23_2).f0) ((rd_T44 l0_0 x23_2).f1) ((rd_T44 l0_0 x23_2).f2)))) else (spec_GoodMarker.l1 k4 l0_0 (l0_0.length : Int) x23_2 ((rd_T44 l0_0 x23_2).f0) (((rd_T44 l0_0 x23_2).f0).length : Int) (wrap64 (x54_4 + 1)) l0_0 l0_1 a0_2 ((rd_T44 l0_0 x23_2).f0) ((rd_T44 l0_0 x23_2).f1) ((rd_T44 l0_0 x23_2).f2)))) else (some false)) = some r := H
                                  have A41 := Aside0.mk A410
                                  clear A410
                                  by_cases c42 : t161 = true
                                  · subst c42
                                    have H1 : (if ((rd_T44 l0_0 x23_2).f2) = true then (if (rd ((rd_T44 l0_0 x23_2).f0) x54_4) = (-1) then (if ((rd_T44 l0_0 x23_2).f1) = 2 then ((spec_l15Color.f l0_0 l0_1 a0_2 (rd ((rd_T44 l0_0 x23_2).f0) x54_4)).bind fun t162 => (if t162 = 0 then (some false) else (spec_GoodMarker.l1 k4 l0_0 (l0_0.length : Int) x23_2 ((rd_T44 l0_0 x23_2).f0) (((rd_T44 l0_0 x23_2).f0).length : Int) (wrap64 (x54_4 + 1)) l0_0 l0_1 a0_2 ((rd_T44 l0_0 x23_2).f0) ((rd_T44 l0_0 x23_2).f1) ((rd_T44 l0_0 x23_2).f2)))) else (spec_GoodMarker.l1 k4 l0_0 (l0_0.length : Int) x23_2 ((rd_T44 l0_0 x23_2).f0) (((rd_T44 l0_0 x23_2).f0).length : Int) (wrap64 (x54_4 + 1)) l0_0 l0_1 a0_2 ((rd_T44 l0_0 x23_2).f0) ((rd_T44 l0_0 x23_2).f1) ((rd_T44 l0_0 x23_2).f2))) else (some false)) else (if ((rd_T44 l0_0 x23_2).f1) = 2 then ((spec_l15Color.f l0_0 l0_1 a0_2 (rd ((rd_T44 l0_0 x23_2).f0) x54_4)).bind fun t163 => (if t163 = 0 then (some false) else (spec_GoodMarker.l1 k4 l0_0 (l0_0.length : Int) x23_2 ((rd_T44 l0_0 x23_2).f0) (((rd_T44 l0_0 x23_2).f0).length : Int) (wrap64 (x54_4 + 1)) l0_0 l0_1 a0_2 ((rd_T44 l0_0 x23_2).f0) ((rd_T44 l0_0 x23_2).f1) ((rd_T44 l0_0 x23_2).f2)))) else (spec_GoodMarker.l1 k4 l0_0 (l0_0.length : Int) x23_2 ((rd_T44 l0_0 x23_2).f0) (((rd_T44 l0_0 x23_2).f0).length : Int) (wrap64 (x54_4 + 1)) l0_0 l0_1 a0_2 ((rd_T44 l0_0 x23_2).f0) ((rd_T44 l0_0 x23_2).f1) ((rd_T44 l0_0 x23_2).f2)))) = some r := by rw [if_pos rfl] at H; exact H
                                    clear H
                                    have H := H1
                                    clear H1
                                    by_cases c43 : ((rd_T44 l0_0 x23_2).f2) = true
                                    · rw [if_pos c43] at H
                                      have c43b0 : ((rd_T44 l0_0 x23_2).f2) = true := c43
                                      clear c43
                                      by_cases c44 : (rd ((rd_T44 l0_0 x23_2).f0) x54_4) = (-1)
                                      · rw [if_pos c44] at H
                                        have c44b0 : ((rd ((rd_T44 l0_0 x23_2).f0) x54_4) == (-1)) = true := beq_iff_eq.mpr c44
                                        have c44b1 : ((rd ((rd_T44 l0_0 x23_2).f0) x54_4) != (-1)) = false := bne_eq_false_iff_eq.mpr c44
                                        clear c44
                                        by_cases c45 : ((rd_T44 l0_0 x23_2).f1) = 2
                                        · rw [if_pos c45] at H
                                          have c45b0 : (((rd_T44 l0_0 x23_2).f1) == 2) = true := beq_iff_eq.mpr c45
                                          have c45b1 : (((rd_T44 l0_0 x23_2).f1) != 2) = false := bne_eq_false_iff_eq.mpr c45
                                          clear c45
                                          replace H := Option.bind_eq_some_iff.mp H
                                          obtain ⟨t162, A460, H⟩ := H
                                          replace H : (if t162 = 0 then (some false) else (spec_GoodMarker.l1 k4 l0_0 (l0_0.length : Int) x23_2 ((rd_T44 l0_0 x23_2).f0) (((rd_T44 l0_0 x23_2).f0).length : Int) (wrap64 (x54_4 + 1)) l0_0 l0_1 a0_2 ((rd_T44 l0_0 x23_2).f0) ((rd_T44 l0_0 x23_2).f1) ((rd_T44 l0_0 x23_2).f2))) = some r := H
                                          have A46 := Aside0.mk A460
                                          clear A460
                                          by_cases c47 : t162 = 0
                                          · rw [if_pos c47] at H
                                            have c47b0 : (t162 == 0) = true := beq_iff_eq.mpr c47
                                            have c47b1 : (t162 != 0) = false := bne_eq_false_iff_eq.mpr c47
                                            clear c47
                                            obtain rfl := Option.some.inj H
                                            have p160 : 0 ≤ (x54_4 : Int) := of_decide_eq_true (by first | (with_reducible assumption) | assumption)
                                            have q160 : x54_4 < (((rd_T44 l0_0 x23_2).f0).length : Int) := of_decide_eq_true (by first | (with_reducible assumption) | assumption)
                                            obtain ⟨ad160, e160, hx160_0⟩ := Kd.at_int HR157_0.out x54_4 p160 q160
                                            cases e160
                                            replace hx160_0 := (HB.out.cell (World.block_lt_of_cell? w _ hx160_0)).trans hx160_0
                                            replace p160 := eq_true p160
                                            replace q160 := eq_true q160
                                            have hnb48 := NB155_158.out
                                            have hnc48 := NB158_155.out
                                            have hcz49_0 : wr.cell? ⟨gb155, 0, none⟩ = some (.slice (some ad157) l0_0.length c0_0) := (blk_cell BK155.out 0).trans rfl
                                            have hcz49_1 : wr.cell? ⟨gb155, 1, none⟩ = some (.slice A0_1 l0_1.length c0_1) := (blk_cell BK155.out 1).trans rfl
                                            have hcz49_2 : wr.cell? ⟨gb155, 2, none⟩ = some (.bool a0_2) := (blk_cell BK155.out 2).trans rfl
                                            have hfz49_0 := blk_frozen BK155.out 0
                                            have hfz49_1 := blk_frozen BK155.out 1
                                            have hfz49_2 := blk_frozen BK155.out 2
                                            go_wp2_with (first | ((with_reducible refine gate_callee (f := 31) rfl ?_); refine goesL_ (some 60) rfl rfl Try.func31 (by kernel_rfl) rfl #[.agg #[.slice (some ad157) l0_0.length c0_0, .slice A0_1 l0_1.length c0_1, .bool a0_2], .int .i64 (rd ((rd_T44 l0_0 x23_2).f0) x54_4)] rfl (by (try simp only [List.map_toArray, List.map_cons, List.map_nil]); first | done | rfl | (simp only [List.length_drop, List.length_take]; rfl)) ?_; (with_reducible refine (spec_l15Cell.calls _ _ l0_0 _ _ l0_1 a0_2 (rd ((rd_T44 l0_0 x23_2).f0) x54_4) true _ ?side1 ?side2 ?side3 ?side4 A41.out).mono ?_); (case side1 => repeat (first | exact (Kd.C_below HR0_0.out HB.out) | (with_reducible refine Kd.C_alloc ?_ _) | (with_reducible refine Kd.C_drewN ?_ _) | (with_reducible refine Kd.C_drew ?_))); (case side2 => exact HC0_0.out); (case side3 => repeat (first | exact (Kd.C_below HR0_1.out HB.out) | (with_reducible refine Kd.C_alloc ?_ _) | (with_reducible refine Kd.C_drewN ?_ _) | (with_reducible refine Kd.C_drew ?_))); (case side4 => exact HC0_1.out); rintro e w50 ⟨rfl, hb⟩; refine ⟨_, rfl, ?_⟩; have n0_ := Aside0.mk (blk_below (g := gb155) (o := .cells #[.slice (some ad157) l0_0.length c0_0, .slice A0_1 l0_1.length c0_1, .bool a0_2] 25 (0, 0)) (by (with_reducible repeat (first | refine blk_drewN ?_ _ | refine blk_drew ?_ | refine blk_alloc ?_ _)); exact BK155.out) hb); have n1_ := Aside0.mk (blk_below (g := gb158) (o := .cells #[.slice (some ad160) ((rd_T44 l0_0 x23_2).f0).length c157_0, .int .i64 ((rd_T44 l0_0 x23_2).f1), .bool ((rd_T44 l0_0 x23_2).f2)] 44 (0, 0)) (by (with_reducible repeat (first | refine blk_drewN ?_ _ | refine blk_drew ?_ | refine blk_alloc ?_ _)); exact BK158.out) hb); have n2_ := Aside0.mk (below_step (by repeat (first | (with_reducible first | exact HB.out | apply below_alloc | apply pw_below_drewN | apply below_drew1 | refine below_set ?_ GE155.out | refine below_set ?_ GE158.out) | exact HB.out)) hb); clear BK155; clear BK158; clear HB; have BK155 := n0_; have BK158 := n1_; have HB := n2_; clear n0_ n1_ n2_; (try clear hb); (try clear hb2); (try clear hk); (try clear hi); have hcz51_0 : w50.cell? ⟨gb158, 0, none⟩ = some (.slice (some ad160) ((rd_T44 l0_0 x23_2).f0).length c157_0) := (blk_cell BK158.out 0).trans rfl; have hcz51_1 : w50.cell? ⟨gb158, 1, none⟩ = some (.int .i64 ((rd_T44 l0_0 x23_2).f1)) := (blk_cell BK158.out 1).trans rfl; have hcz51_2 : w50.cell? ⟨gb158, 2, none⟩ = some (.bool ((rd_T44 l0_0 x23_2).f2)) := (blk_cell BK158.out 2).trans rfl; have hfz51_0 := blk_frozen BK158.out 0; have hfz51_1 := blk_frozen BK158.out 1; have hfz51_2 := blk_frozen BK158.out 2; have hcz52_0 : w50.cell? ⟨gb155, 0, none⟩ = some (.slice (some ad157) l0_0.length c0_0) := (blk_cell BK155.out 0).trans rfl; have hcz52_1 : w50.cell? ⟨gb155, 1, none⟩ = some (.slice A0_1 l0_1.length c0_1) := (blk_cell BK155.out 1).trans rfl; have hcz52_2 : w50.cell? ⟨gb155, 2, none⟩ = some (.bool a0_2) := (blk_cell BK155.out 2).trans rfl; have hfz52_0 := blk_frozen BK155.out 0; have hfz52_1 := blk_frozen BK155.out 1; have hfz52_2 := blk_frozen BK155.out 2) | (go_at_call 32; (with_reducible refine (spec_l15Color.calls _ _ l0_0 _ _ l0_1 a0_2 (rd ((rd_T44 l0_0 x23_2).f0) x54_4) t162 _ ?side1 ?side2 ?side3 ?side4 A46.out).mono ?_); (case side1 => repeat (first | exact (Kd.C_below HR0_0.out HB.out) | (with_reducible refine Kd.C_alloc ?_ _) | (with_reducible refine Kd.C_drewN ?_ _) | (with_reducible refine Kd.C_drew ?_))); (case side2 => exact HC0_0.out); (case side3 => repeat (first | exact (Kd.C_below HR0_1.out HB.out) | (with_reducible refine Kd.C_alloc ?_ _) | (with_reducible refine Kd.C_drewN ?_ _) | (with_reducible refine Kd.C_drew ?_))); (case side4 => exact HC0_1.out); rintro e w53 ⟨rfl, hb⟩; have n0_ := Aside0.mk (blk_below (g := gb155) (o := .cells #[.slice (some ad157) l0_0.length c0_0, .slice A0_1 l0_1.length c0_1, .bool a0_2] 25 (0, 0)) (by (with_reducible repeat (first | refine blk_drewN ?_ _ | refine blk_drew ?_ | refine blk_alloc ?_ _)); exact BK155.out) hb); have n1_ := Aside0.mk (blk_below (g := gb158) (o := .cells #[.slice (some ad160) ((rd_T44 l0_0 x23_2).f0).length c157_0, .int .i64 ((rd_T44 l0_0 x23_2).f1), .bool ((rd_T44 l0_0 x23_2).f2)] 44 (0, 0)) (by (with_reducible repeat (first | refine blk_drewN ?_ _ | refine blk_drew ?_ | refine blk_alloc ?_ _)); exact BK158.out) hb); have n2_ := Aside0.mk (below_step (by repeat (first | (with_reducible first | exact HB.out | apply below_alloc | apply pw_below_drewN | apply below_drew1 | refine below_set ?_ GE155.out | refine below_set ?_ GE158.out) | exact HB.out)) hb); clear BK155; clear BK158; clear HB; have BK155 := n0_; have BK158 := n1_; have HB := n2_; clear n0_ n1_ n2_; (try clear hb); (try clear hb2); (try clear hk); (try clear hi)))
                                            go_ret
                                            exact ⟨by first | rfl | (simp [errW_none, errW_some] <;> rfl) | (simp [*, errW_none, errW_some] <;> rfl), by repeat (first | (with_reducible first | exact HB.out | apply below_alloc | apply pw_below_drewN | apply below_drew1 | refine below_set ?_ GE155.out | refine below_set ?_ GE158.out) | exact HB.out)⟩
                                          · rw [if_neg c47] at H
                                            have c47b0 : (t162 == 0) = false := beq_eq_false_iff_ne.mpr c47
                                            have c47b1 : (t162 != 0) = true := bne_iff_ne.mpr c47
                                            have H' := Aside0.mk H
                                            clear H
                                            have p160 : 0 ≤ (x54_4 : Int) := of_decide_eq_true (by first | (with_reducible assumption) | assumption)
                                            have q160 : x54_4 < (((rd_T44 l0_0 x23_2).f0).length : Int) := of_decide_eq_true (by first | (with_reducible assumption) | assumption)
                                            obtain ⟨ad160, e160, hx160_0⟩ := Kd.at_int HR157_0.out x54_4 p160 q160
                                            cases e160
                                            replace hx160_0 := (HB.out.cell (World.block_lt_of_cell? w _ hx160_0)).trans hx160_0
                                            replace p160 := eq_true p160
                                            replace q160 := eq_true q160
                                            have hnb54 := NB155_158.out
                                            have hnc54 := NB158_155.out
                                            have hcz55_0 : wr.cell? ⟨gb155, 0, none⟩ = some (.slice (some ad157) l0_0.length c0_0) := (blk_cell BK155.out 0).trans rfl
                                            have hcz55_1 : wr.cell? ⟨gb155, 1, none⟩ = some (.slice A0_1 l0_1.length c0_1) := (blk_cell BK155.out 1).trans rfl
                                            have hcz55_2 : wr.cell? ⟨gb155, 2, none⟩ = some (.bool a0_2) := (blk_cell BK155.out 2).trans rfl
                                            have hfz55_0 := blk_frozen BK155.out 0
                                            have hfz55_1 := blk_frozen BK155.out 1
                                            have hfz55_2 := blk_frozen BK155.out 2
                                            go_wp2_with (first | ((with_reducible refine gate_callee (f := 31) rfl ?_); refine goesL_ (some 60) rfl rfl Try.func31 (by kernel_rfl) rfl #[.agg #[.slice (some ad157) l0_0.length c0_0, .slice A0_1 l0_1.length c0_1, .bool a0_2], .int .i64 (rd ((rd_T44 l0_0 x23_2).f0) x54_4)] rfl (by (try simp only [List.map_toArray, List.map_cons, List.map_nil]); first | done | rfl | (simp only [List.length_drop, List.length_take]; rfl)) ?_; (with_reducible refine (spec_l15Cell.calls _ _ l0_0 _ _ l0_1 a0_2 (rd ((rd_T44 l0_0 x23_2).f0) x54_4) true _ ?side1 ?side2 ?side3 ?side4 A41.out).mono ?_); (case side1 => repeat (first | exact (Kd.C_below HR0_0.out HB.out) | (with_reducible refine Kd.C_alloc ?_ _) | (with_reducible refine Kd.C_drewN ?_ _) | (with_reducible refine Kd.C_drew ?_))); (case side2 => exact HC0_0.out); (case side3 => repeat (first | exact (Kd.C_below HR0_1.out HB.out) | (with_reducible refine Kd.C_alloc ?_ _) | (with_reducible refine Kd.C_drewN ?_ _) | (with_reducible refine Kd.C_drew ?_))); (case side4 => exact HC0_1.out); rintro e w56 ⟨rfl, hb⟩; refine ⟨_, rfl, ?_⟩; have n0_ := Aside0.mk (blk_below (g := gb155) (o := .cells #[.slice (some ad157) l0_0.length c0_0, .slice A0_1 l0_1.length c0_1, .bool a0_2] 25 (0, 0)) (by (with_reducible repeat (first | refine blk_drewN ?_ _ | refine blk_drew ?_ | refine blk_alloc ?_ _)); exact BK155.out) hb); have n1_ := Aside0.mk (blk_below (g := gb158) (o := .cells #[.slice (some ad160) ((rd_T44 l0_0 x23_2).f0).length c157_0, .int .i64 ((rd_T44 l0_0 x23_2).f1), .bool ((rd_T44 l0_0 x23_2).f2)] 44 (0, 0)) (by (with_reducible repeat (first | refine blk_drewN ?_ _ | refine blk_drew ?_ | refine blk_alloc ?_ _)); exact BK158.out) hb); have n2_ := Aside0.mk (below_step (by repeat (first | (with_reducible first | exact HB.out | apply below_alloc | apply pw_below_drewN | apply below_drew1 | refine below_set ?_ GE155.out | refine below_set ?_ GE158.out) | exact HB.out)) hb); clear BK155; clear BK158; clear HB; have BK155 := n0_; have BK158 := n1_; have HB := n2_; clear n0_ n1_ n2_; (try clear hb); (try clear hb2); (try clear hk); (try clear hi); have hcz57_0 : w56.cell? ⟨gb158, 0, none⟩ = some (.slice (some ad160) ((rd_T44 l0_0 x23_2).f0).length c157_0) := (blk_cell BK158.out 0).trans rfl; have hcz57_1 : w56.cell? ⟨gb158, 1, none⟩ = some (.int .i64 ((rd_T44 l0_0 x23_2).f1)) := (blk_cell BK158.out 1).trans rfl; have hcz57_2 : w56.cell? ⟨gb158, 2, none⟩ = some (.bool ((rd_T44 l0_0 x23_2).f2)) := (blk_cell BK158.out 2).trans rfl; have hfz57_0 := blk_frozen BK158.out 0; have hfz57_1 := blk_frozen BK158.out 1; have hfz57_2 := blk_frozen BK158.out 2; have hcz58_0 : w56.cell? ⟨gb155, 0, none⟩ = some (.slice (some ad157) l0_0.length c0_0) := (blk_cell BK155.out 0).trans rfl; have hcz58_1 : w56.cell? ⟨gb155, 1, none⟩ = some (.slice A0_1 l0_1.length c0_1) := (blk_cell BK155.out 1).trans rfl; have hcz58_2 : w56.cell? ⟨gb155, 2, none⟩ = some (.bool a0_2) := (blk_cell BK155.out 2).trans rfl; have hfz58_0 := blk_frozen BK155.out 0; have hfz58_1 := blk_frozen BK155.out 1; have hfz58_2 := blk_frozen BK155.out 2) | (go_at_call 32; (with_reducible refine (spec_l15Color.calls _ _ l0_0 _ _ l0_1 a0_2 (rd ((rd_T44 l0_0 x23_2).f0) x54_4) t162 _ ?side1 ?side2 ?side3 ?side4 A46.out).mono ?_); (case side1 => repeat (first | exact (Kd.C_below HR0_0.out HB.out) | (with_reducible refine Kd.C_alloc ?_ _) | (with_reducible refine Kd.C_drewN ?_ _) | (with_reducible refine Kd.C_drew ?_))); (case side2 => exact HC0_0.out); (case side3 => repeat (first | exact (Kd.C_below HR0_1.out HB.out) | (with_reducible refine Kd.C_alloc ?_ _) | (with_reducible refine Kd.C_drewN ?_ _) | (with_reducible refine Kd.C_drew ?_))); (case side4 => exact HC0_1.out); rintro e w59 ⟨rfl, hb⟩; have n0_ := Aside0.mk (blk_below (g := gb155) (o := .cells #[.slice (some ad157) l0_0.length c0_0, .slice A0_1 l0_1.length c0_1, .bool a0_2] 25 (0, 0)) (by (with_reducible repeat (first | refine blk_drewN ?_ _ | refine blk_drew ?_ | refine blk_alloc ?_ _)); exact BK155.out) hb); have n1_ := Aside0.mk (blk_below (g := gb158) (o := .cells #[.slice (some ad160) ((rd_T44 l0_0 x23_2).f0).length c157_0, .int .i64 ((rd_T44 l0_0 x23_2).f1), .bool ((rd_T44 l0_0 x23_2).f2)] 44 (0, 0)) (by (with_reducible repeat (first | refine blk_drewN ?_ _ | refine blk_drew ?_ | refine blk_alloc ?_ _)); exact BK158.out) hb); have n2_ := Aside0.mk (below_step (by repeat (first | (with_reducible first | exact HB.out | apply below_alloc | apply pw_below_drewN | apply below_drew1 | refine below_set ?_ GE155.out | refine below_set ?_ GE158.out) | exact HB.out)) hb); clear BK155; clear BK158; clear HB; have BK155 := n0_; have BK158 := n1_; have HB := n2_; clear n0_ n1_ n2_; (try clear hb); (try clear hb2); (try clear hk); (try clear hi)))
                                            go_roundg k4
                                            case measure => have := HJ1.out; have := HK2.out; have := HJ12.out; have := HK4.out; omega
                                            case rel => exact ⟨(wrap64 (x54_4 + 1)), (by first | rfl | (simp; done) | (simp [*]; done)), H', ⟨by have := HJ1.out; have := HK2.out; have := HJ12.out; have := HK4.out; omega⟩, ⟨by (with_reducible repeat (first | refine blk_drewN ?_ _ | refine blk_drew ?_ | refine blk_alloc ?_ _)); exact BK155.out⟩, ⟨by (with_reducible repeat (first | refine blk_drewN ?_ _ | refine blk_drew ?_ | refine blk_alloc ?_ _)); exact BK158.out⟩, ⟨by repeat (first | (with_reducible first | exact HB.out | apply below_alloc | apply pw_below_drewN | apply below_drew1 | refine below_set ?_ GE155.out | refine below_set ?_ GE158.out) | exact HB.out)⟩⟩
                                        · rw [if_neg c45] at H
                                          have c45b0 : (((rd_T44 l0_0 x23_2).f1) == 2) = false := beq_eq_false_iff_ne.mpr c45
                                          have c45b1 : (((rd_T44 l0_0 x23_2).f1) != 2) = true := bne_iff_ne.mpr c45
                                          have H' := Aside0.mk H
                                          clear H
                                          have p160 : 0 ≤ (x54_4 : Int) := of_decide_eq_true (by first | (with_reducible assumption) | assumption)
                                          have q160 : x54_4 < (((rd_T44 l0_0 x23_2).f0).length : Int) := of_decide_eq_true (by first | (with_reducible assumption) | assumption)
                                          obtain ⟨ad160, e160, hx160_0⟩ := Kd.at_int HR157_0.out x54_4 p160 q160
                                          cases e160
                                          replace hx160_0 := (HB.out.cell (World.block_lt_of_cell? w _ hx160_0)).trans hx160_0
                                          replace p160 := eq_true p160
                                          replace q160 := eq_true q160
                                          have hnb60 := NB155_158.out
                                          have hnc60 := NB158_155.out
                                          have hcz61_0 : wr.cell? ⟨gb155, 0, none⟩ = some (.slice (some ad157) l0_0.length c0_0) := (blk_cell BK155.out 0).trans rfl
                                          have hcz61_1 : wr.cell? ⟨gb155, 1, none⟩ = some (.slice A0_1 l0_1.length c0_1) := (blk_cell BK155.out 1).trans rfl
                                          have hcz61_2 : wr.cell? ⟨gb155, 2, none⟩ = some (.bool a0_2) := (blk_cell BK155.out 2).trans rfl
                                          have hfz61_0 := blk_frozen BK155.out 0
                                          have hfz61_1 := blk_frozen BK155.out 1
                                          have hfz61_2 := blk_frozen BK155.out 2
                                          go_wp2_with (first | ((with_reducible refine gate_callee (f := 31) rfl ?_); refine goesL_ (some 60) rfl rfl Try.func31 (by kernel_rfl) rfl #[.agg #[.slice (some ad157) l0_0.length c0_0, .slice A0_1 l0_1.length c0_1, .bool a0_2], .int .i64 (rd ((rd_T44 l0_0 x23_2).f0) x54_4)] rfl (by (try simp only [List.map_toArray, List.map_cons, List.map_nil]); first | done | rfl | (simp only [List.length_drop, List.length_take]; rfl)) ?_; (with_reducible refine (spec_l15Cell.calls _ _ l0_0 _ _ l0_1 a0_2 (rd ((rd_T44 l0_0 x23_2).f0) x54_4) true _ ?side1 ?side2 ?side3 ?side4 A41.out).mono ?_); (case side1 => repeat (first | exact (Kd.C_below HR0_0.out HB.out) | (with_reducible refine Kd.C_alloc ?_ _) | (with_reducible refine Kd.C_drewN ?_ _) | (with_reducible refine Kd.C_drew ?_))); (case side2 => exact HC0_0.out); (case side3 => repeat (first | exact (Kd.C_below HR0_1.out HB.out) | (with_reducible refine Kd.C_alloc ?_ _) | (with_reducible refine Kd.C_drewN ?_ _) | (with_reducible refine Kd.C_drew ?_))); (case side4 => exact HC0_1.out); rintro e w62 ⟨rfl, hb⟩; refine ⟨_, rfl, ?_⟩; have n0_ := Aside0.mk (blk_below (g := gb155) (o := .cells #[.slice (some ad157) l0_0.length c0_0, .slice A0_1 l0_1.length c0_1, .bool a0_2] 25 (0, 0)) (by (with_reducible repeat (first | refine blk_drewN ?_ _ | refine blk_drew ?_ | refine blk_alloc ?_ _)); exact BK155.out) hb); have n1_ := Aside0.mk (blk_below (g := gb158) (o := .cells #[.slice (some ad160) ((rd_T44 l0_0 x23_2).f0).length c157_0, .int .i64 ((rd_T44 l0_0 x23_2).f1), .bool ((rd_T44 l0_0 x23_2).f2)] 44 (0, 0)) (by (with_reducible repeat (first | refine blk_drewN ?_ _ | refine blk_drew ?_ | refine blk_alloc ?_ _)); exact BK158.out) hb); have n2_ := Aside0.mk (below_step (by repeat (first | (with_reducible first | exact HB.out | apply below_alloc | apply pw_below_drewN | apply below_drew1 | refine below_set ?_ GE155.out | refine below_set ?_ GE158.out) | exact HB.out)) hb); clear BK155; clear BK158; clear HB; have BK155 := n0_; have BK158 := n1_; have HB := n2_; clear n0_ n1_ n2_; (try clear hb); (try clear hb2); (try clear hk); (try clear hi); have hcz63_0 : w62.cell? ⟨gb158, 0, none⟩ = some (.slice (some ad160) ((rd_T44 l0_0 x23_2).f0).length c157_0) := (blk_cell BK158.out 0).trans rfl; have hcz63_1 : w62.cell? ⟨gb158, 1, none⟩ = some (.int .i64 ((rd_T44 l0_0 x23_2).f1)) := (blk_cell BK158.out 1).trans rfl; have hcz63_2 : w62.cell? ⟨gb158, 2, none⟩ = some (.bool ((rd_T44 l0_0 x23_2).f2)) := (blk_cell BK158.out 2).trans rfl; have hfz63_0 := blk_frozen BK158.out 0; have hfz63_1 := blk_frozen BK158.out 1; have hfz63_2 := blk_frozen BK158.out 2))
                                          go_roundg k4
                                          case measure => have := HJ1.out; have := HK2.out; have := HJ12.out; have := HK4.out; omega
                                          case rel => exact ⟨(wrap64 (x54_4 + 1)), (by first | rfl | (simp; done) | (simp [*]; done)), H', ⟨by have := HJ1.out; have := HK2.out; have := HJ12.out; have := HK4.out; omega⟩, ⟨by (with_reducible repeat (first | refine blk_drewN ?_ _ | refine blk_drew ?_ | refine blk_alloc ?_ _)); exact BK155.out⟩, ⟨by (with_reducible repeat (first | refine blk_drewN ?_ _ | refine blk_drew ?_ | refine blk_alloc ?_ _)); exact BK158.out⟩, ⟨by repeat (first | (with_reducible first | exact HB.out | apply below_alloc | apply pw_below_drewN | apply below_drew1 | refine below_set ?_ GE155.out | refine below_set ?_ GE158.out) | exact HB.out)⟩⟩
                                      · rw [if_neg c44] at H
                                        have c44b0 : ((rd ((rd_T44 l0_0 x23_2).f0) x54_4) == (-1)) = false := beq_eq_false_iff_ne.mpr c44
                                        have c44b1 : ((rd ((rd_T44 l0_0 x23_2).f0) x54_4) != (-1)) = true := bne_iff_ne.mpr c44
                                        obtain rfl := Option.some.inj H
                                        have p160 : 0 ≤ (x54_4 : Int) := of_decide_eq_true (by first | (with_reducible assumption) | assumption)
                                        have q160 : x54_4 < (((rd_T44 l0_0 x23_2).f0).length : Int) := of_decide_eq_true (by first | (with_reducible assumption) | assumption)
                                        obtain ⟨ad160, e160, hx160_0⟩ := Kd.at_int HR157_0.out x54_4 p160 q160
                                        cases e160
                                        replace hx160_0 := (HB.out.cell (World.block_lt_of_cell? w _ hx160_0)).trans hx160_0
                                        replace p160 := eq_true p160
                                        replace q160 := eq_true q160
                                        have hnb64 := NB155_158.out
                                        have hnc64 := NB158_155.out
                                        have hcz65_0 : wr.cell? ⟨gb155, 0, none⟩ = some (.slice (some ad157) l0_0.length c0_0) := (blk_cell BK155.out 0).trans rfl
                                        have hcz65_1 : wr.cell? ⟨gb155, 1, none⟩ = some (.slice A0_1 l0_1.length c0_1) := (blk_cell BK155.out 1).trans rfl
                                        have hcz65_2 : wr.cell? ⟨gb155, 2, none⟩ = some (.bool a0_2) := (blk_cell BK155.out 2).trans rfl
                                        have hfz65_0 := blk_frozen BK155.out 0
                                        have hfz65_1 := blk_frozen BK155.out 1
                                        have hfz65_2 := blk_frozen BK155.out 2
                                        go_wp2_with (first | ((with_reducible refine gate_callee (f := 31) rfl ?_); refine goesL_ (some 60) rfl rfl Try.func31 (by kernel_rfl) rfl #[.agg #[.slice (some ad157) l0_0.length c0_0, .slice A0_1 l0_1.length c0_1, .bool a0_2], .int .i64 (rd ((rd_T44 l0_0 x23_2).f0) x54_4)] rfl (by (try simp only [List.map_toArray, List.map_cons, List.map_nil]); first | done | rfl | (simp only [List.length_drop, List.length_take]; rfl)) ?_; (with_reducible refine (spec_l15Cell.calls _ _ l0_0 _ _ l0_1 a0_2 (rd ((rd_T44 l0_0 x23_2).f0) x54_4) true _ ?side1 ?side2 ?side3 ?side4 A41.out).mono ?_); (case side1 => repeat (first | exact (Kd.C_below HR0_0.out HB.out) | (with_reducible refine Kd.C_alloc ?_ _) | (with_reducible refine Kd.C_drewN ?_ _) | (with_reducible refine Kd.C_drew ?_))); (case side2 => exact HC0_0.out); (case side3 => repeat (first | exact (Kd.C_below HR0_1.out HB.out) | (with_reducible refine Kd.C_alloc ?_ _) | (with_reducible refine Kd.C_drewN ?_ _) | (with_reducible refine Kd.C_drew ?_))); (case side4 => exact HC0_1.out); rintro e w66 ⟨rfl, hb⟩; refine ⟨_, rfl, ?_⟩; have n0_ := Aside0.mk (blk_below (g := gb155) (o := .cells #[.slice (some ad157) l0_0.length c0_0, .slice A0_1 l0_1.length c0_1, .bool a0_2] 25 (0, 0)) (by (with_reducible repeat (first | refine blk_drewN ?_ _ | refine blk_drew ?_ | refine blk_alloc ?_ _)); exact BK155.out) hb); have n1_ := Aside0.mk (blk_below (g := gb158) (o := .cells #[.slice (some ad160) ((rd_T44 l0_0 x23_2).f0).length c157_0, .int .i64 ((rd_T44 l0_0 x23_2).f1), .bool ((rd_T44 l0_0 x23_2).f2)] 44 (0, 0)) (by (with_reducible repeat (first | refine blk_drewN ?_ _ | refine blk_drew ?_ | refine blk_alloc ?_ _)); exact BK158.out) hb); have n2_ := Aside0.mk (below_step (by repeat (first | (with_reducible first | exact HB.out | apply below_alloc | apply pw_below_drewN | apply below_drew1 | refine below_set ?_ GE155.out | refine below_set ?_ GE158.out) | exact HB.out)) hb); clear BK155; clear BK158; clear HB; have BK155 := n0_; have BK158 := n1_; have HB := n2_; clear n0_ n1_ n2_; (try clear hb); (try clear hb2); (try clear hk); (try clear hi); have hcz67_0 : w66.cell? ⟨gb158, 0, none⟩ = some (.slice (some ad160) ((rd_T44 l0_0 x23_2).f0).length c157_0) := (blk_cell BK158.out 0).trans rfl; have hcz67_1 : w66.cell? ⟨gb158, 1, none⟩ = some (.int .i64 ((rd_T44 l0_0 x23_2).f1)) := (blk_cell BK158.out 1).trans rfl; have hcz67_2 : w66.cell? ⟨gb158, 2, none⟩ = some (.bool ((rd_T44 l0_0 x23_2).f2)) := (blk_cell BK158.out 2).trans rfl; have hfz67_0 := blk_frozen BK158.out 0; have hfz67_1 := blk_frozen BK158.out 1; have hfz67_2 := blk_frozen BK158.out 2))
                                        go_ret
                                        exact ⟨by first | rfl | (simp [errW_none, errW_some] <;> rfl) | (simp [*, errW_none, errW_some] <;> rfl), by repeat (first | (with_reducible first | exact HB.out | apply below_alloc | apply pw_below_drewN | apply below_drew1 | refine below_set ?_ GE155.out | refine below_set ?_ GE158.out) | exact HB.out)⟩
                                    · rw [if_neg c43] at H
                                      have c43b0 : ((rd_T44 l0_0 x23_2).f2) = false := by simpa using c43
                                      clear c43
                                      by_cases c68 : ((rd_T44 l0_0 x23_2).f1) = 2
                                      · rw [if_pos c68] at H
                                        have c68b0 : (((rd_T44 l0_0 x23_2).f1) == 2) = true := beq_iff_eq.mpr c68
                                        have c68b1 : (((rd_T44 l0_0 x23_2).f1) != 2) = false := bne_eq_false_iff_eq.mpr c68
                                        clear c68
                                        replace H := Option.bind_eq_some_iff.mp H
                                        obtain ⟨t163, A690, H⟩ := H
                                        replace H : (if t163 = 0 then (some false) else (spec_GoodMarker.l1 k4 l0_0 (l0_0.length : Int) x23_2 ((rd_T44 l0_0 x23_2).f0) (((rd_T44 l0_0 x23_2).f0).length : Int) (wrap64 (x54_4 + 1)) l0_0 l0_1 a0_2 ((rd_T44 l0_0 x23_2).f0) ((rd_T44 l0_0 x23_2).f1) ((rd_T44 l0_0 x23_2).f2))) = some r := H
                                        have A69 := Aside0.mk A690
                                        clear A690
                                        by_cases c70 : t163 = 0
                                        · rw [if_pos c70] at H
                                          have c70b0 : (t163 == 0) = true := beq_iff_eq.mpr c70
                                          have c70b1 : (t163 != 0) = false := bne_eq_false_iff_eq.mpr c70
                                          clear c70
                                          obtain rfl := Option.some.inj H
                                          have p160 : 0 ≤ (x54_4 : Int) := of_decide_eq_true (by first | (with_reducible assumption) | assumption)
                                          have q160 : x54_4 < (((rd_T44 l0_0 x23_2).f0).length : Int) := of_decide_eq_true (by first | (with_reducible assumption) | assumption)
                                          obtain ⟨ad160, e160, hx160_0⟩ := Kd.at_int HR157_0.out x54_4 p160 q160
                                          cases e160
                                          replace hx160_0 := (HB.out.cell (World.block_lt_of_cell? w _ hx160_0)).trans hx160_0
                                          replace p160 := eq_true p160
                                          replace q160 := eq_true q160
                                          have hnb71 := NB155_158.out
                                          have hnc71 := NB158_155.out
                                          have hcz72_0 : wr.cell? ⟨gb155, 0, none⟩ = some (.slice (some ad157) l0_0.length c0_0) := (blk_cell BK155.out 0).trans rfl
                                          have hcz72_1 : wr.cell? ⟨gb155, 1, none⟩ = some (.slice A0_1 l0_1.length c0_1) := (blk_cell BK155.out 1).trans rfl
                                          have hcz72_2 : wr.cell? ⟨gb155, 2, none⟩ = some (.bool a0_2) := (blk_cell BK155.out 2).trans rfl
                                          have hfz72_0 := blk_frozen BK155.out 0
                                          have hfz72_1 := blk_frozen BK155.out 1
                                          have hfz72_2 := blk_frozen BK155.out 2
                                          go_wp2_with (first | ((with_reducible refine gate_callee (f := 31) rfl ?_); refine goesL_ (some 60) rfl rfl Try.func31 (by kernel_rfl) rfl #[.agg #[.slice (some ad157) l0_0.length c0_0, .slice A0_1 l0_1.length c0_1, .bool a0_2], .int .i64 (rd ((rd_T44 l0_0 x23_2).f0) x54_4)] rfl (by (try simp only [List.map_toArray, List.map_cons, List.map_nil]); first | done | rfl | (simp only [List.length_drop, List.length_take]; rfl)) ?_; (with_reducible refine (spec_l15Cell.calls _ _ l0_0 _ _ l0_1 a0_2 (rd ((rd_T44 l0_0 x23_2).f0) x54_4) true _ ?side1 ?side2 ?side3 ?side4 A41.out).mono ?_); (case side1 => repeat (first | exact (Kd.C_below HR0_0.out HB.out) | (with_reducible refine Kd.C_alloc ?_ _) | (with_reducible refine Kd.C_drewN ?_ _) | (with_reducible refine Kd.C_drew ?_))); (case side2 => exact HC0_0.out); (case side3 => repeat (first | exact (Kd.C_below HR0_1.out HB.out) | (with_reducible refine Kd.C_alloc ?_ _) | (with_reducible refine Kd.C_drewN ?_ _) | (with_reducible refine Kd.C_drew ?_))); (case side4 => exact HC0_1.out); rintro e w73 ⟨rfl, hb⟩; refine ⟨_, rfl, ?_⟩; have n0_ := Aside0.mk (blk_below (g := gb155) (o := .cells #[.slice (some ad157) l0_0.length c0_0, .slice A0_1 l0_1.length c0_1, .bool a0_2] 25 (0, 0)) (by (with_reducible repeat (first | refine blk_drewN ?_ _ | refine blk_drew ?_ | refine blk_alloc ?_ _)); exact BK155.out) hb); have n1_ := Aside0.mk (blk_below (g := gb158) (o := .cells #[.slice (some ad160) ((rd_T44 l0_0 x23_2).f0).length c157_0, .int .i64 ((rd_T44 l0_0 x23_2).f1), .bool ((rd_T44 l0_0 x23_2).f2)] 44 (0, 0)) (by (with_reducible repeat (first | refine blk_drewN ?_ _ | refine blk_drew ?_ | refine blk_alloc ?_ _)); exact BK158.out) hb); have n2_ := Aside0.mk (below_step (by repeat (first | (with_reducible first | exact HB.out | apply below_alloc | apply pw_below_drewN | apply below_drew1 | refine below_set ?_ GE155.out | refine below_set ?_ GE158.out) | exact HB.out)) hb); clear BK155; clear BK158; clear HB; have BK155 := n0_; have BK158 := n1_; have HB := n2_; clear n0_ n1_ n2_; (try clear hb); (try clear hb2); (try clear hk); (try clear hi); have hcz74_0 : w73.cell? ⟨gb158, 0, none⟩ = some (.slice (some ad160) ((rd_T44 l0_0 x23_2).f0).length c157_0) := (blk_cell BK158.out 0).trans rfl; have hcz74_1 : w73.cell? ⟨gb158, 1, none⟩ = some (.int .i64 ((rd_T44 l0_0 x23_2).f1)) := (blk_cell BK158.out 1).trans rfl; have hcz74_2 : w73.cell? ⟨gb158, 2, none⟩ = some (.bool ((rd_T44 l0_0 x23_2).f2)) := (blk_cell BK158.out 2).trans rfl; have hfz74_0 := blk_frozen BK158.out 0; have hfz74_1 := blk_frozen BK158.out 1; have hfz74_2 := blk_frozen BK158.out 2; have hcz75_0 : w73.cell? ⟨gb155, 0, none⟩ = some (.slice (some ad157) l0_0.length c0_0) := (blk_cell BK155.out 0).trans rfl; have hcz75_1 : w73.cell? ⟨gb155, 1, none⟩ = some (.slice A0_1 l0_1.length c0_1) := (blk_cell BK155.out 1).trans rfl; have hcz75_2 : w73.cell? ⟨gb155, 2, none⟩ = some (.bool a0_2) := (blk_cell BK155.out 2).trans rfl; have hfz75_0 := blk_frozen BK155.out 0; have hfz75_1 := blk_frozen BK155.out 1; have hfz75_2 := blk_frozen BK155.out 2) | (go_at_call 32; (with_reducible refine (spec_l15Color.calls _ _ l0_0 _ _ l0_1 a0_2 (rd ((rd_T44 l0_0 x23_2).f0) x54_4) t163 _ ?side1 ?side2 ?side3 ?side4 A69.out).mono ?_); (case side1 => repeat (first | exact (Kd.C_below HR0_0.out HB.out) | (with_reducible refine Kd.C_alloc ?_ _) | (with_reducible refine Kd.C_drewN ?_ _) | (with_reducible refine Kd.C_drew ?_))); (case side2 => exact HC0_0.out); (case side3 => repeat (first | exact (Kd.C_below HR0_1.out HB.out) | (with_reducible refine Kd.C_alloc ?_ _) | (with_reducible refine Kd.C_drewN ?_ _) | (with_reducible refine Kd.C_drew ?_))); (case side4 => exact HC0_1.out); rintro e w76 ⟨rfl, hb⟩; have n0_ := Aside0.mk (blk_below (g := gb155) (o := .cells #[.slice (some ad157) l0_0.length c0_0, .slice A0_1 l0_1.length c0_1, .bool a0_2] 25 (0, 0)) (by (with_reducible repeat (first | refine blk_drewN ?_ _ | refine blk_drew ?_ | refine blk_alloc ?_ _)); exact BK155.out) hb); have n1_ := Aside0.mk (blk_below (g := gb158) (o := .cells #[.slice (some ad160) ((rd_T44 l0_0 x23_2).f0).length c157_0, .int .i64 ((rd_T44 l0_0 x23_2).f1), .bool ((rd_T44 l0_0 x23_2).f2)] 44 (0, 0)) (by (with_reducible repeat (first | refine blk_drewN ?_ _ | refine blk_drew ?_ | refine blk_alloc ?_ _)); exact BK158.out) hb); have n2_ := Aside0.mk (below_step (by repeat (first | (with_reducible first | exact HB.out | apply below_alloc | apply pw_below_drewN | apply below_drew1 | refine below_set ?_ GE155.out | refine below_set ?_ GE158.out) | exact HB.out)) hb); clear BK155; clear BK158; clear HB; have BK155 := n0_; have BK158 := n1_; have HB := n2_; clear n0_ n1_ n2_; (try clear hb); (try clear hb2); (try clear hk); (try clear hi)))
                                          go_ret
                                          exact ⟨by first | rfl | (simp [errW_none, errW_some] <;> rfl) | (simp [*, errW_none, errW_some] <;> rfl), by repeat (first | (with_reducible first | exact HB.out | apply below_alloc | apply pw_below_drewN | apply below_drew1 | refine below_set ?_ GE155.out | refine below_set ?_ GE158.out) | exact HB.out)⟩
                                        · rw [if_neg c70] at H
                                          have c70b0 : (t163 == 0) = false := beq_eq_false_iff_ne.mpr c70
                                          have c70b1 : (t163 != 0) = true := bne_iff_ne.mpr c70
                                          have H' := Aside0.mk H
                                          clear H
                                          have p160 : 0 ≤ (x54_4 : Int) := of_decide_eq_true (by first | (with_reducible assumption) | assumption)
                                          have q160 : x54_4 < (((rd_T44 l0_0 x23_2).f0).length : Int) := of_decide_eq_true (by first | (with_reducible assumption) | assumption)
                                          obtain ⟨ad160, e160, hx160_0⟩ := Kd.at_int HR157_0.out x54_4 p160 q160
                                          cases e160
                                          replace hx160_0 := (HB.out.cell (World.block_lt_of_cell? w _ hx160_0)).trans hx160_0
                                          replace p160 := eq_true p160
                                          replace q160 := eq_true q160
                                          have hnb77 := NB155_158.out
                                          have hnc77 := NB158_155.out
                                          have hcz78_0 : wr.cell? ⟨gb155, 0, none⟩ = some (.slice (some ad157) l0_0.length c0_0) := (blk_cell BK155.out 0).trans rfl
                                          have hcz78_1 : wr.cell? ⟨gb155, 1, none⟩ = some (.slice A0_1 l0_1.length c0_1) := (blk_cell BK155.out 1).trans rfl
                                          have hcz78_2 : wr.cell? ⟨gb155, 2, none⟩ = some (.bool a0_2) := (blk_cell BK155.out 2).trans rfl
                                          have hfz78_0 := blk_frozen BK155.out 0
                                          have hfz78_1 := blk_frozen BK155.out 1
                                          have hfz78_2 := blk_frozen BK155.out 2
                                          go_wp2_with (first | ((with_reducible refine gate_callee (f := 31) rfl ?_); refine goesL_ (some 60) rfl rfl Try.func31 (by kernel_rfl) rfl #[.agg #[.slice (some ad157) l0_0.length c0_0, .slice A0_1 l0_1.length c0_1, .bool a0_2], .int .i64 (rd ((rd_T44 l0_0 x23_2).f0) x54_4)] rfl (by (try simp only [List.map_toArray, List.map_cons, List.map_nil]); first | done | rfl | (simp only [List.length_drop, List.length_take]; rfl)) ?_; (with_reducible refine (spec_l15Cell.calls _ _ l0_0 _ _ l0_1 a0_2 (rd ((rd_T44 l0_0 x23_2).f0) x54_4) true _ ?side1 ?side2 ?side3 ?side4 A41.out).mono ?_); (case side1 => repeat (first | exact (Kd.C_below HR0_0.out HB.out) | (with_reducible refine Kd.C_alloc ?_ _) | (with_reducible refine Kd.C_drewN ?_ _) | (with_reducible refine Kd.C_drew ?_))); (case side2 => exact HC0_0.out); (case side3 => repeat (first | exact (Kd.C_below HR0_1.out HB.out) | (with_reducible refine Kd.C_alloc ?_ _) | (with_reducible refine Kd.C_drewN ?_ _) | (with_reducible refine Kd.C_drew ?_))); (case side4 => exact HC0_1.out); rintro e w79 ⟨rfl, hb⟩; refine ⟨_, rfl, ?_⟩; have n0_ := Aside0.mk (blk_below (g := gb155) (o := .cells #[.slice (some ad157) l0_0.length c0_0, .slice A0_1 l0_1.length c0_1, .bool a0_2] 25 (0, 0)) (by (with_reducible repeat (first | refine blk_drewN ?_ _ | refine blk_drew ?_ | refine blk_alloc ?_ _)); exact BK155.out) hb); have n1_ := Aside0.mk (blk_below (g := gb158) (o := .cells #[.slice (some ad160) ((rd_T44 l0_0 x23_2).f0).length c157_0, .int .i64 ((rd_T44 l0_0 x23_2).f1), .bool ((rd_T44 l0_0 x23_2).f2)] 44 (0, 0)) (by (with_reducible repeat (first | refine blk_drewN ?_ _ | refine blk_drew ?_ | refine blk_alloc ?_ _)); exact BK158.out) hb); have n2_ := Aside0.mk (below_step (by repeat (first | (with_reducible first | exact HB.out | apply below_alloc | apply pw_below_drewN | apply below_drew1 | refine below_set ?_ GE155.out | refine below_set ?_ GE158.out) | exact HB.out)) hb); clear BK155; clear BK158; clear HB; have BK155 := n0_; have BK158 := n1_; have HB := n2_; clear n0_ n1_ n2_; (try clear hb); (try clear hb2); (try clear hk); (try clear hi); have hcz80_0 : w79.cell? ⟨gb158, 0, none⟩ = some (.slice (some ad160) ((rd_T44 l0_0 x23_2).f0).length c157_0) := (blk_cell BK158.out 0).trans rfl; have hcz80_1 : w79.cell? ⟨gb158, 1, none⟩ = some (.int .i64 ((rd_T44 l0_0 x23_2).f1)) := (blk_cell BK158.out 1).trans rfl; have hcz80_2 : w79.cell? ⟨gb158, 2, none⟩ = some (.bool ((rd_T44 l0_0 x23_2).f2)) := (blk_cell BK158.out 2).trans rfl; have hfz80_0 := blk_frozen BK158.out 0; have hfz80_1 := blk_frozen BK158.out 1; have hfz80_2 := blk_frozen BK158.out 2; have hcz81_0 : w79.cell? ⟨gb155, 0, none⟩ = some (.slice (some ad157) l0_0.length c0_0) := (blk_cell BK155.out 0).trans rfl; have hcz81_1 : w79.cell? ⟨gb155, 1, none⟩ = some (.slice A0_1 l0_1.length c0_1) := (blk_cell BK155.out 1).trans rfl; have hcz81_2 : w79.cell? ⟨gb155, 2, none⟩ = some (.bool a0_2) := (blk_cell BK155.out 2).trans rfl; have hfz81_0 := blk_frozen BK155.out 0; have hfz81_1 := blk_frozen BK155.out 1; have hfz81_2 := blk_frozen BK155.out 2) | (go_at_call 32; (with_reducible refine (spec_l15Color.calls _ _ l0_0 _ _ l0_1 a0_2 (rd ((rd_T44 l0_0 x23_2).f0) x54_4) t163 _ ?side1 ?side2 ?side3 ?side4 A69.out).mono ?_); (case side1 => repeat (first | exact (Kd.C_below HR0_0.out HB.out) | (with_reducible refine Kd.C_alloc ?_ _) | (with_reducible refine Kd.C_drewN ?_ _) | (with_reducible refine Kd.C_drew ?_))); (case side2 => exact HC0_0.out); (case side3 => repeat (first | exact (Kd.C_below HR0_1.out HB.out) | (with_reducible refine Kd.C_alloc ?_ _) | (with_reducible refine Kd.C_drewN ?_ _) | (with_reducible refine Kd.C_drew ?_))); (case side4 => exact HC0_1.out); rintro e w82 ⟨rfl, hb⟩; have n0_ := Aside0.mk (blk_below (g := gb155) (o := .cells #[.slice (some ad157) l0_0.length c0_0, .slice A0_1 l0_1.length c0_1, .bool a0_2] 25 (0, 0)) (by (with_reducible repeat (first | refine blk_drewN ?_ _ | refine blk_drew ?_ | refine blk_alloc ?_ _)); exact BK155.out) hb); have n1_ := Aside0.mk (blk_below (g := gb158) (o := .cells #[.slice (some ad160) ((rd_T44 l0_0 x23_2).f0).length c157_0, .int .i64 ((rd_T44 l0_0 x23_2).f1), .bool ((rd_T44 l0_0 x23_2).f2)] 44 (0, 0)) (by (with_reducible repeat (first | refine blk_drewN ?_ _ | refine blk_drew ?_ | refine blk_alloc ?_ _)); exact BK158.out) hb); have n2_ := Aside0.mk (below_step (by repeat (first | (with_reducible first | exact HB.out | apply below_alloc | apply pw_below_drewN | apply below_drew1 | refine below_set ?_ GE155.out | refine below_set ?_ GE158.out) | exact HB.out)) hb); clear BK155; clear BK158; clear HB; have BK155 := n0_; have BK158 := n1_; have HB := n2_; clear n0_ n1_ n2_; (try clear hb); (try clear hb2); (try clear hk); (try clear hi)))
                                          go_roundg k4
                                          case measure => have := HJ1.out; have := HK2.out; have := HJ12.out; have := HK4.out; omega
                                          case rel => exact ⟨(wrap64 (x54_4 + 1)), (by first | rfl | (simp; done) | (simp [*]; done)), H', ⟨by have := HJ1.out; have := HK2.out; have := HJ12.out; have := HK4.out; omega⟩, ⟨by (with_reducible repeat (first | refine blk_drewN ?_ _ | refine blk_drew ?_ | refine blk_alloc ?_ _)); exact BK155.out⟩, ⟨by (with_reducible repeat (first | refine blk_drewN ?_ _ | refine blk_drew ?_ | refine blk_alloc ?_ _)); exact BK158.out⟩, ⟨by repeat (first | (with_reducible first | exact HB.out | apply below_alloc | apply pw_below_drewN | apply below_drew1 | refine below_set ?_ GE155.out | refine below_set ?_ GE158.out) | exact HB.out)⟩⟩
                                      · rw [if_neg c68] at H
                                        have c68b0 : (((rd_T44 l0_0 x23_2).f1) == 2) = false := beq_eq_false_iff_ne.mpr c68
                                        have c68b1 : (((rd_T44 l0_0 x23_2).f1) != 2) = true := bne_iff_ne.mpr c68
                                        have H' := Aside0.mk H
                                        clear H
                                        have p160 : 0 ≤ (x54_4 : Int) := of_decide_eq_true (by first | (with_reducible assumption) | assumption)
                                        have q160 : x54_4 < (((rd_T44 l0_0 x23_2).f0).length : Int) := of_decide_eq_true (by first | (with_reducible assumption) | assumption)
                                        obtain ⟨ad160, e160, hx160_0⟩ := Kd.at_int HR157_0.out x54_4 p160 q160
                                        cases e160
                                        replace hx160_0 := (HB.out.cell (World.block_lt_of_cell? w _ hx160_0)).trans hx160_0
                                        replace p160 := eq_true p160
                                        replace q160 := eq_true q160
                                        have hnb83 := NB155_158.out
                                        have hnc83 := NB158_155.out
                                        have hcz84_0 : wr.cell? ⟨gb155, 0, none⟩ = some (.slice (some ad157) l0_0.length c0_0) := (blk_cell BK155.out 0).trans rfl
                                        have hcz84_1 : wr.cell? ⟨gb155, 1, none⟩ = some (.slice A0_1 l0_1.length c0_1) := (blk_cell BK155.out 1).trans rfl
                                        have hcz84_2 : wr.cell? ⟨gb155, 2, none⟩ = some (.bool a0_2) := (blk_cell BK155.out 2).trans rfl
                                        have hfz84_0 := blk_frozen BK155.out 0
                                        have hfz84_1 := blk_frozen BK155.out 1
                                        have hfz84_2 := blk_frozen BK155.out 2
                                        go_wp2_with (first | ((with_reducible refine gate_callee (f := 31) rfl ?_); refine goesL_ (some 60) rfl rfl Try.func31 (by kernel_rfl) rfl #[.agg #[.slice (some ad157) l0_0.length c0_0, .slice A0_1 l0_1.length c0_1, .bool a0_2], .int .i64 (rd ((rd_T44 l0_0 x23_2).f0) x54_4)] rfl (by (try simp only [List.map_toArray, List.map_cons, List.map_nil]); first | done | rfl | (simp only [List.length_drop, List.length_take]; rfl)) ?_; (with_reducible refine (spec_l15Cell.calls _ _ l0_0 _ _ l0_1 a0_2 (rd ((rd_T44 l0_0 x23_2).f0) x54_4) true _ ?side1 ?side2 ?side3 ?side4 A41.out).mono ?_); (case side1 => repeat (first | exact (Kd.C_below HR0_0.out HB.out) | (with_reducible refine Kd.C_alloc ?_ _) | (with_reducible refine Kd.C_drewN ?_ _) | (with_reducible refine Kd.C_drew ?_))); (case side2 => exact HC0_0.out); (case side3 => repeat (first | exact (Kd.C_below HR0_1.out HB.out) | (with_reducible refine Kd.C_alloc ?_ _) | (with_reducible refine Kd.C_drewN ?_ _) | (with_reducible refine Kd.C_drew ?_))); (case side4 => exact HC0_1.out); rintro e w85 ⟨rfl, hb⟩; refine ⟨_, rfl, ?_⟩; have n0_ := Aside0.mk (blk_below (g := gb155) (o := .cells #[.slice (some ad157) l0_0.length c0_0, .slice A0_1 l0_1.length c0_1, .bool a0_2] 25 (0, 0)) (by (with_reducible repeat (first | refine blk_drewN ?_ _ | refine blk_drew ?_ | refine blk_alloc ?_ _)); exact BK155.out) hb); have n1_ := Aside0.mk (blk_below (g := gb158) (o := .cells #[.slice (some ad160) ((rd_T44 l0_0 x23_2).f0).length c157_0, .int .i64 ((rd_T44 l0_0 x23_2).f1), .bool ((rd_T44 l0_0 x23_2).f2)] 44 (0, 0)) (by (with_reducible repeat (first | refine blk_drewN ?_ _ | refine blk_drew ?_ | refine blk_alloc ?_ _)); exact BK158.out) hb); have n2_ := Aside0.mk (below_step (by repeat (first | (with_reducible first | exact HB.out | apply below_alloc | apply pw_below_drewN | apply below_drew1 | refine below_set ?_ GE155.out | refine below_set ?_ GE158.out) | exact HB.out)) hb); clear BK155; clear BK158; clear HB; have BK155 := n0_; have BK158 := n1_; have HB := n2_; clear n0_ n1_ n2_; (try clear hb); (try clear hb2); (try clear hk); (try clear hi); have hcz86_0 : w85.cell? ⟨gb158, 0, none⟩ = some (.slice (some ad160) ((rd_T44 l0_0 x23_2).f0).length c157_0) := (blk_cell BK158.out 0).trans rfl; have hcz86_1 : w85.cell? ⟨gb158, 1, none⟩ = some (.int .i64 ((rd_T44 l0_0 x23_2).f1)) := (blk_cell BK158.out 1).trans rfl; have hcz86_2 : w85.cell? ⟨gb158, 2, none⟩ = some (.bool ((rd_T44 l0_0 x23_2).f2)) := (blk_cell BK158.out 2).trans rfl; have hfz86_0 := blk_frozen BK158.out 0; have hfz86_1 := blk_frozen BK158.out 1; have hfz86_2 := blk_frozen BK158.out 2))
                                        go_roundg k4
                                        case measure => have := HJ1.out; have := HK2.out; have := HJ12.out; have := HK4.out; omega
                                        case rel => exact ⟨(wrap64 (x54_4 + 1)), (by first | rfl | (simp; done) | (simp [*]; done)), H', ⟨by have := HJ1.out; have := HK2.out; have := HJ12.out; have := HK4.out; omega⟩, ⟨by (with_reducible repeat (first | refine blk_drewN ?_ _ | refine blk_drew ?_ | refine blk_alloc ?_ _)); exact BK155.out⟩, ⟨by (with_reducible repeat (first | refine blk_drewN ?_ _ | refine blk_drew ?_ | refine blk_alloc ?_ _)); exact BK158.out⟩, ⟨by repeat (first | (with_reducible first | exact HB.out | apply below_alloc | apply pw_below_drewN | apply below_drew1 | refine below_set ?_ GE155.out | refine below_set ?_ GE158.out) | exact HB.out)⟩⟩
                                  · replace c42 := Bool.eq_false_iff.mpr c42
                                    subst c42
                                    have H1 : (some false) = some r := by rw [if_neg (show ¬ (false = true) by decide)] at H; exact H
                                    clear H
                                    have H := H1
                                    clear H1
                                    obtain rfl := Option.some.inj H
                                    have p160 : 0 ≤ (x54_4 : Int) := of_decide_eq_true (by first | (with_reducible assumption) | assumption)
                                    have q160 : x54_4 < (((rd_T44 l0_0 x23_2).f0).length : Int) := of_decide_eq_true (by first | (with_reducible assumption) | assumption)
                                    obtain ⟨ad160, e160, hx160_0⟩ := Kd.at_int HR157_0.out x54_4 p160 q160
                                    cases e160
                                    replace hx160_0 := (HB.out.cell (World.block_lt_of_cell? w _ hx160_0)).trans hx160_0
                                    replace p160 := eq_true p160
                                    replace q160 := eq_true q160
                                    have hnb87 := NB155_158.out
                                    have hnc87 := NB158_155.out
                                    have hcz88_0 : wr.cell? ⟨gb155, 0, none⟩ = some (.slice (some ad157) l0_0.length c0_0) := (blk_cell BK155.out 0).trans rfl
                                    have hcz88_1 : wr.cell? ⟨gb155, 1, none⟩ = some (.slice A0_1 l0_1.length c0_1) := (blk_cell BK155.out 1).trans rfl
                                    have hcz88_2 : wr.cell? ⟨gb155, 2, none⟩ = some (.bool a0_2) := (blk_cell BK155.out 2).trans rfl
                                    have hfz88_0 := blk_frozen BK155.out 0
                                    have hfz88_1 := blk_frozen BK155.out 1
                                    have hfz88_2 := blk_frozen BK155.out 2
                                    go_wp2_with (first | ((with_reducible refine gate_callee (f := 31) rfl ?_); refine goesL_ (some 60) rfl rfl Try.func31 (by kernel_rfl) rfl #[.agg #[.slice (some ad157) l0_0.length c0_0, .slice A0_1 l0_1.length c0_1, .bool a0_2], .int .i64 (rd ((rd_T44 l0_0 x23_2).f0) x54_4)] rfl (by (try simp only [List.map_toArray, List.map_cons, List.map_nil]); first | done | rfl | (simp only [List.length_drop, List.length_take]; rfl)) ?_; (with_reducible refine (spec_l15Cell.calls _ _ l0_0 _ _ l0_1 a0_2 (rd ((rd_T44 l0_0 x23_2).f0) x54_4) false _ ?side1 ?side2 ?side3 ?side4 A41.out).mono ?_); (case side1 => repeat (first | exact (Kd.C_below HR0_0.out HB.out) | (with_reducible refine Kd.C_alloc ?_ _) | (with_reducible refine Kd.C_drewN ?_ _) | (with_reducible refine Kd.C_drew ?_))); (case side2 => exact HC0_0.out); (case side3 => repeat (first | exact (Kd.C_below HR0_1.out HB.out) | (with_reducible refine Kd.C_alloc ?_ _) | (with_reducible refine Kd.C_drewN ?_ _) | (with_reducible refine Kd.C_drew ?_))); (case side4 => exact HC0_1.out); rintro e w89 ⟨rfl, hb⟩; refine ⟨_, rfl, ?_⟩; have n0_ := Aside0.mk (blk_below (g := gb155) (o := .cells #[.slice (some ad157) l0_0.length c0_0, .slice A0_1 l0_1.length c0_1, .bool a0_2] 25 (0, 0)) (by (with_reducible repeat (first | refine blk_drewN ?_ _ | refine blk_drew ?_ | refine blk_alloc ?_ _)); exact BK155.out) hb); have n1_ := Aside0.mk (blk_below (g := gb158) (o := .cells #[.slice (some ad160) ((rd_T44 l0_0 x23_2).f0).length c157_0, .int .i64 ((rd_T44 l0_0 x23_2).f1), .bool ((rd_T44 l0_0 x23_2).f2)] 44 (0, 0)) (by (with_reducible repeat (first | refine blk_drewN ?_ _ | refine blk_drew ?_ | refine blk_alloc ?_ _)); exact BK158.out) hb); have n2_ := Aside0.mk (below_step (by repeat (first | (with_reducible first | exact HB.out | apply below_alloc | apply pw_below_drewN | apply below_drew1 | refine below_set ?_ GE155.out | refine below_set ?_ GE158.out) | exact HB.out)) hb); clear BK155; clear BK158; clear HB; have BK155 := n0_; have BK158 := n1_; have HB := n2_; clear n0_ n1_ n2_; (try clear hb); (try clear hb2); (try clear hk); (try clear hi)))
                                    go_ret
                                    exact ⟨by first | rfl | (simp [errW_none, errW_some] <;> rfl) | (simp [*, errW_none, errW_some] <;> rfl), by repeat (first | (with_reducible first | exact HB.out | apply below_alloc | apply pw_below_drewN | apply below_drew1 | refine below_set ?_ GE155.out | refine below_set ?_ GE158.out) | exact HB.out)⟩
                                · rw [if_neg c40] at H
                                  exact absurd H (by simp)
                              · rw [if_neg c39] at H
                                exact absurd H (by simp)
                            · rw [if_neg c38] at H
                              have c38b0 : decide (x54_4 < (((rd_T44 l0_0 x23_2).f0).length : Int)) = false := decide_eq_false c38
                              clear c38
                              have H' := Aside0.mk H
                              clear H
                              go_wp2
                              go_roundg k4
                              case measure => have := HJ1.out; have := HK2.out; have := HJ12.out; have := HK4.out; omega
                              case rel => exact ⟨(wrap64 (x23_2 + 1)), (by first | rfl | (simp; done) | (simp [*]; done)), H', ⟨by have := HJ1.out; have := HK2.out; have := HJ12.out; have := HK4.out; omega⟩, ⟨by (with_reducible repeat (first | refine blk_drewN ?_ _ | refine blk_drew ?_ | refine blk_alloc ?_ _)); exact BK155.out⟩, ⟨by repeat (first | (with_reducible first | exact HB.out | apply below_alloc | apply pw_below_drewN | apply below_drew1 | refine below_set ?_ GE155.out | refine below_set ?_ GE158.out) | exact HB.out)⟩⟩
                · rw [if_neg c12] at H
                  exact absurd H (by simp)
              · rw [if_neg c11] at H
                exact absurd H (by simp)
            · rw [if_neg c10] at H
              have c10b0 : decide (x23_2 < (l0_0.length : Int)) = false := decide_eq_false c10
              clear c10
              have H' := Aside0.mk H
              clear H
              have hcz90_0 : wr.cell? ⟨gb155, 0, none⟩ = some (.slice A0_0 l0_0.length c0_0) := (blk_cell BK155.out 0).trans rfl
              have hcz90_1 : wr.cell? ⟨gb155, 1, none⟩ = some (.slice A0_1 l0_1.length c0_1) := (blk_cell BK155.out 1).trans rfl
              have hcz90_2 : wr.cell? ⟨gb155, 2, none⟩ = some (.bool a0_2) := (blk_cell BK155.out 2).trans rfl
              have hfz90_0 := blk_frozen BK155.out 0
              have hfz90_1 := blk_frozen BK155.out 1
              have hfz90_2 := blk_frozen BK155.out 2
              go_wp2
              go_loopg [86] k2 (fun kq v86 w' => ∃ (x86_3 : Int), v86 = .int .i64 x86_3 ∧ Aside0 (spec_GoodMarker.l2 kq l0_1 (l0_1.length : Int) x86_3 l0_0 l0_1 a0_2 = some r) ∧ Aside0 (kq ≤ k2) ∧ Aside0 (w'.heap[gb155]? = some (.cells #[(.slice A0_0 l0_0.length c0_0), (.slice A0_1 l0_1.length c0_1), .bool a0_2] 25 (0, 0))) ∧ Aside0 (Below w.heap.size w w'))
              case atStart => exact ⟨(0), (by first | rfl | (simp; done) | (simp [*]; done)), H', ⟨Nat.le_refl _⟩, ⟨by (with_reducible repeat (first | refine blk_drewN ?_ _ | refine blk_drew ?_ | refine blk_alloc ?_ _)); exact BK155.out⟩, ⟨by repeat (first | (with_reducible first | exact HB.out | apply below_alloc | apply pw_below_drewN | apply below_drew1 | refine below_set ?_ GE155.out) | exact HB.out)⟩⟩
              case round =>
                clear H'
                try clear c1
                try clear p1
                try clear q1
                try clear hx1
                try clear c2
                try clear p2
                try clear q2
                try clear c3
                try clear c4
                try clear c5
                try clear c6
                try clear p6
                try clear c7
                try clear c8
                try clear c10
                try clear c10b0
                try clear c11
                try clear c11b0
                try clear c12
                try clear c12b0
                try clear c13
                try clear c15
                try clear p15
                try clear q15
                try clear hx15
                try clear p16
                try clear q16
                try clear hx16
                try clear c17
                try clear c17b0
                try clear c17b1
                try clear c19
                try clear q20
                try clear c21
                try clear c22
                try clear c23
                try clear c24
                try clear c25
                try clear c28
                try clear c31
                try clear c33
                try clear c35
                try clear c36
                try clear c38
                try clear c38b0
                try clear c39
                try clear c39b0
                try clear c40
                try clear c40b0
                try clear c42
                try clear c43
                try clear c43b0
                try clear c44
                try clear c44b0
                try clear c44b1
                try clear c45
                try clear c45b0
                try clear c45b1
                try clear c47
                try clear c47b0
                try clear c47b1
                try clear c48
                try clear c54
                try clear c60
                try clear c64
                try clear p64
                try clear c68
                try clear c68b0
                try clear c68b1
                try clear c70
                try clear c70b0
                try clear c70b1
                try clear c71
                try clear c77
                try clear c83
                try clear c87
                try clear hcz16_0
                try clear hcz16_1
                try clear hcz16_2
                try clear hcz23_0
                try clear hcz23_1
                try clear hcz23_2
                try clear hcz26_0
                try clear hcz26_1
                try clear hcz26_2
                try clear hcz27_0
                try clear hcz27_1
                try clear hcz27_2
                try clear hcz29_0
                try clear hcz29_1
                try clear hcz29_2
                try clear hcz30_0
                try clear hcz30_1
                try clear hcz30_2
                try clear hcz32_0
                try clear hcz32_1
                try clear hcz32_2
                try clear hcz34_0
                try clear hcz34_1
                try clear hcz34_2
                try clear hcz37_0
                try clear hcz37_1
                try clear hcz37_2
                try clear hcz49_0
                try clear hcz49_1
                try clear hcz49_2
                try clear hcz51_0
                try clear hcz51_1
                try clear hcz51_2
                try clear hcz52_0
                try clear hcz52_1
                try clear hcz52_2
                try clear hcz55_0
                try clear hcz55_1
                try clear hcz55_2
                try clear hcz57_0
                try clear hcz57_1
                try clear hcz57_2
                try clear hcz58_0
                try clear hcz58_1
                try clear hcz58_2
                try clear hcz61_0
                try clear hcz61_1
                try clear hcz61_2
                try clear hcz63_0
                try clear hcz63_1
                try clear hcz63_2
                try clear hcz65_0
                try clear hcz65_1
                try clear hcz65_2
                try clear hcz67_0
                try clear hcz67_1
                try clear hcz67_2
                try clear hcz6_0
                try clear hcz6_1
                try clear hcz6_2
                try clear hcz72_0
                try clear hcz72_1
                try clear hcz72_2
                try clear hcz74_0
                try clear hcz74_1
                try clear hcz74_2
                try clear hcz75_0
                try clear hcz75_1
                try clear hcz75_2
                try clear hcz78_0
                try clear hcz78_1
                try clear hcz78_2
                try clear hcz7_0
                try clear hcz7_1
                try clear hcz7_2
                try clear hcz80_0
                try clear hcz80_1
                try clear hcz80_2
                try clear hcz81_0
                try clear hcz81_1
                try clear hcz81_2
                try clear hcz84_0
                try clear hcz84_1
                try clear hcz84_2
                try clear hcz86_0
                try clear hcz86_1
                try clear hcz86_2
                try clear hcz88_0
                try clear hcz88_1
                try clear hcz88_2
                try clear hcz90_0
                try clear hcz90_1
                try clear hcz90_2
                try clear hcz9_0
                try clear hcz9_1
                try clear hcz9_2
                try clear hfz16_0
                try clear hfz16_1
                try clear hfz16_2
                try clear hfz23_0
                try clear hfz23_1
                try clear hfz23_2
                try clear hfz26_0
                try clear hfz26_1
                try clear hfz26_2
                try clear hfz27_0
                try clear hfz27_1
                try clear hfz27_2
                try clear hfz29_0
                try clear hfz29_1
                try clear hfz29_2
                try clear hfz30_0
                try clear hfz30_1
                try clear hfz30_2
                try clear hfz32_0
                try clear hfz32_1
                try clear hfz32_2
                try clear hfz34_0
                try clear hfz34_1
                try clear hfz34_2
                try clear hfz37_0
                try clear hfz37_1
                try clear hfz37_2
                try clear hfz49_0
                try clear hfz49_1
                try clear hfz49_2
                try clear hfz51_0
                try clear hfz51_1
                try clear hfz51_2
                try clear hfz52_0
                try clear hfz52_1
                try clear hfz52_2
                try clear hfz55_0
                try clear hfz55_1
                try clear hfz55_2
                try clear hfz57_0
                try clear hfz57_1
                try clear hfz57_2
                try clear hfz58_0
                try clear hfz58_1
                try clear hfz58_2
                try clear hfz61_0
                try clear hfz61_1
                try clear hfz61_2
                try clear hfz63_0
                try clear hfz63_1
                try clear hfz63_2
                try clear hfz65_0
                try clear hfz65_1
                try clear hfz65_2
                try clear hfz67_0
                try clear hfz67_1
                try clear hfz67_2
                try clear hfz6_0
                try clear hfz6_1
                try clear hfz6_2
                try clear hfz72_0
                try clear hfz72_1
                try clear hfz72_2
                try clear hfz74_0
                try clear hfz74_1
                try clear hfz74_2
                try clear hfz75_0
                try clear hfz75_1
                try clear hfz75_2
                try clear hfz78_0
                try clear hfz78_1
                try clear hfz78_2
                try clear hfz7_0
                try clear hfz7_1
                try clear hfz7_2
                try clear hfz80_0
                try clear hfz80_1
                try clear hfz80_2
                try clear hfz81_0
                try clear hfz81_1
                try clear hfz81_2
                try clear hfz84_0
                try clear hfz84_1
                try clear hfz84_2
                try clear hfz86_0
                try clear hfz86_1
                try clear hfz86_2
                try clear hfz88_0
                try clear hfz88_1
                try clear hfz88_2
                try clear hfz90_0
                try clear hfz90_1
                try clear hfz90_2
                try clear hfz9_0
                try clear hfz9_1
                try clear hfz9_2
                try clear hx157_0
                try clear hx157_1
                try clear hx157_2
                try clear hx160_0
                try clear p1
                try clear p15
                try clear p157
                try clear p160
                try clear p2
                try clear q1
                try clear q15
                try clear q157
                try clear q160
                try clear q2
                try clear q20
                obtain ⟨x86_3, rfl, HA, HK3, BK155, HB⟩ := hrel
                cases gk with
                | zero => exact absurd HA.out (by simp [spec_GoodMarker.l2])
                | succ k3 =>
                  have H := HA.out
                  clear HA
                  simp only [spec_GoodMarker.l2] at H
                  by_cases c91 : x86_3 < (l0_1.length : Int)
                  · rw [if_pos c91] at H
                    have c91b0 : decide (x86_3 < (l0_1.length : Int)) = true := decide_eq_true c91
                    clear c91
                    by_cases c92 : 0 ≤ x86_3
                    · rw [if_pos c92] at H
                      have c92b0 : decide (0 ≤ x86_3) = true := decide_eq_true c92
                      clear c92
                      by_cases c93 : x86_3 < (l0_1.length : Int)
                      · rw [if_pos c93] at H
                        have c93b0 : decide (x86_3 < (l0_1.length : Int)) = true := decide_eq_true c93
                        clear c93
                        replace H := Option.bind_eq_some_iff.mp H
                        obtain ⟨t165, A940, H⟩ := H
                        replace H : (if t165 = true then (if a0_2 = true then ((spec_l15Color.f l0_0 l0_1 a0_2 (rd l0_1 x86_3)).bind fun t166 => (if t166 = 0 then (some false) else (spec_GoodMarker.l2 k3 l0_1 (l0_1.length : Int) (wrap64 (x86_3 + 1)) l0_0 l0_1 a0_2))) else (spec_GoodMarker.l2 k3 l0_1 (l0_1.length : Int) (wrap64 (x86_3 + 1)) l0_0 l0_1 a0_2)) else (some false)) = some r := H
                        have A94 := Aside0.mk A940
                        clear A940
                        by_cases c95 : t165 = true
                        · subst c95
                          have H1 : (if a0_2 = true then ((spec_l15Color.f l0_0 l0_1 a0_2 (rd l0_1 x86_3)).bind fun t166 => (if t166 = 0 then (some false) else (spec_GoodMarker.l2 k3 l0_1 (l0_1.length : Int) (wrap64 (x86_3 + 1)) l0_0 l0_1 a0_2))) else (spec_GoodMarker.l2 k3 l0_1 (l0_1.length : Int) (wrap64 (x86_3 + 1)) l0_0 l0_1 a0_2)) = some r := by rw [if_pos rfl] at H; exact H
                          clear H
                          have H := H1
                          clear H1
                          by_cases c96 : a0_2 = true
                          · subst c96
                            have H1 : ((spec_l15Color.f l0_0 l0_1 true (rd l0_1 x86_3)).bind fun t166 => (if t166 = 0 then (some false) else (spec_GoodMarker.l2 k3 l0_1 (l0_1.length : Int) (wrap64 (x86_3 + 1)) l0_0 l0_1 true))) = some r := by rw [if_pos rfl] at H; exact H
                            clear H
                            have H := H1
                            clear H1
                            replace H := Option.bind_eq_some_iff.mp H
                            obtain ⟨t166, A970, H⟩ := H
                            replace H : (if t166 = 0 then (some false) else (spec_GoodMarker.l2 k3 l0_1 (l0_1.length : Int) (wrap64 (x86_3 + 1)) l0_0 l0_1 true)) = some r := H
                            have A97 := Aside0.mk A970
                            clear A970
                            by_cases c98 : t166 = 0
                            · rw [if_pos c98] at H
                              have c98b0 : (t166 == 0) = true := beq_iff_eq.mpr c98
                              have c98b1 : (t166 != 0) = false := bne_eq_false_iff_eq.mpr c98
                              clear c98
                              obtain rfl := Option.some.inj H
                              have p164 : 0 ≤ (x86_3 : Int) := of_decide_eq_true (by first | (with_reducible assumption) | assumption)
                              have q164 : x86_3 < (l0_1.length : Int) := of_decide_eq_true (by first | (with_reducible assumption) | assumption)
                              obtain ⟨ad164, e164, hx164_0⟩ := Kd.at_int HR0_1.out x86_3 p164 q164
                              cases e164
                              replace hx164_0 := (HB.out.cell (World.block_lt_of_cell? w _ hx164_0)).trans hx164_0
                              replace p164 := eq_true p164
                              replace q164 := eq_true q164
                              have hcz99_0 : wr.cell? ⟨gb155, 0, none⟩ = some (.slice A0_0 l0_0.length c0_0) := (blk_cell BK155.out 0).trans rfl
                              have hcz99_1 : wr.cell? ⟨gb155, 1, none⟩ = some (.slice (some ad164) l0_1.length c0_1) := (blk_cell BK155.out 1).trans rfl
                              have hcz99_2 : wr.cell? ⟨gb155, 2, none⟩ = some (.bool true) := (blk_cell BK155.out 2).trans rfl
                              have hfz99_0 := blk_frozen BK155.out 0
                              have hfz99_1 := blk_frozen BK155.out 1
                              have hfz99_2 := blk_frozen BK155.out 2
                              go_wp2_with (first | ((with_reducible refine gate_callee (f := 31) rfl ?_); refine goesL_ (some 92) rfl rfl Try.func31 (by kernel_rfl) rfl #[.agg #[.slice A0_0 l0_0.length c0_0, .slice (some ad164) l0_1.length c0_1, .bool true], .int .i64 (rd l0_1 x86_3)] rfl (by (try simp only [List.map_toArray, List.map_cons, List.map_nil]); first | done | rfl | (simp only [List.length_drop, List.length_take]; rfl)) ?_; (with_reducible refine (spec_l15Cell.calls _ _ l0_0 _ _ l0_1 true (rd l0_1 x86_3) true _ ?side1 ?side2 ?side3 ?side4 A94.out).mono ?_); (case side1 => repeat (first | exact (Kd.C_below HR0_0.out HB.out) | (with_reducible refine Kd.C_alloc ?_ _) | (with_reducible refine Kd.C_drewN ?_ _) | (with_reducible refine Kd.C_drew ?_))); (case side2 => exact HC0_0.out); (case side3 => repeat (first | exact (Kd.C_below HR0_1.out HB.out) | (with_reducible refine Kd.C_alloc ?_ _) | (with_reducible refine Kd.C_drewN ?_ _) | (with_reducible refine Kd.C_drew ?_))); (case side4 => exact HC0_1.out); rintro e w100 ⟨rfl, hb⟩; refine ⟨_, rfl, ?_⟩; have n0_ := Aside0.mk (blk_below (g := gb155) (o := .cells #[.slice A0_0 l0_0.length c0_0, .slice (some ad164) l0_1.length c0_1, .bool true] 25 (0, 0)) (by (with_reducible repeat (first | refine blk_drewN ?_ _ | refine blk_drew ?_ | refine blk_alloc ?_ _)); exact BK155.out) hb); have n1_ := Aside0.mk (below_step (by repeat (first | (with_reducible first | exact HB.out | apply below_alloc | apply pw_below_drewN | apply below_drew1 | refine below_set ?_ GE155.out) | exact HB.out)) hb); clear BK155; clear HB; have BK155 := n0_; have HB := n1_; clear n0_ n1_; (try clear hb); (try clear hb2); (try clear hk); (try clear hi); have hcz101_0 : w100.cell? ⟨gb155, 0, none⟩ = some (.slice A0_0 l0_0.length c0_0) := (blk_cell BK155.out 0).trans rfl; have hcz101_1 : w100.cell? ⟨gb155, 1, none⟩ = some (.slice (some ad164) l0_1.length c0_1) := (blk_cell BK155.out 1).trans rfl; have hcz101_2 : w100.cell? ⟨gb155, 2, none⟩ = some (.bool true) := (blk_cell BK155.out 2).trans rfl; have hfz101_0 := blk_frozen BK155.out 0; have hfz101_1 := blk_frozen BK155.out 1; have hfz101_2 := blk_frozen BK155.out 2) | (go_at_call 32; (with_reducible refine (spec_l15Color.calls _ _ l0_0 _ _ l0_1 true (rd l0_1 x86_3) t166 _ ?side1 ?side2 ?side3 ?side4 A97.out).mono ?_); (case side1 => repeat (first | exact (Kd.C_below HR0_0.out HB.out) | (with_reducible refine Kd.C_alloc ?_ _) | (with_reducible refine Kd.C_drewN ?_ _) | (with_reducible refine Kd.C_drew ?_))); (case side2 => exact HC0_0.out); (case side3 => repeat (first | exact (Kd.C_below HR0_1.out HB.out) | (with_reducible refine Kd.C_alloc ?_ _) | (with_reducible refine Kd.C_drewN ?_ _) | (with_reducible refine Kd.C_drew ?_))); (case side4 => exact HC0_1.out); rintro e w102 ⟨rfl, hb⟩; have n0_ := Aside0.mk (blk_below (g := gb155) (o := .cells #[.slice A0_0 l0_0.length c0_0, .slice (some ad164) l0_1.length c0_1, .bool true] 25 (0, 0)) (by (with_reducible repeat (first | refine blk_drewN ?_ _ | refine blk_drew ?_ | refine blk_alloc ?_ _)); exact BK155.out) hb); have n1_ := Aside0.mk (below_step (by repeat (first | (with_reducible first | exact HB.out | apply below_alloc | apply pw_below_drewN | apply below_drew1 | refine below_set ?_ GE155.out) | exact HB.out)) hb); clear BK155; clear HB; have BK155 := n0_; have HB := n1_; clear n0_ n1_; (try clear hb); (try clear hb2); (try clear hk); (try clear hi)))
                              go_ret
                              exact ⟨by first | rfl | (simp [errW_none, errW_some] <;> rfl) | (simp [*, errW_none, errW_some] <;> rfl), by repeat (first | (with_reducible first | exact HB.out | apply below_alloc | apply pw_below_drewN | apply below_drew1 | refine below_set ?_ GE155.out) | exact HB.out)⟩
                            · rw [if_neg c98] at H
                              have c98b0 : (t166 == 0) = false := beq_eq_false_iff_ne.mpr c98
                              have c98b1 : (t166 != 0) = true := bne_iff_ne.mpr c98
                              have H' := Aside0.mk H
                              clear H
                              have p164 : 0 ≤ (x86_3 : Int) := of_decide_eq_true (by first | (with_reducible assumption) | assumption)
                              have q164 : x86_3 < (l0_1.length : Int) := of_decide_eq_true (by first | (with_reducible assumption) | assumption)
                              obtain ⟨ad164, e164, hx164_0⟩ := Kd.at_int HR0_1.out x86_3 p164 q164
                              cases e164
                              replace hx164_0 := (HB.out.cell (World.block_lt_of_cell? w _ hx164_0)).trans hx164_0
                              replace p164 := eq_true p164
                              replace q164 := eq_true q164
                              have hcz103_0 : wr.cell? ⟨gb155, 0, none⟩ = some (.slice A0_0 l0_0.length c0_0) := (blk_cell BK155.out 0).trans rfl
                              have hcz103_1 : wr.cell? ⟨gb155, 1, none⟩ = some (.slice (some ad164) l0_1.length c0_1) := (blk_cell BK155.out 1).trans rfl
                              have hcz103_2 : wr.cell? ⟨gb155, 2, none⟩ = some (.bool true) := (blk_cell BK155.out 2).trans rfl
                              have hfz103_0 := blk_frozen BK155.out 0
                              have hfz103_1 := blk_frozen BK155.out 1
                              have hfz103_2 := blk_frozen BK155.out 2
                              go_wp2_with (first | ((with_reducible refine gate_callee (f := 31) rfl ?_); refine goesL_ (some 92) rfl rfl Try.func31 (by kernel_rfl) rfl #[.agg #[.slice A0_0 l0_0.length c0_0, .slice (some ad164) l0_1.length c0_1, .bool true], .int .i64 (rd l0_1 x86_3)] rfl (by (try simp only [List.map_toArray, List.map_cons, List.map_nil]); first | done | rfl | (simp only [List.length_drop, List.length_take]; rfl)) ?_; (with_reducible refine (spec_l15Cell.calls _ _ l0_0 _ _ l0_1 true (rd l0_1 x86_3) true _ ?side1 ?side2 ?side3 ?side4 A94.out).mono ?_); (case side1 => repeat (first | exact (Kd.C_below HR0_0.out HB.out) | (with_reducible refine Kd.C_alloc ?_ _) | (with_reducible refine Kd.C_drewN ?_ _) | (with_reducible refine Kd.C_drew ?_))); (case side2 => exact HC0_0.out); (case side3 => repeat (first | exact (Kd.C_below HR0_1.out HB.out) | (with_reducible refine Kd.C_alloc ?_ _) | (with_reducible refine Kd.C_drewN ?_ _) | (with_reducible refine Kd.C_drew ?_))); (case side4 => exact HC0_1.out); rintro e w104 ⟨rfl, hb⟩; refine ⟨_, rfl, ?_⟩; have n0_ := Aside0.mk (blk_below (g := gb155) (o := .cells #[.slice A0_0 l0_0.length c0_0, .slice (some ad164) l0_1.length c0_1, .bool true] 25 (0, 0)) (by (with_reducible repeat (first | refine blk_drewN ?_ _ | refine blk_drew ?_ | refine blk_alloc ?_ _)); exact BK155.out) hb); have n1_ := Aside0.mk (below_step (by repeat (first | (with_reducible first | exact HB.out | apply below_alloc | apply pw_below_drewN | apply below_drew1 | refine below_set ?_ GE155.out) | exact HB.out)) hb); clear BK155; clear HB; have BK155 := n0_; have HB := n1_; clear n0_ n1_; (try clear hb); (try clear hb2); (try clear hk); (try clear hi); have hcz105_0 : w104.cell? ⟨gb155, 0, none⟩ = some (.slice A0_0 l0_0.length c0_0) := (blk_cell BK155.out 0).trans rfl; have hcz105_1 : w104.cell? ⟨gb155, 1, none⟩ = some (.slice (some ad164) l0_1.length c0_1) := (blk_cell BK155.out 1).trans rfl; have hcz105_2 : w104.cell? ⟨gb155, 2, none⟩ = some (.bool true) := (blk_cell BK155.out 2).trans rfl; have hfz105_0 := blk_frozen BK155.out 0; have hfz105_1 := blk_frozen BK155.out 1; have hfz105_2 := blk_frozen BK155.out 2) | (go_at_call 32; (with_reducible refine (spec_l15Color.calls _ _ l0_0 _ _ l0_1 true (rd l0_1 x86_3) t166 _ ?side1 ?side2 ?side3 ?side4 A97.out).mono ?_); (case side1 => repeat (first | exact (Kd.C_below HR0_0.out HB.out) | (with_reducible refine Kd.C_alloc ?_ _) | (with_reducible refine Kd.C_drewN ?_ _) | (with_reducible refine Kd.C_drew ?_))); (case side2 => exact HC0_0.out); (case side3 => repeat (first | exact (Kd.C_below HR0_1.out HB.out) | (with_reducible refine Kd.C_alloc ?_ _) | (with_reducible refine Kd.C_drewN ?_ _) | (with_reducible refine Kd.C_drew ?_))); (case side4 => exact HC0_1.out); rintro e w106 ⟨rfl, hb⟩; have n0_ := Aside0.mk (blk_below (g := gb155) (o := .cells #[.slice A0_0 l0_0.length c0_0, .slice (some ad164) l0_1.length c0_1, .bool true] 25 (0, 0)) (by (with_reducible repeat (first | refine blk_drewN ?_ _ | refine blk_drew ?_ | refine blk_alloc ?_ _)); exact BK155.out) hb); have n1_ := Aside0.mk (below_step (by repeat (first | (with_reducible first | exact HB.out | apply below_alloc | apply pw_below_drewN | apply below_drew1 | refine below_set ?_ GE155.out) | exact HB.out)) hb); clear BK155; clear HB; have BK155 := n0_; have HB := n1_; clear n0_ n1_; (try clear hb); (try clear hb2); (try clear hk); (try clear hi)))
                              go_roundg k3
                              case measure => have := HJ1.out; have := HK2.out; have := HK3.out; omega
                              case rel => exact ⟨(wrap64 (x86_3 + 1)), (by first | rfl | (simp; done) | (simp [*]; done)), H', ⟨by have := HJ1.out; have := HK2.out; have := HK3.out; omega⟩, ⟨by (with_reducible repeat (first | refine blk_drewN ?_ _ | refine blk_drew ?_ | refine blk_alloc ?_ _)); exact BK155.out⟩, ⟨by repeat (first | (with_reducible first | exact HB.out | apply below_alloc | apply pw_below_drewN | apply below_drew1 | refine below_set ?_ GE155.out) | exact HB.out)⟩⟩
                          · replace c96 := Bool.eq_false_iff.mpr c96
                            subst c96
                            have H1 : (spec_GoodMarker.l2 k3 l0_1 (l0_1.length : Int) (wrap64 (x86_3 + 1)) l0_0 l0_1 false) = some r := by rw [if_neg (show ¬ (false = true) by decide)] at H; exact H
                            clear H
                            have H := H1
                            clear H1
                            have H' := Aside0.mk H
                            clear H
                            have p164 : 0 ≤ (x86_3 : Int) := of_decide_eq_true (by first | (with_reducible assumption) | assumption)
                            have q164 : x86_3 < (l0_1.length : Int) := of_decide_eq_true (by first | (with_reducible assumption) | assumption)
                            obtain ⟨ad164, e164, hx164_0⟩ := Kd.at_int HR0_1.out x86_3 p164 q164
                            cases e164
                            replace hx164_0 := (HB.out.cell (World.block_lt_of_cell? w _ hx164_0)).trans hx164_0
                            replace p164 := eq_true p164
                            replace q164 := eq_true q164
                            have hcz107_0 : wr.cell? ⟨gb155, 0, none⟩ = some (.slice A0_0 l0_0.length c0_0) := (blk_cell BK155.out 0).trans rfl
                            have hcz107_1 : wr.cell? ⟨gb155, 1, none⟩ = some (.slice (some ad164) l0_1.length c0_1) := (blk_cell BK155.out 1).trans rfl
                            have hcz107_2 : wr.cell? ⟨gb155, 2, none⟩ = some (.bool false) := (blk_cell BK155.out 2).trans rfl
                            have hfz107_0 := blk_frozen BK155.out 0
                            have hfz107_1 := blk_frozen BK155.out 1
                            have hfz107_2 := blk_frozen BK155.out 2
                            go_wp2_with (first | ((with_reducible refine gate_callee (f := 31) rfl ?_); refine goesL_ (some 92) rfl rfl Try.func31 (by kernel_rfl) rfl #[.agg #[.slice A0_0 l0_0.length c0_0, .slice (some ad164) l0_1.length c0_1, .bool false], .int .i64 (rd l0_1 x86_3)] rfl (by (try simp only [List.map_toArray, List.map_cons, List.map_nil]); first | done | rfl | (simp only [List.length_drop, List.length_take]; rfl)) ?_; (with_reducible refine (spec_l15Cell.calls _ _ l0_0 _ _ l0_1 false (rd l0_1 x86_3) true _ ?side1 ?side2 ?side3 ?side4 A94.out).mono ?_); (case side1 => repeat (first | exact (Kd.C_below HR0_0.out HB.out) | (with_reducible refine Kd.C_alloc ?_ _) | (with_reducible refine Kd.C_drewN ?_ _) | (with_reducible refine Kd.C_drew ?_))); (case side2 => exact HC0_0.out); (case side3 => repeat (first | exact (Kd.C_below HR0_1.out HB.out) | (with_reducible refine Kd.C_alloc ?_ _) | (with_reducible refine Kd.C_drewN ?_ _) | (with_reducible refine Kd.C_drew ?_))); (case side4 => exact HC0_1.out); rintro e w108 ⟨rfl, hb⟩; refine ⟨_, rfl, ?_⟩; have n0_ := Aside0.mk (blk_below (g := gb155) (o := .cells #[.slice A0_0 l0_0.length c0_0, .slice (some ad164) l0_1.length c0_1, .bool false] 25 (0, 0)) (by (with_reducible repeat (first | refine blk_drewN ?_ _ | refine blk_drew ?_ | refine blk_alloc ?_ _)); exact BK155.out) hb); have n1_ := Aside0.mk (below_step (by repeat (first | (with_reducible first | exact HB.out | apply below_alloc | apply pw_below_drewN | apply below_drew1 | refine below_set ?_ GE155.out) | exact HB.out)) hb); clear BK155; clear HB; have BK155 := n0_; have HB := n1_; clear n0_ n1_; (try clear hb); (try clear hb2); (try clear hk); (try clear hi); have hcz109_0 : w108.cell? ⟨gb155, 0, none⟩ = some (.slice A0_0 l0_0.length c0_0) := (blk_cell BK155.out 0).trans rfl; have hcz109_1 : w108.cell? ⟨gb155, 1, none⟩ = some (.slice (some ad164) l0_1.length c0_1) := (blk_cell BK155.out 1).trans rfl; have hcz109_2 : w108.cell? ⟨gb155, 2, none⟩ = some (.bool false) := (blk_cell BK155.out 2).trans rfl; have hfz109_0 := blk_frozen BK155.out 0; have hfz109_1 := blk_frozen BK155.out 1; have hfz109_2 := blk_frozen BK155.out 2))
                            go_roundg k3
                            case measure => have := HJ1.out; have := HK2.out; have := HK3.out; omega
                            case rel => exact ⟨(wrap64 (x86_3 + 1)), (by first | rfl | (simp; done) | (simp [*]; done)), H', ⟨by have := HJ1.out; have := HK2.out; have := HK3.out; omega⟩, ⟨by (with_reducible repeat (first | refine blk_drewN ?_ _ | refine blk_drew ?_ | refine blk_alloc ?_ _)); exact BK155.out⟩, ⟨by repeat (first | (with_reducible first | exact HB.out | apply below_alloc | apply pw_below_drewN | apply below_drew1 | refine below_set ?_ GE155.out) | exact HB.out)⟩⟩
                        · replace c95 := Bool.eq_false_iff.mpr c95
                          subst c95
                          have H1 : (some false) = some r := by rw [if_neg (show ¬ (false = true) by decide)] at H; exact H
                          clear H
                          have H := H1
                          clear H1
                          obtain rfl := Option.some.inj H
                          have p164 : 0 ≤ (x86_3 : Int) := of_decide_eq_true (by first | (with_reducible assumption) | assumption)
                          have q164 : x86_3 < (l0_1.length : Int) := of_decide_eq_true (by first | (with_reducible assumption) | assumption)
                          obtain ⟨ad164, e164, hx164_0⟩ := Kd.at_int HR0_1.out x86_3 p164 q164
                          cases e164
                          replace hx164_0 := (HB.out.cell (World.block_lt_of_cell? w _ hx164_0)).trans hx164_0
                          replace p164 := eq_true p164
                          replace q164 := eq_true q164
                          have hcz110_0 : wr.cell? ⟨gb155, 0, none⟩ = some (.slice A0_0 l0_0.length c0_0) := (blk_cell BK155.out 0).trans rfl
                          have hcz110_1 : wr.cell? ⟨gb155, 1, none⟩ = some (.slice (some ad164) l0_1.length c0_1) := (blk_cell BK155.out 1).trans rfl
                          have hcz110_2 : wr.cell? ⟨gb155, 2, none⟩ = some (.bool a0_2) := (blk_cell BK155.out 2).trans rfl
                          have hfz110_0 := blk_frozen BK155.out 0
                          have hfz110_1 := blk_frozen BK155.out 1
                          have hfz110_2 := blk_frozen BK155.out 2
                          go_wp2_with (first | ((with_reducible refine gate_callee (f := 31) rfl ?_); refine goesL_ (some 92) rfl rfl Try.func31 (by kernel_rfl) rfl #[.agg #[.slice A0_0 l0_0.length c0_0, .slice (some ad164) l0_1.length c0_1, .bool a0_2], .int .i64 (rd l0_1 x86_3)] rfl (by (try simp only [List.map_toArray, List.map_cons, List.map_nil]); first | done | rfl | (simp only [List.length_drop, List.length_take]; rfl)) ?_; (with_reducible refine (spec_l15Cell.calls _ _ l0_0 _ _ l0_1 a0_2 (rd l0_1 x86_3) false _ ?side1 ?side2 ?side3 ?side4 A94.out).mono ?_); (case side1 => repeat (first | exact (Kd.C_below HR0_0.out HB.out) | (with_reducible refine Kd.C_alloc ?_ _) | (with_reducible refine Kd.C_drewN ?_ _) | (with_reducible refine Kd.C_drew ?_))); (case side2 => exact HC0_0.out); (case side3 => repeat (first | exact (Kd.C_below HR0_1.out HB.out) | (with_reducible refine Kd.C_alloc ?_ _) | (with_reducible refine Kd.C_drewN ?_ _) | (with_reducible refine Kd.C_drew ?_))); (case side4 => exact HC0_1.out); rintro e w111 ⟨rfl, hb⟩; refine ⟨_, rfl, ?_⟩; have n0_ := Aside0.mk (blk_below (g := gb155) (o := .cells #[.slice A0_0 l0_0.length c0_0, .slice (some ad164) l0_1.length c0_1, .bool a0_2] 25 (0, 0)) (by (with_reducible repeat (first | refine blk_drewN ?_ _ | refine blk_drew ?_ | refine blk_alloc ?_ _)); exact BK155.out) hb); have n1_ := Aside0.mk (below_step (by repeat (first | (with_reducible first | exact HB.out | apply below_alloc | apply pw_below_drewN | apply below_drew1 | refine below_set ?_ GE155.out) | exact HB.out)) hb); clear BK155; clear HB; have BK155 := n0_; have HB := n1_; clear n0_ n1_; (try clear hb); (try clear hb2); (try clear hk); (try clear hi)))
                          go_ret
                          exact ⟨by first | rfl | (simp [errW_none, errW_some] <;> rfl) | (simp [*, errW_none, errW_some] <;> rfl), by repeat (first | (with_reducible first | exact HB.out | apply below_alloc | apply pw_below_drewN | apply below_drew1 | refine below_set ?_ GE155.out) | exact HB.out)⟩
                      · rw [if_neg c93] at H
                        exact absurd H (by simp)
                    · rw [if_neg c92] at H
                      exact absurd H (by simp)
                  · rw [if_neg c91] at H
                    have c91b0 : decide (x86_3 < (l0_1.length : Int)) = false := decide_eq_false c91
                    clear c91
                    obtain rfl := Option.some.inj H
                    first | (go_wp2; go_ret; exact ⟨by first | rfl | (simp [errW_none, errW_some] <;> rfl) | (simp [*, errW_none, errW_some] <;> rfl), by repeat (first | (with_reducible first | exact HB.out | apply below_alloc | apply pw_below_drewN | apply below_drew1 | refine below_set ?_ GE155.out) | exact HB.out)⟩) | (exfalso; simp only [decide_eq_false_iff_not, decide_eq_true_eq] at *; omega)

end Go.Proofs.Ytmgnnegmohmbhaa.Q
