-- Written by the program wip/tools/pr.py of this claim's session, over the kit's print.py.
import Derived.Test.YtmgnnegmohmbhaaQx0
import Derived.Test.YtmgnnegmohmbhaaQx5
namespace Go.Proofs.Ytmgnnegmohmbhaa.Q
open Go.RowKit Go.Proofs.YtmgnnegmohmbhaaW.PrintWords Go.Proofs.YtmgnnegmohmbhaaW.PrintLast Go.Proofs.YtmgnnegmohmbhaaW.PrintMore
attribute [local go_sem] max2_int min2_int max_two min_two max_three min_three max_four min_four   -- for this text's walks alone
set_option linter.unusedVariables false
set_option linter.unusedSimpArgs false

/-! ### impl_isMarker: function 35 -/
mutual
def impl_isMarker.j0 : Nat → Bool → List (S44) → List Int → Bool → Option (Bool)
  | 0, _, _, _, _ => none
  | k + 1, x17, x183000, x183001, x183002 => if x17 = true then (some false) else (impl_isMarker.l0 k x183000 (x183000.length : Int) 0 x183000 x183001 x183002)
def impl_isMarker.l0 : Nat → List (S44) → Int → Int → List (S44) → List Int → Bool → Option (Bool)
  | 0, _, _, _, _, _, _ => none
  | k + 1, x19, x20, x21, x183000, x183001, x183002 => if x21 < x20 then (if 0 ≤ x21 then (if x21 < (x19.length : Int) then (if (((rd_T44 x19 x21).f0).length : Int) = 2 then ((impl_in.f ((rd_T44 x19 x21).f1) 0 2).bind fun t187 => (if t187 = true then (if ((rd_T44 x19 x21).f1) = 0 then (impl_isMarker.j2 k x19 x20 x21 false x183000 x183001 x183002 ((rd_T44 x19 x21).f0) ((rd_T44 x19 x21).f1) ((rd_T44 x19 x21).f2)) else (if (rd_T44 x19 x21).f2 = true then (impl_isMarker.j2 k x19 x20 x21 true x183000 x183001 x183002 ((rd_T44 x19 x21).f0) ((rd_T44 x19 x21).f1) ((rd_T44 x19 x21).f2)) else (impl_isMarker.j2 k x19 x20 x21 (!x183002) x183000 x183001 x183002 ((rd_T44 x19 x21).f0) ((rd_T44 x19 x21).f1) ((rd_T44 x19 x21).f2)))) else (impl_isMarker.j2 k x19 x20 x21 true x183000 x183001 x183002 ((rd_T44 x19 x21).f0) ((rd_T44 x19 x21).f1) ((rd_T44 x19 x21).f2)))) else (impl_isMarker.j2 k x19 x20 x21 true x183000 x183001 x183002 ((rd_T44 x19 x21).f0) ((rd_T44 x19 x21).f1) ((rd_T44 x19 x21).f2))) else (none)) else (none)) else ((slices_ContainsFunc_int_int_45.f x183001 x183000 x183001 x183002).bind fun t184 => (some (!t184)))
def impl_isMarker.j2 : Nat → List (S44) → Int → Int → Bool → List (S44) → List Int → Bool → List Int → Int → Bool → Option (Bool)
  | 0, _, _, _, _, _, _, _, _, _, _ => none
  | k + 1, x19, x20, x21, x48, x183000, x183001, x183002, x187000, x187001, x187002 => if x48 = true then (some false) else (impl_isMarker.l1 k x19 x20 x21 x187000 (x187000.length : Int) 0 x183000 x183001 x183002 x187000 x187001 x187002)
def impl_isMarker.l1 : Nat → List (S44) → Int → Int → List Int → Int → Int → List (S44) → List Int → Bool → List Int → Int → Bool → Option (Bool)
  | 0, _, _, _, _, _, _, _, _, _, _, _, _ => none
  | k + 1, x19, x20, x21, x50, x51, x52, x183000, x183001, x183002, x187000, x187001, x187002 => if x52 < x51 then (if 0 ≤ x52 then (if x52 < (x50.length : Int) then ((impl_Marker_isTaken.f x183000 x183001 x183002 (rd x50 x52)).bind fun t189 => (if t189 = true then (if x187002 = true then (if (rd x50 x52) = (-1) then (if x183002 = true then (if x187001 = 2 then (if (rd x50 x52) ≥ 0 then (if 0 ≤ (rd x50 x52) then (if (rd x50 x52) < (x183000.length : Int) then (if ((rd_T44 x183000 (rd x50 x52)).f1) = 0 then (some false) else (impl_isMarker.l1 k x19 x20 x21 x50 x51 (wrap64 (x52 + 1)) x183000 x183001 x183002 x187000 x187001 x187002)) else (none)) else (none)) else (impl_isMarker.l1 k x19 x20 x21 x50 x51 (wrap64 (x52 + 1)) x183000 x183001 x183002 x187000 x187001 x187002)) else (impl_isMarker.l1 k x19 x20 x21 x50 x51 (wrap64 (x52 + 1)) x183000 x183001 x183002 x187000 x187001 x187002)) else (impl_isMarker.l1 k x19 x20 x21 x50 x51 (wrap64 (x52 + 1)) x183000 x183001 x183002 x187000 x187001 x187002)) else (some false)) else (if x183002 = true then (if x187001 = 2 then (if (rd x50 x52) ≥ 0 then (if 0 ≤ (rd x50 x52) then (if (rd x50 x52) < (x183000.length : Int) then (if ((rd_T44 x183000 (rd x50 x52)).f1) = 0 then (some false) else (impl_isMarker.l1 k x19 x20 x21 x50 x51 (wrap64 (x52 + 1)) x183000 x183001 x183002 x187000 x187001 x187002)) else (none)) else (none)) else (impl_isMarker.l1 k x19 x20 x21 x50 x51 (wrap64 (x52 + 1)) x183000 x183001 x183002 x187000 x187001 x187002)) else (impl_isMarker.l1 k x19 x20 x21 x50 x51 (wrap64 (x52 + 1)) x183000 x183001 x183002 x187000 x187001 x187002)) else (impl_isMarker.l1 k x19 x20 x21 x50 x51 (wrap64 (x52 + 1)) x183000 x183001 x183002 x187000 x187001 x187002))) else (some false))) else (none)) else (none)) else (impl_isMarker.l0 k x19 x20 (wrap64 (x21 + 1)) x183000 x183001 x183002)
end
def impl_isMarker.f (k : Nat) (l0_0 : List (S44)) (l0_1 : List Int) (a0_2 : Bool) : Option (Bool) := (impl_in.f (l0_0.length : Int) 2 10).bind fun t183 => (if t183 = true then (impl_isMarker.j0 k ((l0_1.length : Int) != 2) l0_0 l0_1 a0_2) else (impl_isMarker.j0 k true l0_0 l0_1 a0_2))
theorem impl_isMarker.mono_l : ∀ k, (∀ y0 y1 y2 y3, LeO (impl_isMarker.j0 k y0 y1 y2 y3) (impl_isMarker.j0 (k + 1) y0 y1 y2 y3)) ∧ (∀ y0 y1 y2 y3 y4 y5, LeO (impl_isMarker.l0 k y0 y1 y2 y3 y4 y5) (impl_isMarker.l0 (k + 1) y0 y1 y2 y3 y4 y5)) ∧ (∀ y0 y1 y2 y3 y4 y5 y6 y7 y8 y9, LeO (impl_isMarker.j2 k y0 y1 y2 y3 y4 y5 y6 y7 y8 y9) (impl_isMarker.j2 (k + 1) y0 y1 y2 y3 y4 y5 y6 y7 y8 y9)) ∧ (∀ y0 y1 y2 y3 y4 y5 y6 y7 y8 y9 y10 y11, LeO (impl_isMarker.l1 k y0 y1 y2 y3 y4 y5 y6 y7 y8 y9 y10 y11) (impl_isMarker.l1 (k + 1) y0 y1 y2 y3 y4 y5 y6 y7 y8 y9 y10 y11))
  | 0 => ⟨fun _ _ _ _ r h => by simp [impl_isMarker.j0] at h, fun _ _ _ _ _ _ r h => by simp [impl_isMarker.l0] at h, fun _ _ _ _ _ _ _ _ _ _ r h => by simp [impl_isMarker.j2] at h, fun _ _ _ _ _ _ _ _ _ _ _ _ r h => by simp [impl_isMarker.l1] at h⟩
  | k + 1 => by
    obtain ⟨ih0, ih1, ih2, ih3⟩ := impl_isMarker.mono_l k
    refine ⟨?_, ?_, ?_, ?_⟩
    · intro y0 y1 y2 y3
      unfold impl_isMarker.j0
      repeat' first
      | (with_reducible exact ih0 _ _ _ _)
      | (with_reducible exact ih1 _ _ _ _ _ _)
      | (with_reducible exact ih2 _ _ _ _ _ _ _ _ _ _)
      | (with_reducible exact ih3 _ _ _ _ _ _ _ _ _ _ _ _)
      | (with_reducible exact LeO.refl _)
      | (with_reducible exact LeO.none _)
      | (with_reducible refine LeO.ite ?_ ?_)
      | (with_reducible refine LeO.bind ?_ (fun _ => ?_))
      | exact ih0 _ _ _ _
      | exact ih1 _ _ _ _ _ _
      | exact ih2 _ _ _ _ _ _ _ _ _ _
      | exact ih3 _ _ _ _ _ _ _ _ _ _ _ _
      | exact LeO.none _
      | refine LeO.ite ?_ ?_
      | refine LeO.bind ?_ (fun _ => ?_)
    · intro y0 y1 y2 y3 y4 y5
      unfold impl_isMarker.l0
      repeat' first
      | (with_reducible exact ih0 _ _ _ _)
      | (with_reducible exact ih1 _ _ _ _ _ _)
      | (with_reducible exact ih2 _ _ _ _ _ _ _ _ _ _)
      | (with_reducible exact ih3 _ _ _ _ _ _ _ _ _ _ _ _)
      | (with_reducible exact LeO.refl _)
      | (with_reducible exact LeO.none _)
      | (with_reducible refine LeO.ite ?_ ?_)
      | (with_reducible refine LeO.bind ?_ (fun _ => ?_))
      | exact ih0 _ _ _ _
      | exact ih1 _ _ _ _ _ _
      | exact ih2 _ _ _ _ _ _ _ _ _ _
      | exact ih3 _ _ _ _ _ _ _ _ _ _ _ _
      | exact LeO.none _
      | refine LeO.ite ?_ ?_
      | refine LeO.bind ?_ (fun _ => ?_)
    · intro y0 y1 y2 y3 y4 y5 y6 y7 y8 y9
      unfold impl_isMarker.j2
      repeat' first
      | (with_reducible exact ih0 _ _ _ _)
      | (with_reducible exact ih1 _ _ _ _ _ _)
      | (with_reducible exact ih2 _ _ _ _ _ _ _ _ _ _)
      | (with_reducible exact ih3 _ _ _ _ _ _ _ _ _ _ _ _)
      | (with_reducible exact LeO.refl _)
      | (with_reducible exact LeO.none _)
      | (with_reducible refine LeO.ite ?_ ?_)
      | (with_reducible refine LeO.bind ?_ (fun _ => ?_))
      | exact ih0 _ _ _ _
      | exact ih1 _ _ _ _ _ _
      | exact ih2 _ _ _ _ _ _ _ _ _ _
      | exact ih3 _ _ _ _ _ _ _ _ _ _ _ _
      | exact LeO.none _
      | refine LeO.ite ?_ ?_
      | refine LeO.bind ?_ (fun _ => ?_)
    · intro y0 y1 y2 y3 y4 y5 y6 y7 y8 y9 y10 y11
      unfold impl_isMarker.l1
      repeat' first
      | (with_reducible exact ih0 _ _ _ _)
      | (with_reducible exact ih1 _ _ _ _ _ _)
      | (with_reducible exact ih2 _ _ _ _ _ _ _ _ _ _)
      | (with_reducible exact ih3 _ _ _ _ _ _ _ _ _ _ _ _)
      | (with_reducible exact LeO.refl _)
      | (with_reducible exact LeO.none _)
      | (with_reducible refine LeO.ite ?_ ?_)
      | (with_reducible refine LeO.bind ?_ (fun _ => ?_))
      | exact ih0 _ _ _ _
      | exact ih1 _ _ _ _ _ _
      | exact ih2 _ _ _ _ _ _ _ _ _ _
      | exact ih3 _ _ _ _ _ _ _ _ _ _ _ _
      | exact LeO.none _
      | refine LeO.ite ?_ ?_
      | refine LeO.bind ?_ (fun _ => ?_)
theorem impl_isMarker.mono : ∀ a0 a1 a2 k, LeO (impl_isMarker.f k a0 a1 a2) (impl_isMarker.f (k + 1) a0 a1 a2) := by
  intro a0 a1 a2 k
  obtain ⟨ih0, ih1, ih2, ih3⟩ := impl_isMarker.mono_l k
  unfold impl_isMarker.f
  repeat' first
      | (with_reducible exact ih0 _ _ _ _)
      | (with_reducible exact ih1 _ _ _ _ _ _)
      | (with_reducible exact ih2 _ _ _ _ _ _ _ _ _ _)
      | (with_reducible exact ih3 _ _ _ _ _ _ _ _ _ _ _ _)
      | (with_reducible exact LeO.refl _)
      | (with_reducible exact LeO.none _)
      | (with_reducible refine LeO.ite ?_ ?_)
      | (with_reducible refine LeO.bind ?_ (fun _ => ?_))
      | exact ih0 _ _ _ _
      | exact ih1 _ _ _ _ _ _
      | exact ih2 _ _ _ _ _ _ _ _ _ _
      | exact ih3 _ _ _ _ _ _ _ _ _ _ _ _
      | exact LeO.none _
      | refine LeO.ite ?_ ?_
      | refine LeO.bind ?_ (fun _ => ?_)
set_option maxHeartbeats 8000000 in
set_option maxRecDepth 100000 in
theorem impl_isMarker.calls (k : Nat) (A0_0 : Option Addr) (c0_0 : Nat) (l0_0 : List (S44)) (A0_1 : Option Addr) (c0_1 : Nat) (l0_1 : List Int) (a0_2 : Bool) (r : Bool) (w : World) (hr0_0 : Kd.C k44 w A0_0 l0_0.length l0_0) (hc0_0 : l0_0.length ≤ c0_0) (hr0_1 : Kd.C (Kd.int .i64) w A0_1 l0_1.length l0_1) (hc0_1 : l0_1.length ≤ c0_1) (h : impl_isMarker.f k l0_0 l0_1 a0_2 = some r) :
    Calls Try.prog 35 #[.agg #[.slice A0_0 l0_0.length c0_0, .slice A0_1 l0_1.length c0_1, .bool a0_2]] w fun e w' => e = .returned (.bool r) ∧ Below w.heap.size w w' := by
  have hu25 := Try.underlying25
  have hu44 := Try.underlying44
  have HR0_0 := Aside0.mk hr0_0
  have HC0_0 := Aside0.mk hc0_0
  clear hr0_0 hc0_0
  have HR0_1 := Aside0.mk hr0_1
  have HC0_1 := Aside0.mk hc0_1
  clear hr0_1 hc0_1
  have HB := Aside0.mk (Below.refl w.heap.size w)
  have H : ((impl_in.f (l0_0.length : Int) 2 10).bind fun t183 => (if t183 = true then (impl_isMarker.j0 k ((l0_1.length : Int) != 2) l0_0 l0_1 a0_2) else (impl_isMarker.j0 k true l0_0 l0_1 a0_2))) = some r := h
  clear h
  have HC2 := Aside0.mk H
  clear H
  go_enter Try.func35, Try.ntmps35
  go_upto_region 1 with (first | ((with_reducible refine gate_dst (N := 1) rfl ?_); (try (refine gate_guard (by rfl) ?_; dsimp only)); refine box_event ?hg (N := 1) ?hd (cs := #[.slice A0_0 l0_0.length c0_0, .slice A0_1 l0_1.length c0_1, .bool a0_2]) (t := 25) ?hr ?_; (case hd => rfl); (case hg => rfl); (case hr => first | (go_simp; done) | (go_simp; rfl)); intro gb182 hg w3 hbox hb; have n0_ := Aside0.mk (below_step (by repeat (first | (with_reducible first | exact HB.out | apply below_alloc | apply pw_below_drewN | apply below_drew1) | exact HB.out)) hb); have n1_ := Aside0.mk (hbox); have n2_ := Aside0.mk ((by rw [hg]; exact (below_size (by repeat (first | (with_reducible first | exact HB.out | apply below_alloc | apply pw_below_drewN | apply below_drew1) | exact HB.out))) : w.heap.size ≤ gb182)); have n3_ := Aside0.mk ((by rw [hg]; exact (below_size (by repeat (first | (with_reducible first | exact HB.out | apply below_alloc | apply pw_below_drewN | apply below_drew1) | exact HB.out))) : w.heap.size ≤ gb182)); clear HB; have HB := n0_; have BK182 := n1_; have GW182 := n2_; have GE182 := n3_; clear n0_ n1_ n2_ n3_; clear hb hbox hg))
  (try simp only [Act.put, List.setIfInBounds_toArray, List.set_cons_zero, List.set_cons_succ])
  go_cut [17] (fun v17 wc => ∃ (kq : Nat) (x17_1 : Bool), v17 = .bool x17_1 ∧ Aside0 (impl_isMarker.j0 kq x17_1 l0_0 l0_1 a0_2 = some r) ∧ Aside0 (kq ≤ k) ∧ Aside0 (wc.heap[gb182]? = some (.cells #[(.slice A0_0 l0_0.length c0_0), (.slice A0_1 l0_1.length c0_1), .bool a0_2] 25 (0, 0))) ∧ Aside0 (Below w.heap.size w wc))
  case first =>
    have H := HC2.out
    clear HC2
    replace H := Option.bind_eq_some_iff.mp H
    obtain ⟨t183, A40, H⟩ := H
    replace H : (if t183 = true then (impl_isMarker.j0 k ((l0_1.length : Int) != 2) l0_0 l0_1 a0_2) else (impl_isMarker.j0 k true l0_0 l0_1 a0_2)) = some r := H
    have A4 := Aside0.mk A40
    clear A40
    by_cases c5 : t183 = true
    · subst c5
      have H1 : (impl_isMarker.j0 k ((l0_1.length : Int) != 2) l0_0 l0_1 a0_2) = some r := by rw [if_pos rfl] at H; exact H
      clear H
      have H := H1
      clear H1
      have H' := Aside0.mk H
      clear H
      have hcz6_0 : w3.cell? ⟨gb182, 0, none⟩ = some (.slice A0_0 l0_0.length c0_0) := (blk_cell BK182.out 0).trans rfl
      have hcz6_1 : w3.cell? ⟨gb182, 1, none⟩ = some (.slice A0_1 l0_1.length c0_1) := (blk_cell BK182.out 1).trans rfl
      have hcz6_2 : w3.cell? ⟨gb182, 2, none⟩ = some (.bool a0_2) := (blk_cell BK182.out 2).trans rfl
      have hfz6_0 := blk_frozen BK182.out 0
      have hfz6_1 := blk_frozen BK182.out 1
      have hfz6_2 := blk_frozen BK182.out 2
      go_wp2_with (first | ((with_reducible refine gate_callee (f := 24) rfl ?_); refine goesL_ (some 10) rfl rfl Try.func24 (by kernel_rfl) rfl #[.int .i64 (l0_0.length : Int), .int .i64 2, .int .i64 10] rfl (by (try simp only [List.map_toArray, List.map_cons, List.map_nil]); first | done | rfl | (simp only [List.length_drop, List.length_take]; rfl)) ?_; (with_reducible refine (impl_in.calls (l0_0.length : Int) 2 10 true _ A4.out).mono ?_); rintro e w' ⟨rfl, ⟨nd, rfl⟩⟩; refine ⟨_, rfl, ?_⟩))
      go_meet
      case rel => exact ⟨_, (((l0_1.length : Int) != 2)), (by first | rfl | (simp; done) | (simp [*]; done)), H', ⟨by first | omega | exact Nat.le_refl _⟩, ⟨by (with_reducible repeat (first | refine blk_drewN ?_ _ | refine blk_drew ?_ | refine blk_alloc ?_ _)); exact BK182.out⟩, ⟨by repeat (first | (with_reducible first | exact HB.out | apply below_alloc | apply pw_below_drewN | apply below_drew1 | refine below_set ?_ GE182.out) | exact HB.out)⟩⟩
    · replace c5 := Bool.eq_false_iff.mpr c5
      subst c5
      have H1 : (impl_isMarker.j0 k true l0_0 l0_1 a0_2) = some r := by rw [if_neg (show ¬ (false = true) by decide)] at H; exact H
      clear H
      have H := H1
      clear H1
      have H' := Aside0.mk H
      clear H
      have hcz7_0 : w3.cell? ⟨gb182, 0, none⟩ = some (.slice A0_0 l0_0.length c0_0) := (blk_cell BK182.out 0).trans rfl
      have hcz7_1 : w3.cell? ⟨gb182, 1, none⟩ = some (.slice A0_1 l0_1.length c0_1) := (blk_cell BK182.out 1).trans rfl
      have hcz7_2 : w3.cell? ⟨gb182, 2, none⟩ = some (.bool a0_2) := (blk_cell BK182.out 2).trans rfl
      have hfz7_0 := blk_frozen BK182.out 0
      have hfz7_1 := blk_frozen BK182.out 1
      have hfz7_2 := blk_frozen BK182.out 2
      go_wp2_with (first | ((with_reducible refine gate_callee (f := 24) rfl ?_); refine goesL_ (some 10) rfl rfl Try.func24 (by kernel_rfl) rfl #[.int .i64 (l0_0.length : Int), .int .i64 2, .int .i64 10] rfl (by (try simp only [List.map_toArray, List.map_cons, List.map_nil]); first | done | rfl | (simp only [List.length_drop, List.length_take]; rfl)) ?_; (with_reducible refine (impl_in.calls (l0_0.length : Int) 2 10 false _ A4.out).mono ?_); rintro e w' ⟨rfl, ⟨nd, rfl⟩⟩; refine ⟨_, rfl, ?_⟩))
      go_meet
      case rel => exact ⟨_, (true), (by first | rfl | (simp; done) | (simp [*]; done)), H', ⟨by first | omega | exact Nat.le_refl _⟩, ⟨by (with_reducible repeat (first | refine blk_drewN ?_ _ | refine blk_drew ?_ | refine blk_alloc ?_ _)); exact BK182.out⟩, ⟨by repeat (first | (with_reducible first | exact HB.out | apply below_alloc | apply pw_below_drewN | apply below_drew1 | refine below_set ?_ GE182.out) | exact HB.out)⟩⟩
  case rest =>
    clear HC2
    try clear c2
    try clear p2
    try clear c3
    try clear c5
    try clear hcz6_0
    try clear hcz6_1
    try clear hcz6_2
    try clear hcz7_0
    try clear hcz7_1
    try clear hcz7_2
    try clear hfz6_0
    try clear hfz6_1
    try clear hfz6_2
    try clear hfz7_0
    try clear hfz7_1
    try clear hfz7_2
    obtain ⟨kq, x17_1, rfl, HA, HJ1, BK182, HB⟩ := hcut
    cases kq with
    | zero => exact absurd HA.out (by simp [impl_isMarker.j0])
    | succ kj1 =>
      have H := HA.out
      clear HA
      simp only [impl_isMarker.j0] at H
      by_cases c8 : x17_1 = true
      · subst c8
        have H1 : (some false) = some r := by rw [if_pos rfl] at H; exact H
        clear H
        have H := H1
        clear H1
        obtain rfl := Option.some.inj H
        first | (go_wp2; go_ret; exact ⟨by first | rfl | (simp [errW_none, errW_some] <;> rfl) | (simp [*, errW_none, errW_some] <;> rfl), by repeat (first | (with_reducible first | exact HB.out | apply below_alloc | apply pw_below_drewN | apply below_drew1 | refine below_set ?_ GE182.out) | exact HB.out)⟩) | (exfalso; simp only [decide_eq_false_iff_not, decide_eq_true_eq] at *; omega)
      · replace c8 := Bool.eq_false_iff.mpr c8
        subst c8
        have H1 : (impl_isMarker.l0 kj1 l0_0 (l0_0.length : Int) 0 l0_0 l0_1 a0_2) = some r := by rw [if_neg (show ¬ (false = true) by decide)] at H; exact H
        clear H
        have H := H1
        clear H1
        have H' := Aside0.mk H
        clear H
        have hcz9_0 : wc.cell? ⟨gb182, 0, none⟩ = some (.slice A0_0 l0_0.length c0_0) := (blk_cell BK182.out 0).trans rfl
        have hcz9_1 : wc.cell? ⟨gb182, 1, none⟩ = some (.slice A0_1 l0_1.length c0_1) := (blk_cell BK182.out 1).trans rfl
        have hcz9_2 : wc.cell? ⟨gb182, 2, none⟩ = some (.bool a0_2) := (blk_cell BK182.out 2).trans rfl
        have hfz9_0 := blk_frozen BK182.out 0
        have hfz9_1 := blk_frozen BK182.out 1
        have hfz9_2 := blk_frozen BK182.out 2
        go_wp2
        go_loopg [21] kj1 (fun kq v21 w' => ∃ (x21_2 : Int), v21 = .int .i64 x21_2 ∧ Aside0 (impl_isMarker.l0 kq l0_0 (l0_0.length : Int) x21_2 l0_0 l0_1 a0_2 = some r) ∧ Aside0 (kq ≤ kj1) ∧ Aside0 (w'.heap[gb182]? = some (.cells #[(.slice A0_0 l0_0.length c0_0), (.slice A0_1 l0_1.length c0_1), .bool a0_2] 25 (0, 0))) ∧ Aside0 (Below w.heap.size w w'))
        case atStart => exact ⟨(0), (by first | rfl | (simp; done) | (simp [*]; done)), H', ⟨Nat.le_refl _⟩, ⟨by (with_reducible repeat (first | refine blk_drewN ?_ _ | refine blk_drew ?_ | refine blk_alloc ?_ _)); exact BK182.out⟩, ⟨by repeat (first | (with_reducible first | exact HB.out | apply below_alloc | apply pw_below_drewN | apply below_drew1 | refine below_set ?_ GE182.out) | exact HB.out)⟩⟩
        case round =>
          clear H'
          try clear c2
          try clear p2
          try clear c3
          try clear c5
          try clear c8
          try clear hcz6_0
          try clear hcz6_1
          try clear hcz6_2
          try clear hcz7_0
          try clear hcz7_1
          try clear hcz7_2
          try clear hcz9_0
          try clear hcz9_1
          try clear hcz9_2
          try clear hfz6_0
          try clear hfz6_1
          try clear hfz6_2
          try clear hfz7_0
          try clear hfz7_1
          try clear hfz7_2
          try clear hfz9_0
          try clear hfz9_1
          try clear hfz9_2
          try clear p2
          obtain ⟨x21_2, rfl, HA, HK2, BK182, HB⟩ := hrel
          cases gk with
          | zero => exact absurd HA.out (by simp [impl_isMarker.l0])
          | succ k2 =>
            have H := HA.out
            clear HA
            simp only [impl_isMarker.l0] at H
            by_cases c10 : x21_2 < (l0_0.length : Int)
            · rw [if_pos c10] at H
              have c10b0 : decide (x21_2 < (l0_0.length : Int)) = true := decide_eq_true c10
              clear c10
              by_cases c11 : 0 ≤ x21_2
              · rw [if_pos c11] at H
                have c11b0 : decide (0 ≤ x21_2) = true := decide_eq_true c11
                clear c11
                by_cases c12 : x21_2 < (l0_0.length : Int)
                · rw [if_pos c12] at H
                  have c12b0 : decide (x21_2 < (l0_0.length : Int)) = true := decide_eq_true c12
                  clear c12
                  have HC13 := Aside0.mk H
                  clear H
                  have p185 : 0 ≤ (x21_2 : Int) := of_decide_eq_true (by first | (with_reducible assumption) | assumption)
                  have q185 : x21_2 < (l0_0.length : Int) := of_decide_eq_true (by first | (with_reducible assumption) | assumption)
                  obtain ⟨ad185, A185_0, c185_0, e185, hx185_0, hx185_1, hx185_2, hl185_0, hi185_0⟩ := at_T44 HR0_0.out x21_2 p185 q185
                  cases e185
                  replace hx185_0 := (HB.out.cell (World.block_lt_of_cell? w _ hx185_0)).trans hx185_0
                  replace hx185_1 := (HB.out.cell (World.block_lt_of_cell? w _ hx185_1)).trans hx185_1
                  replace hx185_2 := (HB.out.cell (World.block_lt_of_cell? w _ hx185_2)).trans hx185_2
                  have HR185_0 := Aside0.mk hi185_0
                  have HC185_0 := Aside0.mk hl185_0
                  clear hi185_0 hl185_0
                  replace p185 := eq_true p185
                  replace q185 := eq_true q185
                  go_upto_region 6 with (first | ((with_reducible refine gate_dst (N := 4) rfl ?_); (try (refine gate_guard (by rfl) ?_; dsimp only)); refine box_event ?hg (N := 4) ?hd (cs := #[.slice none 0 0, .int .i64 0, .bool false]) (t := 44) ?hr ?_; (case hd => rfl); (case hg => rfl); (case hr => first | (go_simp; done) | (go_simp; rfl)); intro gb186 hg w14 hbox hb; have n0_ := Aside0.mk (blk_below (g := gb182) (o := .cells #[.slice (some ad185) l0_0.length c0_0, .slice A0_1 l0_1.length c0_1, .bool a0_2] 25 (0, 0)) (by (with_reducible repeat (first | refine blk_drewN ?_ _ | refine blk_drew ?_ | refine blk_alloc ?_ _)); exact BK182.out) hb); have n1_ := Aside0.mk (below_step (by repeat (first | (with_reducible first | exact HB.out | apply below_alloc | apply pw_below_drewN | apply below_drew1 | refine below_set ?_ GE182.out) | exact HB.out)) hb); have n2_ := Aside0.mk (hbox); have n3_ := Aside0.mk ((by rw [hg]; exact (below_size (by repeat (first | (with_reducible first | exact HB.out | apply below_alloc | apply pw_below_drewN | apply below_drew1 | refine below_set ?_ GE182.out) | exact HB.out))) : w.heap.size ≤ gb186)); have n4_ := Aside0.mk ((by rw [hg]; exact (below_size (by repeat (first | (with_reducible first | exact HB.out | apply below_alloc | apply pw_below_drewN | apply below_drew1 | refine below_set ?_ GE182.out) | exact HB.out))) : w.heap.size ≤ gb186)); have n5_ := Aside0.mk ((by rw [hg]; exact Nat.ne_of_lt (blk_lt (g := gb182) (o := .cells #[.slice (some ad185) l0_0.length c0_0, .slice A0_1 l0_1.length c0_1, .bool a0_2] 25 (0, 0)) (by (with_reducible repeat (first | refine blk_drewN ?_ _ | refine blk_drew ?_ | refine blk_alloc ?_ _)); exact BK182.out)) : gb182 ≠ gb186)); have n6_ := Aside0.mk ((by rw [hg]; exact Nat.ne_of_gt (blk_lt (g := gb182) (o := .cells #[.slice (some ad185) l0_0.length c0_0, .slice A0_1 l0_1.length c0_1, .bool a0_2] 25 (0, 0)) (by (with_reducible repeat (first | refine blk_drewN ?_ _ | refine blk_drew ?_ | refine blk_alloc ?_ _)); exact BK182.out)) : gb186 ≠ gb182)); clear BK182; clear HB; have BK182 := n0_; have HB := n1_; have BK186 := n2_; have GW186 := n3_; have GE186 := n4_; have NB182_186 := n5_; have NB186_182 := n6_; clear n0_ n1_ n2_ n3_ n4_ n5_ n6_; clear hb hbox hg; have hnb15 := NB186_182.out; have hnc15 := NB182_186.out; have hcz16_0 : w14.cell? ⟨gb186, 0, none⟩ = some (.slice none 0 0) := (blk_cell BK186.out 0).trans rfl; have hcz16_1 : w14.cell? ⟨gb186, 1, none⟩ = some (.int .i64 0) := (blk_cell BK186.out 1).trans rfl; have hcz16_2 : w14.cell? ⟨gb186, 2, none⟩ = some (.bool false) := (blk_cell BK186.out 2).trans rfl; have hfz16_0 := blk_frozen BK186.out 0; have hfz16_1 := blk_frozen BK186.out 1; have hfz16_2 := blk_frozen BK186.out 2))
                  (try simp only [Act.put, List.setIfInBounds_toArray, List.set_cons_zero, List.set_cons_succ])
                  go_cut [48] (fun v48 wc => ∃ (kq : Nat) (x48_12 : Bool), v48 = .bool x48_12 ∧ Aside0 (impl_isMarker.j2 kq l0_0 (l0_0.length : Int) x21_2 x48_12 l0_0 l0_1 a0_2 ((rd_T44 l0_0 x21_2).f0) ((rd_T44 l0_0 x21_2).f1) ((rd_T44 l0_0 x21_2).f2) = some r) ∧ Aside0 (kq ≤ k2) ∧ Aside0 (wc.heap[gb182]? = some (.cells #[(.slice (some ad185) l0_0.length c0_0), (.slice A0_1 l0_1.length c0_1), .bool a0_2] 25 (0, 0))) ∧ Aside0 (wc.heap[gb186]? = some (.cells #[(.slice A185_0 ((rd_T44 l0_0 x21_2).f0).length c185_0), .int .i64 ((rd_T44 l0_0 x21_2).f1), .bool ((rd_T44 l0_0 x21_2).f2)] 44 (0, 0))) ∧ Aside0 (Below w.heap.size w wc))
                  case first =>
                    have H := HC13.out
                    clear HC13
                    by_cases c17 : (((rd_T44 l0_0 x21_2).f0).length : Int) = 2
                    · rw [if_pos c17] at H
                      have c17b0 : ((((rd_T44 l0_0 x21_2).f0).length : Int) == 2) = true := beq_iff_eq.mpr c17
                      have c17b1 : ((((rd_T44 l0_0 x21_2).f0).length : Int) != 2) = false := bne_eq_false_iff_eq.mpr c17
                      clear c17
                      (first | rw [c17b0] | (simp only [i64_w, i32_w]; rw [c17b0]) | skip)
                      replace H := Option.bind_eq_some_iff.mp H
                      obtain ⟨t187, A180, H⟩ := H
                      replace H : (if t187 = true then (if ((rd_T44 l0_0 x21_2).f1) = 0 then (impl_isMarker.j2 k2 l0_0 (l0_0.length : Int) x21_2 false l0_0 l0_1 a0_2 ((rd_T44 l0_0 x21_2).f0) ((rd_T44 l0_0 x21_2).f1) ((rd_T44 l0_0 x21_2).f2)) else (if (rd_T44 l0_0 x21_2).f2 = true then (impl_isMarker.j2 k2 l0_0 (l0_0.length : Int) x21_2 true l0_0 l0_1 a0_2 ((rd_T44 l0_0 x21_2).f0) ((rd_T44 l0_0 x21_2).f1) ((rd_T44 l0_0 x21_2).f2)) else (impl_isMarker.j2 k2 l0_0 (l0_0.length : Int) x21_2 (!a0_2) l0_0 l0_1 a0_2 ((rd_T44 l0_0 x21_2).f0) ((rd_T44 l0_0 x21_2).f1) ((rd_T44 l0_0 x21_2).f2)))) else (impl_isMarker.j2 k2 l0_0 (l0_0.length : Int) x21_2 true l0_0 l0_1 a0_2 ((rd_T44 l0_0 x21_2).f0) ((rd_T44 l0_0 x21_2).f1) ((rd_T44 l0_0 x21_2).f2))) = some r := H
                      have A18 := Aside0.mk A180
                      clear A180
                      by_cases c19 : t187 = true
                      · subst c19
                        have H1 : (if ((rd_T44 l0_0 x21_2).f1) = 0 then (impl_isMarker.j2 k2 l0_0 (l0_0.length : Int) x21_2 false l0_0 l0_1 a0_2 ((rd_T44 l0_0 x21_2).f0) ((rd_T44 l0_0 x21_2).f1) ((rd_T44 l0_0 x21_2).f2)) else (if (rd_T44 l0_0 x21_2).f2 = true then (impl_isMarker.j2 k2 l0_0 (l0_0.length : Int) x21_2 true l0_0 l0_1 a0_2 ((rd_T44 l0_0 x21_2).f0) ((rd_T44 l0_0 x21_2).f1) ((rd_T44 l0_0 x21_2).f2)) else (impl_isMarker.j2 k2 l0_0 (l0_0.length : Int) x21_2 (!a0_2) l0_0 l0_1 a0_2 ((rd_T44 l0_0 x21_2).f0) ((rd_T44 l0_0 x21_2).f1) ((rd_T44 l0_0 x21_2).f2)))) = some r := by rw [if_pos rfl] at H; exact H
                        clear H
                        have H := H1
                        clear H1
                        by_cases c20 : ((rd_T44 l0_0 x21_2).f1) = 0
                        · rw [if_pos c20] at H
                          have c20b0 : (((rd_T44 l0_0 x21_2).f1) == 0) = true := beq_iff_eq.mpr c20
                          have c20b1 : (((rd_T44 l0_0 x21_2).f1) != 0) = false := bne_eq_false_iff_eq.mpr c20
                          clear c20
                          have H' := Aside0.mk H
                          clear H
                          have hnb21 := NB186_182.out
                          have hnc21 := NB182_186.out
                          have hcz22_0 : w14.cell? ⟨gb186, 0, none⟩ = some (.slice none 0 0) := (blk_cell BK186.out 0).trans rfl
                          have hcz22_1 : w14.cell? ⟨gb186, 1, none⟩ = some (.int .i64 0) := (blk_cell BK186.out 1).trans rfl
                          have hcz22_2 : w14.cell? ⟨gb186, 2, none⟩ = some (.bool false) := (blk_cell BK186.out 2).trans rfl
                          have hfz22_0 := blk_frozen BK186.out 0
                          have hfz22_1 := blk_frozen BK186.out 1
                          have hfz22_2 := blk_frozen BK186.out 2
                          go_wp2_with (first | (go_at_call 24; (with_reducible refine (impl_in.calls ((rd_T44 l0_0 x21_2).f1) 0 2 true _ A18.out).mono ?_); rintro e w' ⟨rfl, ⟨nd, rfl⟩⟩))
                          go_meet
                          case rel => exact ⟨_, (false), (by first | rfl | (simp; done) | (simp [*]; done)), H', ⟨by have := HJ1.out; have := HK2.out; first | omega | exact Nat.le_refl _⟩, ⟨by (with_reducible repeat (first | refine blk_drewN ?_ _ | refine blk_drew ?_ | refine blk_alloc ?_ _)); refine blk_far ?_ NB182_186.out _; (with_reducible repeat (first | refine blk_drewN ?_ _ | refine blk_drew ?_ | refine blk_alloc ?_ _)); refine blk_far ?_ NB182_186.out _; (with_reducible repeat (first | refine blk_drewN ?_ _ | refine blk_drew ?_ | refine blk_alloc ?_ _)); refine blk_far ?_ NB182_186.out _; (with_reducible repeat (first | refine blk_drewN ?_ _ | refine blk_drew ?_ | refine blk_alloc ?_ _)); exact BK182.out⟩, ⟨by (with_reducible repeat (first | refine blk_drewN ?_ _ | refine blk_drew ?_ | refine blk_alloc ?_ _)); refine blk_put (cs := #[.slice A185_0 ((rd_T44 l0_0 x21_2).f0).length c185_0, .int .i64 ((rd_T44 l0_0 x21_2).f1), .bool false]) ?_ 2 _ rfl; (with_reducible repeat (first | refine blk_drewN ?_ _ | refine blk_drew ?_ | refine blk_alloc ?_ _)); refine blk_put (cs := #[.slice A185_0 ((rd_T44 l0_0 x21_2).f0).length c185_0, .int .i64 0, .bool false]) ?_ 1 _ rfl; (with_reducible repeat (first | refine blk_drewN ?_ _ | refine blk_drew ?_ | refine blk_alloc ?_ _)); refine blk_put (cs := #[.slice none 0 0, .int .i64 0, .bool false]) ?_ 0 _ rfl; (with_reducible repeat (first | refine blk_drewN ?_ _ | refine blk_drew ?_ | refine blk_alloc ?_ _)); exact BK186.out⟩, ⟨by repeat (first | (with_reducible first | exact HB.out | apply below_alloc | apply pw_below_drewN | apply below_drew1 | refine below_set ?_ GE182.out | refine below_set ?_ GE186.out) | exact HB.out)⟩⟩
                        · rw [if_neg c20] at H
                          have c20b0 : (((rd_T44 l0_0 x21_2).f1) == 0) = false := beq_eq_false_iff_ne.mpr c20
                          have c20b1 : (((rd_T44 l0_0 x21_2).f1) != 0) = true := bne_iff_ne.mpr c20
                          obtain ⟨bq23, hbq23⟩ : ∃ b_ : Bool, b_ = ((rd_T44 l0_0 x21_2).f2) := ⟨_, rfl⟩
                          replace H : (if bq23 = true then (impl_isMarker.j2 k2 l0_0 (l0_0.length : Int) x21_2 true l0_0 l0_1 a0_2 ((rd_T44 l0_0 x21_2).f0) ((rd_T44 l0_0 x21_2).f1) bq23) else (impl_isMarker.j2 k2 l0_0 (l0_0.length : Int) x21_2 (!a0_2) l0_0 l0_1 a0_2 ((rd_T44 l0_0 x21_2).f0) ((rd_T44 l0_0 x21_2).f1) bq23)) = some r := by rw [← hbq23] at H; exact H
                          have Nbq23 := Aside0.mk hbq23
                          clear hbq23
                          (try rw [← Nbq23.out])
                          by_cases c24 : bq23 = true
                          · subst c24
                            have H1 : (impl_isMarker.j2 k2 l0_0 (l0_0.length : Int) x21_2 true l0_0 l0_1 a0_2 ((rd_T44 l0_0 x21_2).f0) ((rd_T44 l0_0 x21_2).f1) true) = some r := by rw [if_pos rfl] at H; exact H
                            clear H
                            have H := H1
                            clear H1
                            have H' := Aside0.mk H
                            clear H
                            have hnb25 := NB186_182.out
                            have hnc25 := NB182_186.out
                            have hcz26_0 : w14.cell? ⟨gb186, 0, none⟩ = some (.slice none 0 0) := (blk_cell BK186.out 0).trans rfl
                            have hcz26_1 : w14.cell? ⟨gb186, 1, none⟩ = some (.int .i64 0) := (blk_cell BK186.out 1).trans rfl
                            have hcz26_2 : w14.cell? ⟨gb186, 2, none⟩ = some (.bool false) := (blk_cell BK186.out 2).trans rfl
                            have hfz26_0 := blk_frozen BK186.out 0
                            have hfz26_1 := blk_frozen BK186.out 1
                            have hfz26_2 := blk_frozen BK186.out 2
                            go_wp2_with (first | (go_at_call 24; (with_reducible refine (impl_in.calls ((rd_T44 l0_0 x21_2).f1) 0 2 true _ A18.out).mono ?_); rintro e w' ⟨rfl, ⟨nd, rfl⟩⟩))
                            go_meet
                            case rel => (try rw [← Nbq23.out]); exact ⟨_, (true), (by first | rfl | (simp; done) | (simp [*]; done)), H', ⟨by have := HJ1.out; have := HK2.out; first | omega | exact Nat.le_refl _⟩, ⟨by (with_reducible repeat (first | refine blk_drewN ?_ _ | refine blk_drew ?_ | refine blk_alloc ?_ _)); refine blk_far ?_ NB182_186.out _; (with_reducible repeat (first | refine blk_drewN ?_ _ | refine blk_drew ?_ | refine blk_alloc ?_ _)); refine blk_far ?_ NB182_186.out _; (with_reducible repeat (first | refine blk_drewN ?_ _ | refine blk_drew ?_ | refine blk_alloc ?_ _)); refine blk_far ?_ NB182_186.out _; (with_reducible repeat (first | refine blk_drewN ?_ _ | refine blk_drew ?_ | refine blk_alloc ?_ _)); exact BK182.out⟩, ⟨by (with_reducible repeat (first | refine blk_drewN ?_ _ | refine blk_drew ?_ | refine blk_alloc ?_ _)); refine blk_put (cs := #[.slice A185_0 ((rd_T44 l0_0 x21_2).f0).length c185_0, .int .i64 ((rd_T44 l0_0 x21_2).f1), .bool false]) ?_ 2 _ rfl; (with_reducible repeat (first | refine blk_drewN ?_ _ | refine blk_drew ?_ | refine blk_alloc ?_ _)); refine blk_put (cs := #[.slice A185_0 ((rd_T44 l0_0 x21_2).f0).length c185_0, .int .i64 0, .bool false]) ?_ 1 _ rfl; (with_reducible repeat (first | refine blk_drewN ?_ _ | refine blk_drew ?_ | refine blk_alloc ?_ _)); refine blk_put (cs := #[.slice none 0 0, .int .i64 0, .bool false]) ?_ 0 _ rfl; (with_reducible repeat (first | refine blk_drewN ?_ _ | refine blk_drew ?_ | refine blk_alloc ?_ _)); exact BK186.out⟩, ⟨by repeat (first | (with_reducible first | exact HB.out | apply below_alloc | apply pw_below_drewN | apply below_drew1 | refine below_set ?_ GE182.out | refine below_set ?_ GE186.out) | exact HB.out)⟩⟩
                          · replace c24 := Bool.eq_false_iff.mpr c24
                            subst c24
                            have H1 : (impl_isMarker.j2 k2 l0_0 (l0_0.length : Int) x21_2 (!a0_2) l0_0 l0_1 a0_2 ((rd_T44 l0_0 x21_2).f0) ((rd_T44 l0_0 x21_2).f1) false) = some r := by rw [if_neg (show ¬ (false = true) by decide)] at H; exact H
                            clear H
                            have H := H1
                            clear H1
                            have H' := Aside0.mk H
                            clear H
                            have hnb27 := NB186_182.out
                            have hnc27 := NB182_186.out
                            have hcz28_0 : w14.cell? ⟨gb186, 0, none⟩ = some (.slice none 0 0) := (blk_cell BK186.out 0).trans rfl
                            have hcz28_1 : w14.cell? ⟨gb186, 1, none⟩ = some (.int .i64 0) := (blk_cell BK186.out 1).trans rfl
                            have hcz28_2 : w14.cell? ⟨gb186, 2, none⟩ = some (.bool false) := (blk_cell BK186.out 2).trans rfl
                            have hfz28_0 := blk_frozen BK186.out 0
                            have hfz28_1 := blk_frozen BK186.out 1
                            have hfz28_2 := blk_frozen BK186.out 2
                            go_wp2_with (first | (go_at_call 24; (with_reducible refine (impl_in.calls ((rd_T44 l0_0 x21_2).f1) 0 2 true _ A18.out).mono ?_); rintro e w' ⟨rfl, ⟨nd, rfl⟩⟩; have hcz29_0 : w14.cell? ⟨gb182, 0, none⟩ = some (.slice (some ad185) l0_0.length c0_0) := (blk_cell BK182.out 0).trans rfl; have hcz29_1 : w14.cell? ⟨gb182, 1, none⟩ = some (.slice A0_1 l0_1.length c0_1) := (blk_cell BK182.out 1).trans rfl; have hcz29_2 : w14.cell? ⟨gb182, 2, none⟩ = some (.bool a0_2) := (blk_cell BK182.out 2).trans rfl; have hfz29_0 := blk_frozen BK182.out 0; have hfz29_1 := blk_frozen BK182.out 1; have hfz29_2 := blk_frozen BK182.out 2))
                            go_meet
                            case rel => (try rw [← Nbq23.out]); exact ⟨_, (!a0_2), (by first | rfl | (simp; done) | (simp [*]; done)), H', ⟨by have := HJ1.out; have := HK2.out; first | omega | exact Nat.le_refl _⟩, ⟨by (with_reducible repeat (first | refine blk_drewN ?_ _ | refine blk_drew ?_ | refine blk_alloc ?_ _)); refine blk_far ?_ NB182_186.out _; (with_reducible repeat (first | refine blk_drewN ?_ _ | refine blk_drew ?_ | refine blk_alloc ?_ _)); refine blk_far ?_ NB182_186.out _; (with_reducible repeat (first | refine blk_drewN ?_ _ | refine blk_drew ?_ | refine blk_alloc ?_ _)); refine blk_far ?_ NB182_186.out _; (with_reducible repeat (first | refine blk_drewN ?_ _ | refine blk_drew ?_ | refine blk_alloc ?_ _)); exact BK182.out⟩, ⟨by (with_reducible repeat (first | refine blk_drewN ?_ _ | refine blk_drew ?_ | refine blk_alloc ?_ _)); refine blk_put (cs := #[.slice A185_0 ((rd_T44 l0_0 x21_2).f0).length c185_0, .int .i64 ((rd_T44 l0_0 x21_2).f1), .bool false]) ?_ 2 _ rfl; (with_reducible repeat (first | refine blk_drewN ?_ _ | refine blk_drew ?_ | refine blk_alloc ?_ _)); refine blk_put (cs := #[.slice A185_0 ((rd_T44 l0_0 x21_2).f0).length c185_0, .int .i64 0, .bool false]) ?_ 1 _ rfl; (with_reducible repeat (first | refine blk_drewN ?_ _ | refine blk_drew ?_ | refine blk_alloc ?_ _)); refine blk_put (cs := #[.slice none 0 0, .int .i64 0, .bool false]) ?_ 0 _ rfl; (with_reducible repeat (first | refine blk_drewN ?_ _ | refine blk_drew ?_ | refine blk_alloc ?_ _)); exact BK186.out⟩, ⟨by repeat (first | (with_reducible first | exact HB.out | apply below_alloc | apply pw_below_drewN | apply below_drew1 | refine below_set ?_ GE182.out | refine below_set ?_ GE186.out) | exact HB.out)⟩⟩
                      · replace c19 := Bool.eq_false_iff.mpr c19
                        subst c19
                        have H1 : (impl_isMarker.j2 k2 l0_0 (l0_0.length : Int) x21_2 true l0_0 l0_1 a0_2 ((rd_T44 l0_0 x21_2).f0) ((rd_T44 l0_0 x21_2).f1) ((rd_T44 l0_0 x21_2).f2)) = some r := by rw [if_neg (show ¬ (false = true) by decide)] at H; exact H
                        clear H
                        have H := H1
                        clear H1
                        have H' := Aside0.mk H
                        clear H
                        have hnb30 := NB186_182.out
                        have hnc30 := NB182_186.out
                        have hcz31_0 : w14.cell? ⟨gb186, 0, none⟩ = some (.slice none 0 0) := (blk_cell BK186.out 0).trans rfl
                        have hcz31_1 : w14.cell? ⟨gb186, 1, none⟩ = some (.int .i64 0) := (blk_cell BK186.out 1).trans rfl
                        have hcz31_2 : w14.cell? ⟨gb186, 2, none⟩ = some (.bool false) := (blk_cell BK186.out 2).trans rfl
                        have hfz31_0 := blk_frozen BK186.out 0
                        have hfz31_1 := blk_frozen BK186.out 1
                        have hfz31_2 := blk_frozen BK186.out 2
                        go_wp2_with (first | (go_at_call 24; (with_reducible refine (impl_in.calls ((rd_T44 l0_0 x21_2).f1) 0 2 false _ A18.out).mono ?_); rintro e w' ⟨rfl, ⟨nd, rfl⟩⟩))
                        go_meet
                        case rel => exact ⟨_, (true), (by first | rfl | (simp; done) | (simp [*]; done)), H', ⟨by have := HJ1.out; have := HK2.out; first | omega | exact Nat.le_refl _⟩, ⟨by (with_reducible repeat (first | refine blk_drewN ?_ _ | refine blk_drew ?_ | refine blk_alloc ?_ _)); refine blk_far ?_ NB182_186.out _; (with_reducible repeat (first | refine blk_drewN ?_ _ | refine blk_drew ?_ | refine blk_alloc ?_ _)); refine blk_far ?_ NB182_186.out _; (with_reducible repeat (first | refine blk_drewN ?_ _ | refine blk_drew ?_ | refine blk_alloc ?_ _)); refine blk_far ?_ NB182_186.out _; (with_reducible repeat (first | refine blk_drewN ?_ _ | refine blk_drew ?_ | refine blk_alloc ?_ _)); exact BK182.out⟩, ⟨by (with_reducible repeat (first | refine blk_drewN ?_ _ | refine blk_drew ?_ | refine blk_alloc ?_ _)); refine blk_put (cs := #[.slice A185_0 ((rd_T44 l0_0 x21_2).f0).length c185_0, .int .i64 ((rd_T44 l0_0 x21_2).f1), .bool false]) ?_ 2 _ rfl; (with_reducible repeat (first | refine blk_drewN ?_ _ | refine blk_drew ?_ | refine blk_alloc ?_ _)); refine blk_put (cs := #[.slice A185_0 ((rd_T44 l0_0 x21_2).f0).length c185_0, .int .i64 0, .bool false]) ?_ 1 _ rfl; (with_reducible repeat (first | refine blk_drewN ?_ _ | refine blk_drew ?_ | refine blk_alloc ?_ _)); refine blk_put (cs := #[.slice none 0 0, .int .i64 0, .bool false]) ?_ 0 _ rfl; (with_reducible repeat (first | refine blk_drewN ?_ _ | refine blk_drew ?_ | refine blk_alloc ?_ _)); exact BK186.out⟩, ⟨by repeat (first | (with_reducible first | exact HB.out | apply below_alloc | apply pw_below_drewN | apply below_drew1 | refine below_set ?_ GE182.out | refine below_set ?_ GE186.out) | exact HB.out)⟩⟩
                    · rw [if_neg c17] at H
                      have c17b0 : ((((rd_T44 l0_0 x21_2).f0).length : Int) == 2) = false := beq_eq_false_iff_ne.mpr c17
                      have c17b1 : ((((rd_T44 l0_0 x21_2).f0).length : Int) != 2) = true := bne_iff_ne.mpr c17
                      (first | rw [c17b0] | (simp only [i64_w, i32_w]; rw [c17b0]) | skip)
                      have H' := Aside0.mk H
                      clear H
                      have hnb32 := NB186_182.out
                      have hnc32 := NB182_186.out
                      have hcz33_0 : w14.cell? ⟨gb186, 0, none⟩ = some (.slice none 0 0) := (blk_cell BK186.out 0).trans rfl
                      have hcz33_1 : w14.cell? ⟨gb186, 1, none⟩ = some (.int .i64 0) := (blk_cell BK186.out 1).trans rfl
                      have hcz33_2 : w14.cell? ⟨gb186, 2, none⟩ = some (.bool false) := (blk_cell BK186.out 2).trans rfl
                      have hfz33_0 := blk_frozen BK186.out 0
                      have hfz33_1 := blk_frozen BK186.out 1
                      have hfz33_2 := blk_frozen BK186.out 2
                      go_wp2
                      go_meet
                      case rel => exact ⟨_, (true), (by first | rfl | (simp; done) | (simp [*]; done)), H', ⟨by have := HJ1.out; have := HK2.out; first | omega | exact Nat.le_refl _⟩, ⟨by (with_reducible repeat (first | refine blk_drewN ?_ _ | refine blk_drew ?_ | refine blk_alloc ?_ _)); refine blk_far ?_ NB182_186.out _; (with_reducible repeat (first | refine blk_drewN ?_ _ | refine blk_drew ?_ | refine blk_alloc ?_ _)); refine blk_far ?_ NB182_186.out _; (with_reducible repeat (first | refine blk_drewN ?_ _ | refine blk_drew ?_ | refine blk_alloc ?_ _)); refine blk_far ?_ NB182_186.out _; (with_reducible repeat (first | refine blk_drewN ?_ _ | refine blk_drew ?_ | refine blk_alloc ?_ _)); exact BK182.out⟩, ⟨by (with_reducible repeat (first | refine blk_drewN ?_ _ | refine blk_drew ?_ | refine blk_alloc ?_ _)); refine blk_put (cs := #[.slice A185_0 ((rd_T44 l0_0 x21_2).f0).length c185_0, .int .i64 ((rd_T44 l0_0 x21_2).f1), .bool false]) ?_ 2 _ rfl; (with_reducible repeat (first | refine blk_drewN ?_ _ | refine blk_drew ?_ | refine blk_alloc ?_ _)); refine blk_put (cs := #[.slice A185_0 ((rd_T44 l0_0 x21_2).f0).length c185_0, .int .i64 0, .bool false]) ?_ 1 _ rfl; (with_reducible repeat (first | refine blk_drewN ?_ _ | refine blk_drew ?_ | refine blk_alloc ?_ _)); refine blk_put (cs := #[.slice none 0 0, .int .i64 0, .bool false]) ?_ 0 _ rfl; (with_reducible repeat (first | refine blk_drewN ?_ _ | refine blk_drew ?_ | refine blk_alloc ?_ _)); exact BK186.out⟩, ⟨by repeat (first | (with_reducible first | exact HB.out | apply below_alloc | apply pw_below_drewN | apply below_drew1 | refine below_set ?_ GE182.out | refine below_set ?_ GE186.out) | exact HB.out)⟩⟩
                  case rest =>
                    clear HC13
                    try clear c1
                    try clear p1
                    try clear q1
                    try clear hx1
                    try clear c2
                    try clear p2
                    try clear q2
                    try clear c3
                    try clear c5
                    try clear c8
                    try clear c10
                    try clear c10b0
                    try clear c11
                    try clear c11b0
                    try clear c12
                    try clear c12b0
                    try clear c15
                    try clear c17
                    try clear c17b0
                    try clear c17b1
                    try clear c18
                    try clear p18
                    try clear q18
                    try clear hx18
                    try clear c19
                    try clear c20
                    try clear c20b0
                    try clear c20b1
                    try clear c21
                    try clear q23
                    try clear c24
                    try clear c25
                    try clear c27
                    try clear c30
                    try clear c32
                    try clear hcz16_0
                    try clear hcz16_1
                    try clear hcz16_2
                    try clear hcz22_0
                    try clear hcz22_1
                    try clear hcz22_2
                    try clear hcz26_0
                    try clear hcz26_1
                    try clear hcz26_2
                    try clear hcz28_0
                    try clear hcz28_1
                    try clear hcz28_2
                    try clear hcz29_0
                    try clear hcz29_1
                    try clear hcz29_2
                    try clear hcz31_0
                    try clear hcz31_1
                    try clear hcz31_2
                    try clear hcz33_0
                    try clear hcz33_1
                    try clear hcz33_2
                    try clear hcz6_0
                    try clear hcz6_1
                    try clear hcz6_2
                    try clear hcz7_0
                    try clear hcz7_1
                    try clear hcz7_2
                    try clear hcz9_0
                    try clear hcz9_1
                    try clear hcz9_2
                    try clear hfz16_0
                    try clear hfz16_1
                    try clear hfz16_2
                    try clear hfz22_0
                    try clear hfz22_1
                    try clear hfz22_2
                    try clear hfz26_0
                    try clear hfz26_1
                    try clear hfz26_2
                    try clear hfz28_0
                    try clear hfz28_1
                    try clear hfz28_2
                    try clear hfz29_0
                    try clear hfz29_1
                    try clear hfz29_2
                    try clear hfz31_0
                    try clear hfz31_1
                    try clear hfz31_2
                    try clear hfz33_0
                    try clear hfz33_1
                    try clear hfz33_2
                    try clear hfz6_0
                    try clear hfz6_1
                    try clear hfz6_2
                    try clear hfz7_0
                    try clear hfz7_1
                    try clear hfz7_2
                    try clear hfz9_0
                    try clear hfz9_1
                    try clear hfz9_2
                    try clear hx185_0
                    try clear hx185_1
                    try clear hx185_2
                    try clear p185
                    try clear p2
                    try clear q185
                    obtain ⟨kq, x48_12, rfl, HA, HJ12, BK182, BK186, HB⟩ := hcut
                    cases kq with
                    | zero => exact absurd HA.out (by simp [impl_isMarker.j2])
                    | succ kj12 =>
                      have H := HA.out
                      clear HA
                      simp only [impl_isMarker.j2] at H
                      by_cases c34 : x48_12 = true
                      · subst c34
                        have H1 : (some false) = some r := by rw [if_pos rfl] at H; exact H
                        clear H
                        have H := H1
                        clear H1
                        obtain rfl := Option.some.inj H
                        first | (go_wp2; go_ret; exact ⟨by first | rfl | (simp [errW_none, errW_some] <;> rfl) | (simp [*, errW_none, errW_some] <;> rfl), by repeat (first | (with_reducible first | exact HB.out | apply below_alloc | apply pw_below_drewN | apply below_drew1 | refine below_set ?_ GE182.out | refine below_set ?_ GE186.out) | exact HB.out)⟩) | (exfalso; simp only [decide_eq_false_iff_not, decide_eq_true_eq] at *; omega)
                      · replace c34 := Bool.eq_false_iff.mpr c34
                        subst c34
                        have H1 : (impl_isMarker.l1 kj12 l0_0 (l0_0.length : Int) x21_2 ((rd_T44 l0_0 x21_2).f0) (((rd_T44 l0_0 x21_2).f0).length : Int) 0 l0_0 l0_1 a0_2 ((rd_T44 l0_0 x21_2).f0) ((rd_T44 l0_0 x21_2).f1) ((rd_T44 l0_0 x21_2).f2)) = some r := by rw [if_neg (show ¬ (false = true) by decide)] at H; exact H
                        clear H
                        have H := H1
                        clear H1
                        have H' := Aside0.mk H
                        clear H
                        have hnb35 := NB186_182.out
                        have hnc35 := NB182_186.out
                        have hcz36_0 : wc.cell? ⟨gb186, 0, none⟩ = some (.slice A185_0 ((rd_T44 l0_0 x21_2).f0).length c185_0) := (blk_cell BK186.out 0).trans rfl
                        have hcz36_1 : wc.cell? ⟨gb186, 1, none⟩ = some (.int .i64 ((rd_T44 l0_0 x21_2).f1)) := (blk_cell BK186.out 1).trans rfl
                        have hcz36_2 : wc.cell? ⟨gb186, 2, none⟩ = some (.bool ((rd_T44 l0_0 x21_2).f2)) := (blk_cell BK186.out 2).trans rfl
                        have hfz36_0 := blk_frozen BK186.out 0
                        have hfz36_1 := blk_frozen BK186.out 1
                        have hfz36_2 := blk_frozen BK186.out 2
                        go_wp2
                        go_loopg [52] kj12 (fun kq v52 w' => ∃ (x52_4 : Int), v52 = .int .i64 x52_4 ∧ Aside0 (impl_isMarker.l1 kq l0_0 (l0_0.length : Int) x21_2 ((rd_T44 l0_0 x21_2).f0) (((rd_T44 l0_0 x21_2).f0).length : Int) x52_4 l0_0 l0_1 a0_2 ((rd_T44 l0_0 x21_2).f0) ((rd_T44 l0_0 x21_2).f1) ((rd_T44 l0_0 x21_2).f2) = some r) ∧ Aside0 (kq ≤ kj12) ∧ Aside0 (w'.heap[gb182]? = some (.cells #[(.slice (some ad185) l0_0.length c0_0), (.slice A0_1 l0_1.length c0_1), .bool a0_2] 25 (0, 0))) ∧ Aside0 (w'.heap[gb186]? = some (.cells #[(.slice A185_0 ((rd_T44 l0_0 x21_2).f0).length c185_0), .int .i64 ((rd_T44 l0_0 x21_2).f1), .bool ((rd_T44 l0_0 x21_2).f2)] 44 (0, 0))) ∧ Aside0 (Below w.heap.size w w'))
                        case atStart => exact ⟨(0), (by first | rfl | (simp; done) | (simp [*]; done)), H', ⟨Nat.le_refl _⟩, ⟨by (with_reducible repeat (first | refine blk_drewN ?_ _ | refine blk_drew ?_ | refine blk_alloc ?_ _)); exact BK182.out⟩, ⟨by (with_reducible repeat (first | refine blk_drewN ?_ _ | refine blk_drew ?_ | refine blk_alloc ?_ _)); exact BK186.out⟩, ⟨by repeat (first | (with_reducible first | exact HB.out | apply below_alloc | apply pw_below_drewN | apply below_drew1 | refine below_set ?_ GE182.out | refine below_set ?_ GE186.out) | exact HB.out)⟩⟩
                        case round =>
                          clear H'
                          try clear c1
                          try clear p1
                          try clear q1
                          try clear hx1
                          try clear c2
                          try clear p2
                          try clear q2
                          try clear c3
                          try clear c5
                          try clear c8
                          try clear c10
                          try clear c10b0
                          try clear c11
                          try clear c11b0
                          try clear c12
                          try clear c12b0
                          try clear c15
                          try clear c17
                          try clear c17b0
                          try clear c17b1
                          try clear c18
                          try clear p18
                          try clear q18
                          try clear hx18
                          try clear c19
                          try clear c20
                          try clear c20b0
                          try clear c20b1
                          try clear c21
                          try clear q23
                          try clear c24
                          try clear c25
                          try clear c27
                          try clear c30
                          try clear c32
                          try clear c34
                          try clear c35
                          try clear hcz16_0
                          try clear hcz16_1
                          try clear hcz16_2
                          try clear hcz22_0
                          try clear hcz22_1
                          try clear hcz22_2
                          try clear hcz26_0
                          try clear hcz26_1
                          try clear hcz26_2
                          try clear hcz28_0
                          try clear hcz28_1
                          try clear hcz28_2
                          try clear hcz29_0
                          try clear hcz29_1
                          try clear hcz29_2
                          try clear hcz31_0
                          try clear hcz31_1
                          try clear hcz31_2
                          try clear hcz33_0
                          try clear hcz33_1
                          try clear hcz33_2
                          try clear hcz36_0
                          try clear hcz36_1
                          try clear hcz36_2
                          try clear hcz6_0
                          try clear hcz6_1
                          try clear hcz6_2
                          try clear hcz7_0
                          try clear hcz7_1
                          try clear hcz7_2
                          try clear hcz9_0
                          try clear hcz9_1
                          try clear hcz9_2
                          try clear hfz16_0
                          try clear hfz16_1
                          try clear hfz16_2
                          try clear hfz22_0
                          try clear hfz22_1
                          try clear hfz22_2
                          try clear hfz26_0
                          try clear hfz26_1
                          try clear hfz26_2
                          try clear hfz28_0
                          try clear hfz28_1
                          try clear hfz28_2
                          try clear hfz29_0
                          try clear hfz29_1
                          try clear hfz29_2
                          try clear hfz31_0
                          try clear hfz31_1
                          try clear hfz31_2
                          try clear hfz33_0
                          try clear hfz33_1
                          try clear hfz33_2
                          try clear hfz36_0
                          try clear hfz36_1
                          try clear hfz36_2
                          try clear hfz6_0
                          try clear hfz6_1
                          try clear hfz6_2
                          try clear hfz7_0
                          try clear hfz7_1
                          try clear hfz7_2
                          try clear hfz9_0
                          try clear hfz9_1
                          try clear hfz9_2
                          try clear hx185_0
                          try clear hx185_1
                          try clear hx185_2
                          try clear p1
                          try clear p18
                          try clear p185
                          try clear p2
                          try clear q1
                          try clear q18
                          try clear q185
                          try clear q2
                          try clear q23
                          obtain ⟨x52_4, rfl, HA, HK4, BK182, BK186, HB⟩ := hrel
                          cases gk with
                          | zero => exact absurd HA.out (by simp [impl_isMarker.l1])
                          | succ k4 =>
                            have H := HA.out
                            clear HA
                            simp only [impl_isMarker.l1] at H
                            by_cases c37 : x52_4 < (((rd_T44 l0_0 x21_2).f0).length : Int)
                            · rw [if_pos c37] at H
                              have c37b0 : decide (x52_4 < (((rd_T44 l0_0 x21_2).f0).length : Int)) = true := decide_eq_true c37
                              clear c37
                              by_cases c38 : 0 ≤ x52_4
                              · rw [if_pos c38] at H
                                have c38b0 : decide (0 ≤ x52_4) = true := decide_eq_true c38
                                clear c38
                                by_cases c39 : x52_4 < (((rd_T44 l0_0 x21_2).f0).length : Int)
                                · rw [if_pos c39] at H
                                  have c39b0 : decide (x52_4 < (((rd_T44 l0_0 x21_2).f0).length : Int)) = true := decide_eq_true c39
                                  clear c39
                                  replace H := Option.bind_eq_some_iff.mp H
                                  obtain ⟨t189, A400, H⟩ := H
                                  replace H : (if t189 = true then (if ((rd_T44 l0_0 x21_2).f2) = true then (if (rd ((rd_T44 l0_0 x21_2).f0) x52_4) = (-1) then (if a0_2 = true then (if ((rd_T44 l0_0 x21_2).f1) = 2 then (if (rd ((rd_T44 l0_0 x21_2).f0) x52_4) ≥ 0 then (if 0 ≤ (rd ((rd_T44 l0_0 x21_2).f0) x52_4) then (if (rd ((rd_T44 l0_0 x21_2).f0) x52_4) < (l0_0.length : Int) then (if ((rd_T44 l0_0 (rd ((rd_T44 l0_0 x21_2).f0) x52_4)).f1) = 0 then (some false) else (impl_isMarker.l1 k4 l0_0 (l0_0.length : Int) x21_2 ((rd_T44 l0_0 x21_2).f0) (((rd_T44 l0_0 x21_2).f0).length : Int) (wrap64 (x52_4 + 1)) l0_0 l0_1 a0_2 ((rd_T44 l0_0 x21_2).f0) ((rd_T44 l0_0 x21_2).f1) ((rd_T44 l0_0 x21_2).f2))) else (none)) else (none)) else (impl_isMarker.l1 k4 l0_0 (l0_0.length : Int) x21_2 ((rd_T44 l0_0 x21_2).f0) (((rd_T44 l0_0 x21_2).f0).length : Int) (wrap64 (x52_4 + 1)) l0_0 l0_1 a0_2 ((rd_T44 l0_0 x21_2).f0) ((rd_T44 l0_0 x21_2).f1) ((rd_T44 l0_0 x21_2).f2))) else (impl_isMarker.l1 k4 l0_0 (l0_0.length : Int) x21_2 ((rd_T44 l0_0 x21_2).f0) (((rd_T44 l0_0 x21_2).f0).length : Int) (wrap64 (x52_4 + 1)) l0_0 l0_1 a0_2 ((rd_T44 l0_0 x21_2).f0) ((rd_T44 l0_0 x21_2).f1) ((rd_T44 l0_0 x21_2).f2))) else (impl_isMarker.l1 k4 l0_0 (l0_0.length : Int) x21_2 ((rd_T44 l0_0 x21_2).f0) (((rd_T44 l0_0 x21_2).f0).length : Int) (wrap64 (x52_4 + 1)) l0_0 l0_1 a0_2 ((rd_T44 l0_0 x21_2).f0) ((rd_T44 l0_0 x21_2).f1) ((rd_T44 l0_0 x21_2).f2))) else (some false)) else (if a0_2 = true then (if ((rd_T44 l0_0 x21_2).f1) = 2 then (if (rd ((rd_T44 l0_0 x21_2).f0) x52_4) ≥ 0 then (if 0 ≤ (rd ((rd_T44 l0_0 x21_2).f0) x52_4) then (if (rd ((rd_T44 l0_0 x21_2).f0) x52_4) < (l0_0.length : Int) then (if ((rd_T44 l0_0 (rd ((rd_T44 l0_0 x21_2).f0) x52_4)).f1) = 0 then (some false) else (impl_isMarker.l1 k4 l0_0 (l0_0.length : Int) x21_2 ((rd_T44 l0_0 x21_2).f0) (((rd_T44 l0_0 x21_2).f0).length : Int) (wrap64 (x52_4 + 1)) l0_0 l0_1 a0_2 ((rd_T44 l0_0 x21_2).f0) ((rd_T44 l0_0 x21_2).f1) ((rd_T44 l0_0 x21_2).f2))) else (none)) else (none)) else (impl_isMarker.l1 k4 l0_0 (l0_0.length : Int) x21_2 ((rd_T44 l0_0 x21_2).f0) (((rd_T44 l0_0 x21_2).f0).length : Int) (wrap64 (x52_4 + 1)) l0_0 l0_1 a0_2 ((rd_T44 l0_0 x21_2).f0) ((rd_T44 l0_0 x21_2).f1) ((rd_T44 l0_0 x21_2).f2))) else (impl_isMarker.l1 k4 l0_0 (l0_0.length : Int) x21_2 ((rd_T44 l0_0 x21_2).f0) (((rd_T44 l0_0 x21_2).f0).length : Int) (wrap64 (x52_4 + 1)) l0_0 l0_1 a0_2 ((rd_T44 l0_0 x21_2).f0) ((rd_T44 l0_0 x21_2).f1) ((rd_T44 l0_0 x21_2).f2))) else (impl_isMarker.l1 k4 l0_0 (l0_0.length : Int) x21_2 ((rd_T44 l0_0 x21_2).f0) (((rd_T44 l0_0 x21_2).f0).length : Int) (wrap64 (x52_4 + 1)) l0_0 l0_1 a0_2 ((rd_T44 l0_0 x21_2).f0) ((rd_T44 l0_0 x21_2).f1) ((rd_T44 l0_0 x21_2).f2)))) else (some false)) = some r := H
                                  have A40 := Aside0.mk A400
                                  clear A400
                                  by_cases c41 : t189 = true
                                  · subst c41
                                    have H1 : (if ((rd_T44 l0_0 x21_2).f2) = true then (if (rd ((rd_T44 l0_0 x21_2).f0) x52_4) = (-1) then (if a0_2 = true then (if ((rd_T44 l0_0 x21_2).f1) = 2 then (if (rd ((rd_T44 l0_0 x21_2).f0) x52_4) ≥ 0 then (if 0 ≤ (rd ((rd_T44 l0_0 x21_2).f0) x52_4) then (if (rd ((rd_T44 l0_0 x21_2).f0) x52_4) < (l0_0.length : Int) then (if ((rd_T44 l0_0 (rd ((rd_T44 l0_0 x21_2).f0) x52_4)).f1) = 0 then (some false) else (impl_isMarker.l1 k4 l0_0 (l0_0.length : Int) x21_2 ((rd_T44 l0_0 x21_2).f0) (((rd_T44 l0_0 x21_2).f0).length : Int) (wrap64 (x52_4 + 1)) l0_0 l0_1 a0_2 ((rd_T44 l0_0 x21_2).f0) ((rd_T44 l0_0 x21_2).f1) ((rd_T44 l0_0 x21_2).f2))) else (none)) else (none)) else (impl_isMarker.l1 k4 l0_0 (l0_0.length : Int) x21_2 ((rd_T44 l0_0 x21_2).f0) (((rd_T44 l0_0 x21_2).f0).length : Int) (wrap64 (x52_4 + 1)) l0_0 l0_1 a0_2 ((rd_T44 l0_0 x21_2).f0) ((rd_T44 l0_0 x21_2).f1) ((rd_T44 l0_0 x21_2).f2))) else (impl_isMarker.l1 k4 l0_0 (l0_0.length : Int) x21_2 ((rd_T44 l0_0 x21_2).f0) (((rd_T44 l0_0 x21_2).f0).length : Int) (wrap64 (x52_4 + 1)) l0_0 l0_1 a0_2 ((rd_T44 l0_0 x21_2).f0) ((rd_T44 l0_0 x21_2).f1) ((rd_T44 l0_0 x21_2).f2))) else (impl_isMarker.l1 k4 l0_0 (l0_0.length : Int) x21_2 ((rd_T44 l0_0 x21_2).f0) (((rd_T44 l0_0 x21_2).f0).length : Int) (wrap64 (x52_4 + 1)) l0_0 l0_1 a0_2 ((rd_T44 l0_0 x21_2).f0) ((rd_T44 l0_0 x21_2).f1) ((rd_T44 l0_0 x21_2).f2))) else (some false)) else (if a0_2 = true then (if ((rd_T44 l0_0 x21_2).f1) = 2 then (if (rd ((rd_T44 l0_0 x21_2).f0) x52_4) ≥ 0 then (if 0 ≤ (rd ((rd_T44 l0_0 x21_2).f0) x52_4) then (if (rd ((rd_T44 l0_0 x21_2).f0) x52_4) < (l0_0.length : Int) then (if ((rd_T44 l0_0 (rd ((rd_T44 l0_0 x21_2).f0) x52_4)).f1) = 0 then (some false) else (impl_isMarker.l1 k4 l0_0 (l0_0.length : Int) x21_2 ((rd_T44 l0_0 x21_2).f0) (((rd_T44 l0_0 x21_2).f0).length : Int) (wrap64 (x52_4 + 1)) l0_0 l0_1 a0_2 ((rd_T44 l0_0 x21_2).f0) ((rd_T44 l0_0 x21_2).f1) ((rd_T44 l0_0 x21_2).f2))) else (none)) else (none)) else (impl_isMarker.l1 k4 l0_0 (l0_0.length : Int) x21_2 ((rd_T44 l0_0 x21_2).f0) (((rd_T44 l0_0 x21_2).f0).length : Int) (wrap64 (x52_4 + 1)) l0_0 l0_1 a0_2 ((rd_T44 l0_0 x21_2).f0) ((rd_T44 l0_0 x21_2).f1) ((rd_T44 l0_0 x21_2).f2))) else (impl_isMarker.l1 k4 l0_0 (l0_0.length : Int) x21_2 ((rd_T44 l0_0 x21_2).f0) (((rd_T44 l0_0 x21_2).f0).length : Int) (wrap64 (x52_4 + 1)) l0_0 l0_1 a0_2 ((rd_T44 l0_0 x21_2).f0) ((rd_T44 l0_0 x21_2).f1) ((rd_T44 l0_0 x21_2).f2))) else (impl_isMarker.l1 k4 l0_0 (l0_0.length : Int) x21_2 ((rd_T44 l0_0 x21_2).f0) (((rd_T44 l0_0 x21_2).f0).length : Int) (wrap64 (x52_4 + 1)) l0_0 l0_1 a0_2 ((rd_T44 l0_0 x21_2).f0) ((rd_T44 l0_0 x21_2).f1) ((rd_T44 l0_0 x21_2).f2)))) = some r := by rw [if_pos rfl] at H; exact H
                                    clear H
                                    have H := H1
                                    clear H1
                                    by_cases c42 : ((rd_T44 l0_0 x21_2).f2) = true
                                    · rw [if_pos c42] at H
                                      have c42b0 : ((rd_T44 l0_0 x21_2).f2) = true := c42
                                      clear c42
                                      by_cases c43 : (rd ((rd_T44 l0_0 x21_2).f0) x52_4) = (-1)
                                      · rw [if_pos c43] at H
                                        have c43b0 : ((rd ((rd_T44 l0_0 x21_2).f0) x52_4) == (-1)) = true := beq_iff_eq.mpr c43
                                        have c43b1 : ((rd ((rd_T44 l0_0 x21_2).f0) x52_4) != (-1)) = false := bne_eq_false_iff_eq.mpr c43
                                        clear c43
                                        by_cases c44 : a0_2 = true
                                        · subst c44
                                          have H1 : (if ((rd_T44 l0_0 x21_2).f1) = 2 then (if (rd ((rd_T44 l0_0 x21_2).f0) x52_4) ≥ 0 then (if 0 ≤ (rd ((rd_T44 l0_0 x21_2).f0) x52_4) then (if (rd ((rd_T44 l0_0 x21_2).f0) x52_4) < (l0_0.length : Int) then (if ((rd_T44 l0_0 (rd ((rd_T44 l0_0 x21_2).f0) x52_4)).f1) = 0 then (some false) else (impl_isMarker.l1 k4 l0_0 (l0_0.length : Int) x21_2 ((rd_T44 l0_0 x21_2).f0) (((rd_T44 l0_0 x21_2).f0).length : Int) (wrap64 (x52_4 + 1)) l0_0 l0_1 true ((rd_T44 l0_0 x21_2).f0) ((rd_T44 l0_0 x21_2).f1) ((rd_T44 l0_0 x21_2).f2))) else (none)) else (none)) else (impl_isMarker.l1 k4 l0_0 (l0_0.length : Int) x21_2 ((rd_T44 l0_0 x21_2).f0) (((rd_T44 l0_0 x21_2).f0).length : Int) (wrap64 (x52_4 + 1)) l0_0 l0_1 true ((rd_T44 l0_0 x21_2).f0) ((rd_T44 l0_0 x21_2).f1) ((rd_T44 l0_0 x21_2).f2))) else (impl_isMarker.l1 k4 l0_0 (l0_0.length : Int) x21_2 ((rd_T44 l0_0 x21_2).f0) (((rd_T44 l0_0 x21_2).f0).length : Int) (wrap64 (x52_4 + 1)) l0_0 l0_1 true ((rd_T44 l0_0 x21_2).f0) ((rd_T44 l0_0 x21_2).f1) ((rd_T44 l0_0 x21_2).f2))) = some r := by rw [if_pos rfl] at H; exact H
                                          clear H
                                          have H := H1
                                          clear H1
                                          by_cases c45 : ((rd_T44 l0_0 x21_2).f1) = 2
                                          · rw [if_pos c45] at H
                                            have c45b0 : (((rd_T44 l0_0 x21_2).f1) == 2) = true := beq_iff_eq.mpr c45
                                            have c45b1 : (((rd_T44 l0_0 x21_2).f1) != 2) = false := bne_eq_false_iff_eq.mpr c45
                                            clear c45
                                            by_cases c46 : (rd ((rd_T44 l0_0 x21_2).f0) x52_4) ≥ 0
                                            · rw [if_pos c46] at H
                                              have c46b0 : decide (0 ≤ (rd ((rd_T44 l0_0 x21_2).f0) x52_4)) = true := decide_eq_true c46
                                              clear c46
                                              by_cases c47 : 0 ≤ (rd ((rd_T44 l0_0 x21_2).f0) x52_4)
                                              · rw [if_pos c47] at H
                                                have c47b0 : decide (0 ≤ (rd ((rd_T44 l0_0 x21_2).f0) x52_4)) = true := decide_eq_true c47
                                                clear c47
                                                by_cases c48 : (rd ((rd_T44 l0_0 x21_2).f0) x52_4) < (l0_0.length : Int)
                                                · rw [if_pos c48] at H
                                                  have c48b0 : decide ((rd ((rd_T44 l0_0 x21_2).f0) x52_4) < (l0_0.length : Int)) = true := decide_eq_true c48
                                                  clear c48
                                                  by_cases c49 : ((rd_T44 l0_0 (rd ((rd_T44 l0_0 x21_2).f0) x52_4)).f1) = 0
                                                  · rw [if_pos c49] at H
                                                    have c49b0 : (((rd_T44 l0_0 (rd ((rd_T44 l0_0 x21_2).f0) x52_4)).f1) == 0) = true := beq_iff_eq.mpr c49
                                                    have c49b1 : (((rd_T44 l0_0 (rd ((rd_T44 l0_0 x21_2).f0) x52_4)).f1) != 0) = false := bne_eq_false_iff_eq.mpr c49
                                                    clear c49
                                                    obtain rfl := Option.some.inj H
                                                    have p188 : 0 ≤ (x52_4 : Int) := of_decide_eq_true (by first | (with_reducible assumption) | assumption)
                                                    have q188 : x52_4 < (((rd_T44 l0_0 x21_2).f0).length : Int) := of_decide_eq_true (by first | (with_reducible assumption) | assumption)
                                                    obtain ⟨ad188, e188, hx188_0⟩ := Kd.at_int HR185_0.out x52_4 p188 q188
                                                    cases e188
                                                    replace hx188_0 := (HB.out.cell (World.block_lt_of_cell? w _ hx188_0)).trans hx188_0
                                                    replace p188 := eq_true p188
                                                    replace q188 := eq_true q188
                                                    go_wp2_with (first | ((with_reducible refine gate_callee (f := 43) rfl ?_); refine goesL_ (some 57) rfl rfl Try.func43 (by kernel_rfl) rfl #[.pointer (some ⟨gb182, 0, none⟩), .int .i64 (rd ((rd_T44 l0_0 x21_2).f0) x52_4)] rfl (by (try simp only [List.map_toArray, List.map_cons, List.map_nil]); first | done | rfl | (simp only [List.length_drop, List.length_take]; rfl)) ?_; (with_reducible refine (impl_Marker_isTaken.calls gb182 (some ad185) c0_0 l0_0 A0_1 c0_1 l0_1 true (rd ((rd_T44 l0_0 x21_2).f0) x52_4) true _ ?side1 ?side2 ?side3 ?side4 ?side5 A40.out).mono ?_); (case side1 => exact (by (with_reducible repeat (first | refine blk_drewN ?_ _ | refine blk_drew ?_ | refine blk_alloc ?_ _)); exact BK182.out)); (case side2 => repeat (first | exact (Kd.C_below HR0_0.out HB.out) | (with_reducible refine Kd.C_alloc ?_ _) | (with_reducible refine Kd.C_drewN ?_ _) | (with_reducible refine Kd.C_drew ?_))); (case side3 => exact HC0_0.out); (case side4 => repeat (first | exact (Kd.C_below HR0_1.out HB.out) | (with_reducible refine Kd.C_alloc ?_ _) | (with_reducible refine Kd.C_drewN ?_ _) | (with_reducible refine Kd.C_drew ?_))); (case side5 => exact HC0_1.out); rintro e w' ⟨rfl, ⟨nd, rfl⟩⟩; refine ⟨_, rfl, ?_⟩; have hnb50 := NB186_182.out; have hnc50 := NB182_186.out; have hcz51_0 : wr.cell? ⟨gb186, 0, none⟩ = some (.slice (some ad188) ((rd_T44 l0_0 x21_2).f0).length c185_0) := (blk_cell BK186.out 0).trans rfl; have hcz51_1 : wr.cell? ⟨gb186, 1, none⟩ = some (.int .i64 ((rd_T44 l0_0 x21_2).f1)) := (blk_cell BK186.out 1).trans rfl; have hcz51_2 : wr.cell? ⟨gb186, 2, none⟩ = some (.bool ((rd_T44 l0_0 x21_2).f2)) := (blk_cell BK186.out 2).trans rfl; have hfz51_0 := blk_frozen BK186.out 0; have hfz51_1 := blk_frozen BK186.out 1; have hfz51_2 := blk_frozen BK186.out 2; have hcz52_0 : wr.cell? ⟨gb182, 0, none⟩ = some (.slice (some ad185) l0_0.length c0_0) := (blk_cell BK182.out 0).trans rfl; have hcz52_1 : wr.cell? ⟨gb182, 1, none⟩ = some (.slice A0_1 l0_1.length c0_1) := (blk_cell BK182.out 1).trans rfl; have hcz52_2 : wr.cell? ⟨gb182, 2, none⟩ = some (.bool true) := (blk_cell BK182.out 2).trans rfl; have hfz52_0 := blk_frozen BK182.out 0; have hfz52_1 := blk_frozen BK182.out 1; have hfz52_2 := blk_frozen BK182.out 2; have p190 : 0 ≤ ((rd ((rd_T44 l0_0 x21_2).f0) x52_4) : Int) := of_decide_eq_true (by first | (with_reducible assumption) | assumption); have q190 : (rd ((rd_T44 l0_0 x21_2).f0) x52_4) < (l0_0.length : Int) := of_decide_eq_true (by first | (with_reducible assumption) | assumption); obtain ⟨ad190, A190_0, c190_0, e190, hx190_0, hx190_1, hx190_2, hl190_0, hi190_0⟩ := at_T44 HR0_0.out (rd ((rd_T44 l0_0 x21_2).f0) x52_4) p190 q190; obtain rfl : ad185 = ad190 := (by injection e190); replace hx190_0 := (HB.out.cell (World.block_lt_of_cell? w _ hx190_0)).trans hx190_0; replace hx190_1 := (HB.out.cell (World.block_lt_of_cell? w _ hx190_1)).trans hx190_1; replace hx190_2 := (HB.out.cell (World.block_lt_of_cell? w _ hx190_2)).trans hx190_2; have HR190_0 := Aside0.mk hi190_0; have HC190_0 := Aside0.mk hl190_0; clear hi190_0 hl190_0; replace p190 := eq_true p190; replace q190 := eq_true q190))
                                                    go_ret
                                                    exact ⟨by first | rfl | (simp [errW_none, errW_some] <;> rfl) | (simp [*, errW_none, errW_some] <;> rfl), by repeat (first | (with_reducible first | exact HB.out | apply below_alloc | apply pw_below_drewN | apply below_drew1 | refine below_set ?_ GE182.out | refine below_set ?_ GE186.out) | exact HB.out)⟩
                                                  · rw [if_neg c49] at H
                                                    have c49b0 : (((rd_T44 l0_0 (rd ((rd_T44 l0_0 x21_2).f0) x52_4)).f1) == 0) = false := beq_eq_false_iff_ne.mpr c49
                                                    have c49b1 : (((rd_T44 l0_0 (rd ((rd_T44 l0_0 x21_2).f0) x52_4)).f1) != 0) = true := bne_iff_ne.mpr c49
                                                    have H' := Aside0.mk H
                                                    clear H
                                                    have p188 : 0 ≤ (x52_4 : Int) := of_decide_eq_true (by first | (with_reducible assumption) | assumption)
                                                    have q188 : x52_4 < (((rd_T44 l0_0 x21_2).f0).length : Int) := of_decide_eq_true (by first | (with_reducible assumption) | assumption)
                                                    obtain ⟨ad188, e188, hx188_0⟩ := Kd.at_int HR185_0.out x52_4 p188 q188
                                                    cases e188
                                                    replace hx188_0 := (HB.out.cell (World.block_lt_of_cell? w _ hx188_0)).trans hx188_0
                                                    replace p188 := eq_true p188
                                                    replace q188 := eq_true q188
                                                    go_wp2_with (first | ((with_reducible refine gate_callee (f := 43) rfl ?_); refine goesL_ (some 57) rfl rfl Try.func43 (by kernel_rfl) rfl #[.pointer (some ⟨gb182, 0, none⟩), .int .i64 (rd ((rd_T44 l0_0 x21_2).f0) x52_4)] rfl (by (try simp only [List.map_toArray, List.map_cons, List.map_nil]); first | done | rfl | (simp only [List.length_drop, List.length_take]; rfl)) ?_; (with_reducible refine (impl_Marker_isTaken.calls gb182 (some ad185) c0_0 l0_0 A0_1 c0_1 l0_1 true (rd ((rd_T44 l0_0 x21_2).f0) x52_4) true _ ?side1 ?side2 ?side3 ?side4 ?side5 A40.out).mono ?_); (case side1 => exact (by (with_reducible repeat (first | refine blk_drewN ?_ _ | refine blk_drew ?_ | refine blk_alloc ?_ _)); exact BK182.out)); (case side2 => repeat (first | exact (Kd.C_below HR0_0.out HB.out) | (with_reducible refine Kd.C_alloc ?_ _) | (with_reducible refine Kd.C_drewN ?_ _) | (with_reducible refine Kd.C_drew ?_))); (case side3 => exact HC0_0.out); (case side4 => repeat (first | exact (Kd.C_below HR0_1.out HB.out) | (with_reducible refine Kd.C_alloc ?_ _) | (with_reducible refine Kd.C_drewN ?_ _) | (with_reducible refine Kd.C_drew ?_))); (case side5 => exact HC0_1.out); rintro e w' ⟨rfl, ⟨nd, rfl⟩⟩; refine ⟨_, rfl, ?_⟩; have hnb53 := NB186_182.out; have hnc53 := NB182_186.out; have hcz54_0 : wr.cell? ⟨gb186, 0, none⟩ = some (.slice (some ad188) ((rd_T44 l0_0 x21_2).f0).length c185_0) := (blk_cell BK186.out 0).trans rfl; have hcz54_1 : wr.cell? ⟨gb186, 1, none⟩ = some (.int .i64 ((rd_T44 l0_0 x21_2).f1)) := (blk_cell BK186.out 1).trans rfl; have hcz54_2 : wr.cell? ⟨gb186, 2, none⟩ = some (.bool ((rd_T44 l0_0 x21_2).f2)) := (blk_cell BK186.out 2).trans rfl; have hfz54_0 := blk_frozen BK186.out 0; have hfz54_1 := blk_frozen BK186.out 1; have hfz54_2 := blk_frozen BK186.out 2; have hcz55_0 : wr.cell? ⟨gb182, 0, none⟩ = some (.slice (some ad185) l0_0.length c0_0) := (blk_cell BK182.out 0).trans rfl; have hcz55_1 : wr.cell? ⟨gb182, 1, none⟩ = some (.slice A0_1 l0_1.length c0_1) := (blk_cell BK182.out 1).trans rfl; have hcz55_2 : wr.cell? ⟨gb182, 2, none⟩ = some (.bool true) := (blk_cell BK182.out 2).trans rfl; have hfz55_0 := blk_frozen BK182.out 0; have hfz55_1 := blk_frozen BK182.out 1; have hfz55_2 := blk_frozen BK182.out 2; have p190 : 0 ≤ ((rd ((rd_T44 l0_0 x21_2).f0) x52_4) : Int) := of_decide_eq_true (by first | (with_reducible assumption) | assumption); have q190 : (rd ((rd_T44 l0_0 x21_2).f0) x52_4) < (l0_0.length : Int) := of_decide_eq_true (by first | (with_reducible assumption) | assumption); obtain ⟨ad190, A190_0, c190_0, e190, hx190_0, hx190_1, hx190_2, hl190_0, hi190_0⟩ := at_T44 HR0_0.out (rd ((rd_T44 l0_0 x21_2).f0) x52_4) p190 q190; obtain rfl : ad185 = ad190 := (by injection e190); replace hx190_0 := (HB.out.cell (World.block_lt_of_cell? w _ hx190_0)).trans hx190_0; replace hx190_1 := (HB.out.cell (World.block_lt_of_cell? w _ hx190_1)).trans hx190_1; replace hx190_2 := (HB.out.cell (World.block_lt_of_cell? w _ hx190_2)).trans hx190_2; have HR190_0 := Aside0.mk hi190_0; have HC190_0 := Aside0.mk hl190_0; clear hi190_0 hl190_0; replace p190 := eq_true p190; replace q190 := eq_true q190))
                                                    go_roundg k4
                                                    case measure => have := HJ1.out; have := HK2.out; have := HJ12.out; have := HK4.out; omega
                                                    case rel => exact ⟨(wrap64 (x52_4 + 1)), (by first | rfl | (simp; done) | (simp [*]; done)), H', ⟨by have := HJ1.out; have := HK2.out; have := HJ12.out; have := HK4.out; omega⟩, ⟨by (with_reducible repeat (first | refine blk_drewN ?_ _ | refine blk_drew ?_ | refine blk_alloc ?_ _)); exact BK182.out⟩, ⟨by (with_reducible repeat (first | refine blk_drewN ?_ _ | refine blk_drew ?_ | refine blk_alloc ?_ _)); exact BK186.out⟩, ⟨by repeat (first | (with_reducible first | exact HB.out | apply below_alloc | apply pw_below_drewN | apply below_drew1 | refine below_set ?_ GE182.out | refine below_set ?_ GE186.out) | exact HB.out)⟩⟩
                                                · rw [if_neg c48] at H
                                                  exact absurd H (by simp)
                                              · rw [if_neg c47] at H
                                                exact absurd H (by simp)
                                            · rw [if_neg c46] at H
                                              have c46b0 : decide (0 ≤ (rd ((rd_T44 l0_0 x21_2).f0) x52_4)) = false := decide_eq_false c46
                                              clear c46
                                              have H' := Aside0.mk H
                                              clear H
                                              have p188 : 0 ≤ (x52_4 : Int) := of_decide_eq_true (by first | (with_reducible assumption) | assumption)
                                              have q188 : x52_4 < (((rd_T44 l0_0 x21_2).f0).length : Int) := of_decide_eq_true (by first | (with_reducible assumption) | assumption)
                                              obtain ⟨ad188, e188, hx188_0⟩ := Kd.at_int HR185_0.out x52_4 p188 q188
                                              cases e188
                                              replace hx188_0 := (HB.out.cell (World.block_lt_of_cell? w _ hx188_0)).trans hx188_0
                                              replace p188 := eq_true p188
                                              replace q188 := eq_true q188
                                              go_wp2_with (first | ((with_reducible refine gate_callee (f := 43) rfl ?_); refine goesL_ (some 57) rfl rfl Try.func43 (by kernel_rfl) rfl #[.pointer (some ⟨gb182, 0, none⟩), .int .i64 (rd ((rd_T44 l0_0 x21_2).f0) x52_4)] rfl (by (try simp only [List.map_toArray, List.map_cons, List.map_nil]); first | done | rfl | (simp only [List.length_drop, List.length_take]; rfl)) ?_; (with_reducible refine (impl_Marker_isTaken.calls gb182 (some ad185) c0_0 l0_0 A0_1 c0_1 l0_1 true (rd ((rd_T44 l0_0 x21_2).f0) x52_4) true _ ?side1 ?side2 ?side3 ?side4 ?side5 A40.out).mono ?_); (case side1 => exact (by (with_reducible repeat (first | refine blk_drewN ?_ _ | refine blk_drew ?_ | refine blk_alloc ?_ _)); exact BK182.out)); (case side2 => repeat (first | exact (Kd.C_below HR0_0.out HB.out) | (with_reducible refine Kd.C_alloc ?_ _) | (with_reducible refine Kd.C_drewN ?_ _) | (with_reducible refine Kd.C_drew ?_))); (case side3 => exact HC0_0.out); (case side4 => repeat (first | exact (Kd.C_below HR0_1.out HB.out) | (with_reducible refine Kd.C_alloc ?_ _) | (with_reducible refine Kd.C_drewN ?_ _) | (with_reducible refine Kd.C_drew ?_))); (case side5 => exact HC0_1.out); rintro e w' ⟨rfl, ⟨nd, rfl⟩⟩; refine ⟨_, rfl, ?_⟩; have hnb56 := NB186_182.out; have hnc56 := NB182_186.out; have hcz57_0 : wr.cell? ⟨gb186, 0, none⟩ = some (.slice (some ad188) ((rd_T44 l0_0 x21_2).f0).length c185_0) := (blk_cell BK186.out 0).trans rfl; have hcz57_1 : wr.cell? ⟨gb186, 1, none⟩ = some (.int .i64 ((rd_T44 l0_0 x21_2).f1)) := (blk_cell BK186.out 1).trans rfl; have hcz57_2 : wr.cell? ⟨gb186, 2, none⟩ = some (.bool ((rd_T44 l0_0 x21_2).f2)) := (blk_cell BK186.out 2).trans rfl; have hfz57_0 := blk_frozen BK186.out 0; have hfz57_1 := blk_frozen BK186.out 1; have hfz57_2 := blk_frozen BK186.out 2; have hcz58_0 : wr.cell? ⟨gb182, 0, none⟩ = some (.slice (some ad185) l0_0.length c0_0) := (blk_cell BK182.out 0).trans rfl; have hcz58_1 : wr.cell? ⟨gb182, 1, none⟩ = some (.slice A0_1 l0_1.length c0_1) := (blk_cell BK182.out 1).trans rfl; have hcz58_2 : wr.cell? ⟨gb182, 2, none⟩ = some (.bool true) := (blk_cell BK182.out 2).trans rfl; have hfz58_0 := blk_frozen BK182.out 0; have hfz58_1 := blk_frozen BK182.out 1; have hfz58_2 := blk_frozen BK182.out 2))
                                              go_roundg k4
                                              case measure => have := HJ1.out; have := HK2.out; have := HJ12.out; have := HK4.out; omega
                                              case rel => exact ⟨(wrap64 (x52_4 + 1)), (by first | rfl | (simp; done) | (simp [*]; done)), H', ⟨by have := HJ1.out; have := HK2.out; have := HJ12.out; have := HK4.out; omega⟩, ⟨by (with_reducible repeat (first | refine blk_drewN ?_ _ | refine blk_drew ?_ | refine blk_alloc ?_ _)); exact BK182.out⟩, ⟨by (with_reducible repeat (first | refine blk_drewN ?_ _ | refine blk_drew ?_ | refine blk_alloc ?_ _)); exact BK186.out⟩, ⟨by repeat (first | (with_reducible first | exact HB.out | apply below_alloc | apply pw_below_drewN | apply below_drew1 | refine below_set ?_ GE182.out | refine below_set ?_ GE186.out) | exact HB.out)⟩⟩
                                          · rw [if_neg c45] at H
                                            have c45b0 : (((rd_T44 l0_0 x21_2).f1) == 2) = false := beq_eq_false_iff_ne.mpr c45
                                            have c45b1 : (((rd_T44 l0_0 x21_2).f1) != 2) = true := bne_iff_ne.mpr c45
                                            have H' := Aside0.mk H
                                            clear H
                                            have p188 : 0 ≤ (x52_4 : Int) := of_decide_eq_true (by first | (with_reducible assumption) | assumption)
                                            have q188 : x52_4 < (((rd_T44 l0_0 x21_2).f0).length : Int) := of_decide_eq_true (by first | (with_reducible assumption) | assumption)
                                            obtain ⟨ad188, e188, hx188_0⟩ := Kd.at_int HR185_0.out x52_4 p188 q188
                                            cases e188
                                            replace hx188_0 := (HB.out.cell (World.block_lt_of_cell? w _ hx188_0)).trans hx188_0
                                            replace p188 := eq_true p188
                                            replace q188 := eq_true q188
                                            go_wp2_with (first | ((with_reducible refine gate_callee (f := 43) rfl ?_); refine goesL_ (some 57) rfl rfl Try.func43 (by kernel_rfl) rfl #[.pointer (some ⟨gb182, 0, none⟩), .int .i64 (rd ((rd_T44 l0_0 x21_2).f0) x52_4)] rfl (by (try simp only [List.map_toArray, List.map_cons, List.map_nil]); first | done | rfl | (simp only [List.length_drop, List.length_take]; rfl)) ?_; (with_reducible refine (impl_Marker_isTaken.calls gb182 (some ad185) c0_0 l0_0 A0_1 c0_1 l0_1 true (rd ((rd_T44 l0_0 x21_2).f0) x52_4) true _ ?side1 ?side2 ?side3 ?side4 ?side5 A40.out).mono ?_); (case side1 => exact (by (with_reducible repeat (first | refine blk_drewN ?_ _ | refine blk_drew ?_ | refine blk_alloc ?_ _)); exact BK182.out)); (case side2 => repeat (first | exact (Kd.C_below HR0_0.out HB.out) | (with_reducible refine Kd.C_alloc ?_ _) | (with_reducible refine Kd.C_drewN ?_ _) | (with_reducible refine Kd.C_drew ?_))); (case side3 => exact HC0_0.out); (case side4 => repeat (first | exact (Kd.C_below HR0_1.out HB.out) | (with_reducible refine Kd.C_alloc ?_ _) | (with_reducible refine Kd.C_drewN ?_ _) | (with_reducible refine Kd.C_drew ?_))); (case side5 => exact HC0_1.out); rintro e w' ⟨rfl, ⟨nd, rfl⟩⟩; refine ⟨_, rfl, ?_⟩; have hnb59 := NB186_182.out; have hnc59 := NB182_186.out; have hcz60_0 : wr.cell? ⟨gb186, 0, none⟩ = some (.slice (some ad188) ((rd_T44 l0_0 x21_2).f0).length c185_0) := (blk_cell BK186.out 0).trans rfl; have hcz60_1 : wr.cell? ⟨gb186, 1, none⟩ = some (.int .i64 ((rd_T44 l0_0 x21_2).f1)) := (blk_cell BK186.out 1).trans rfl; have hcz60_2 : wr.cell? ⟨gb186, 2, none⟩ = some (.bool ((rd_T44 l0_0 x21_2).f2)) := (blk_cell BK186.out 2).trans rfl; have hfz60_0 := blk_frozen BK186.out 0; have hfz60_1 := blk_frozen BK186.out 1; have hfz60_2 := blk_frozen BK186.out 2; have hcz61_0 : wr.cell? ⟨gb182, 0, none⟩ = some (.slice (some ad185) l0_0.length c0_0) := (blk_cell BK182.out 0).trans rfl; have hcz61_1 : wr.cell? ⟨gb182, 1, none⟩ = some (.slice A0_1 l0_1.length c0_1) := (blk_cell BK182.out 1).trans rfl; have hcz61_2 : wr.cell? ⟨gb182, 2, none⟩ = some (.bool true) := (blk_cell BK182.out 2).trans rfl; have hfz61_0 := blk_frozen BK182.out 0; have hfz61_1 := blk_frozen BK182.out 1; have hfz61_2 := blk_frozen BK182.out 2))
                                            go_roundg k4
                                            case measure => have := HJ1.out; have := HK2.out; have := HJ12.out; have := HK4.out; omega
                                            case rel => exact ⟨(wrap64 (x52_4 + 1)), (by first | rfl | (simp; done) | (simp [*]; done)), H', ⟨by have := HJ1.out; have := HK2.out; have := HJ12.out; have := HK4.out; omega⟩, ⟨by (with_reducible repeat (first | refine blk_drewN ?_ _ | refine blk_drew ?_ | refine blk_alloc ?_ _)); exact BK182.out⟩, ⟨by (with_reducible repeat (first | refine blk_drewN ?_ _ | refine blk_drew ?_ | refine blk_alloc ?_ _)); exact BK186.out⟩, ⟨by repeat (first | (with_reducible first | exact HB.out | apply below_alloc | apply pw_below_drewN | apply below_drew1 | refine below_set ?_ GE182.out | refine below_set ?_ GE186.out) | exact HB.out)⟩⟩
                                        · replace c44 := Bool.eq_false_iff.mpr c44
                                          subst c44
                                          have H1 : (impl_isMarker.l1 k4 l0_0 (l0_0.length : Int) x21_2 ((rd_T44 l0_0 x21_2).f0) (((rd_T44 l0_0 x21_2).f0).length : Int) (wrap64 (x52_4 + 1)) l0_0 l0_1 false ((rd_T44 l0_0 x21_2).f0) ((rd_T44 l0_0 x21_2).f1) ((rd_T44 l0_0 x21_2).f2)) = some r := by rw [if_neg (show ¬ (false = true) by decide)] at H; exact H
                                          clear H
                                          have H := H1
                                          clear H1
                                          have H' := Aside0.mk H
                                          clear H
                                          have p188 : 0 ≤ (x52_4 : Int) := of_decide_eq_true (by first | (with_reducible assumption) | assumption)
                                          have q188 : x52_4 < (((rd_T44 l0_0 x21_2).f0).length : Int) := of_decide_eq_true (by first | (with_reducible assumption) | assumption)
                                          obtain ⟨ad188, e188, hx188_0⟩ := Kd.at_int HR185_0.out x52_4 p188 q188
                                          cases e188
                                          replace hx188_0 := (HB.out.cell (World.block_lt_of_cell? w _ hx188_0)).trans hx188_0
                                          replace p188 := eq_true p188
                                          replace q188 := eq_true q188
                                          go_wp2_with (first | ((with_reducible refine gate_callee (f := 43) rfl ?_); refine goesL_ (some 57) rfl rfl Try.func43 (by kernel_rfl) rfl #[.pointer (some ⟨gb182, 0, none⟩), .int .i64 (rd ((rd_T44 l0_0 x21_2).f0) x52_4)] rfl (by (try simp only [List.map_toArray, List.map_cons, List.map_nil]); first | done | rfl | (simp only [List.length_drop, List.length_take]; rfl)) ?_; (with_reducible refine (impl_Marker_isTaken.calls gb182 (some ad185) c0_0 l0_0 A0_1 c0_1 l0_1 false (rd ((rd_T44 l0_0 x21_2).f0) x52_4) true _ ?side1 ?side2 ?side3 ?side4 ?side5 A40.out).mono ?_); (case side1 => exact (by (with_reducible repeat (first | refine blk_drewN ?_ _ | refine blk_drew ?_ | refine blk_alloc ?_ _)); exact BK182.out)); (case side2 => repeat (first | exact (Kd.C_below HR0_0.out HB.out) | (with_reducible refine Kd.C_alloc ?_ _) | (with_reducible refine Kd.C_drewN ?_ _) | (with_reducible refine Kd.C_drew ?_))); (case side3 => exact HC0_0.out); (case side4 => repeat (first | exact (Kd.C_below HR0_1.out HB.out) | (with_reducible refine Kd.C_alloc ?_ _) | (with_reducible refine Kd.C_drewN ?_ _) | (with_reducible refine Kd.C_drew ?_))); (case side5 => exact HC0_1.out); rintro e w' ⟨rfl, ⟨nd, rfl⟩⟩; refine ⟨_, rfl, ?_⟩; have hnb62 := NB186_182.out; have hnc62 := NB182_186.out; have hcz63_0 : wr.cell? ⟨gb186, 0, none⟩ = some (.slice (some ad188) ((rd_T44 l0_0 x21_2).f0).length c185_0) := (blk_cell BK186.out 0).trans rfl; have hcz63_1 : wr.cell? ⟨gb186, 1, none⟩ = some (.int .i64 ((rd_T44 l0_0 x21_2).f1)) := (blk_cell BK186.out 1).trans rfl; have hcz63_2 : wr.cell? ⟨gb186, 2, none⟩ = some (.bool ((rd_T44 l0_0 x21_2).f2)) := (blk_cell BK186.out 2).trans rfl; have hfz63_0 := blk_frozen BK186.out 0; have hfz63_1 := blk_frozen BK186.out 1; have hfz63_2 := blk_frozen BK186.out 2; have hcz64_0 : wr.cell? ⟨gb182, 0, none⟩ = some (.slice (some ad185) l0_0.length c0_0) := (blk_cell BK182.out 0).trans rfl; have hcz64_1 : wr.cell? ⟨gb182, 1, none⟩ = some (.slice A0_1 l0_1.length c0_1) := (blk_cell BK182.out 1).trans rfl; have hcz64_2 : wr.cell? ⟨gb182, 2, none⟩ = some (.bool false) := (blk_cell BK182.out 2).trans rfl; have hfz64_0 := blk_frozen BK182.out 0; have hfz64_1 := blk_frozen BK182.out 1; have hfz64_2 := blk_frozen BK182.out 2))
                                          go_roundg k4
                                          case measure => have := HJ1.out; have := HK2.out; have := HJ12.out; have := HK4.out; omega
                                          case rel => exact ⟨(wrap64 (x52_4 + 1)), (by first | rfl | (simp; done) | (simp [*]; done)), H', ⟨by have := HJ1.out; have := HK2.out; have := HJ12.out; have := HK4.out; omega⟩, ⟨by (with_reducible repeat (first | refine blk_drewN ?_ _ | refine blk_drew ?_ | refine blk_alloc ?_ _)); exact BK182.out⟩, ⟨by (with_reducible repeat (first | refine blk_drewN ?_ _ | refine blk_drew ?_ | refine blk_alloc ?_ _)); exact BK186.out⟩, ⟨by repeat (first | (with_reducible first | exact HB.out | apply below_alloc | apply pw_below_drewN | apply below_drew1 | refine below_set ?_ GE182.out | refine below_set ?_ GE186.out) | exact HB.out)⟩⟩
                                      · rw [if_neg c43] at H
                                        have c43b0 : ((rd ((rd_T44 l0_0 x21_2).f0) x52_4) == (-1)) = false := beq_eq_false_iff_ne.mpr c43
                                        have c43b1 : ((rd ((rd_T44 l0_0 x21_2).f0) x52_4) != (-1)) = true := bne_iff_ne.mpr c43
                                        obtain rfl := Option.some.inj H
                                        have p188 : 0 ≤ (x52_4 : Int) := of_decide_eq_true (by first | (with_reducible assumption) | assumption)
                                        have q188 : x52_4 < (((rd_T44 l0_0 x21_2).f0).length : Int) := of_decide_eq_true (by first | (with_reducible assumption) | assumption)
                                        obtain ⟨ad188, e188, hx188_0⟩ := Kd.at_int HR185_0.out x52_4 p188 q188
                                        cases e188
                                        replace hx188_0 := (HB.out.cell (World.block_lt_of_cell? w _ hx188_0)).trans hx188_0
                                        replace p188 := eq_true p188
                                        replace q188 := eq_true q188
                                        go_wp2_with (first | ((with_reducible refine gate_callee (f := 43) rfl ?_); refine goesL_ (some 57) rfl rfl Try.func43 (by kernel_rfl) rfl #[.pointer (some ⟨gb182, 0, none⟩), .int .i64 (rd ((rd_T44 l0_0 x21_2).f0) x52_4)] rfl (by (try simp only [List.map_toArray, List.map_cons, List.map_nil]); first | done | rfl | (simp only [List.length_drop, List.length_take]; rfl)) ?_; (with_reducible refine (impl_Marker_isTaken.calls gb182 (some ad185) c0_0 l0_0 A0_1 c0_1 l0_1 a0_2 (rd ((rd_T44 l0_0 x21_2).f0) x52_4) true _ ?side1 ?side2 ?side3 ?side4 ?side5 A40.out).mono ?_); (case side1 => exact (by (with_reducible repeat (first | refine blk_drewN ?_ _ | refine blk_drew ?_ | refine blk_alloc ?_ _)); exact BK182.out)); (case side2 => repeat (first | exact (Kd.C_below HR0_0.out HB.out) | (with_reducible refine Kd.C_alloc ?_ _) | (with_reducible refine Kd.C_drewN ?_ _) | (with_reducible refine Kd.C_drew ?_))); (case side3 => exact HC0_0.out); (case side4 => repeat (first | exact (Kd.C_below HR0_1.out HB.out) | (with_reducible refine Kd.C_alloc ?_ _) | (with_reducible refine Kd.C_drewN ?_ _) | (with_reducible refine Kd.C_drew ?_))); (case side5 => exact HC0_1.out); rintro e w' ⟨rfl, ⟨nd, rfl⟩⟩; refine ⟨_, rfl, ?_⟩; have hnb65 := NB186_182.out; have hnc65 := NB182_186.out; have hcz66_0 : wr.cell? ⟨gb186, 0, none⟩ = some (.slice (some ad188) ((rd_T44 l0_0 x21_2).f0).length c185_0) := (blk_cell BK186.out 0).trans rfl; have hcz66_1 : wr.cell? ⟨gb186, 1, none⟩ = some (.int .i64 ((rd_T44 l0_0 x21_2).f1)) := (blk_cell BK186.out 1).trans rfl; have hcz66_2 : wr.cell? ⟨gb186, 2, none⟩ = some (.bool ((rd_T44 l0_0 x21_2).f2)) := (blk_cell BK186.out 2).trans rfl; have hfz66_0 := blk_frozen BK186.out 0; have hfz66_1 := blk_frozen BK186.out 1; have hfz66_2 := blk_frozen BK186.out 2))
                                        go_ret
                                        exact ⟨by first | rfl | (simp [errW_none, errW_some] <;> rfl) | (simp [*, errW_none, errW_some] <;> rfl), by repeat (first | (with_reducible first | exact HB.out | apply below_alloc | apply pw_below_drewN | apply below_drew1 | refine below_set ?_ GE182.out | refine below_set ?_ GE186.out) | exact HB.out)⟩
                                    · rw [if_neg c42] at H
                                      have c42b0 : ((rd_T44 l0_0 x21_2).f2) = false := by simpa using c42
                                      clear c42
                                      by_cases c67 : a0_2 = true
                                      · subst c67
                                        have H1 : (if ((rd_T44 l0_0 x21_2).f1) = 2 then (if (rd ((rd_T44 l0_0 x21_2).f0) x52_4) ≥ 0 then (if 0 ≤ (rd ((rd_T44 l0_0 x21_2).f0) x52_4) then (if (rd ((rd_T44 l0_0 x21_2).f0) x52_4) < (l0_0.length : Int) then (if ((rd_T44 l0_0 (rd ((rd_T44 l0_0 x21_2).f0) x52_4)).f1) = 0 then (some false) else (impl_isMarker.l1 k4 l0_0 (l0_0.length : Int) x21_2 ((rd_T44 l0_0 x21_2).f0) (((rd_T44 l0_0 x21_2).f0).length : Int) (wrap64 (x52_4 + 1)) l0_0 l0_1 true ((rd_T44 l0_0 x21_2).f0) ((rd_T44 l0_0 x21_2).f1) ((rd_T44 l0_0 x21_2).f2))) else (none)) else (none)) else (impl_isMarker.l1 k4 l0_0 (l0_0.length : Int) x21_2 ((rd_T44 l0_0 x21_2).f0) (((rd_T44 l0_0 x21_2).f0).length : Int) (wrap64 (x52_4 + 1)) l0_0 l0_1 true ((rd_T44 l0_0 x21_2).f0) ((rd_T44 l0_0 x21_2).f1) ((rd_T44 l0_0 x21_2).f2))) else (impl_isMarker.l1 k4 l0_0 (l0_0.length : Int) x21_2 ((rd_T44 l0_0 x21_2).f0) (((rd_T44 l0_0 x21_2).f0).length : Int) (wrap64 (x52_4 + 1)) l0_0 l0_1 true ((rd_T44 l0_0 x21_2).f0) ((rd_T44 l0_0 x21_2).f1) ((rd_T44 l0_0 x21_2).f2))) = some r := by rw [if_pos rfl] at H; exact H
                                        clear H
                                        have H := H1
                                        clear H1
                                        by_cases c68 : ((rd_T44 l0_0 x21_2).f1) = 2
                                        · rw [if_pos c68] at H
                                          have c68b0 : (((rd_T44 l0_0 x21_2).f1) == 2) = true := beq_iff_eq.mpr c68
                                          have c68b1 : (((rd_T44 l0_0 x21_2).f1) != 2) = false := bne_eq_false_iff_eq.mpr c68
                                          clear c68
                                          by_cases c69 : (rd ((rd_T44 l0_0 x21_2).f0) x52_4) ≥ 0
                                          · rw [if_pos c69] at H
                                            have c69b0 : decide (0 ≤ (rd ((rd_T44 l0_0 x21_2).f0) x52_4)) = true := decide_eq_true c69
                                            clear c69
                                            by_cases c70 : 0 ≤ (rd ((rd_T44 l0_0 x21_2).f0) x52_4)
                                            · rw [if_pos c70] at H
                                              have c70b0 : decide (0 ≤ (rd ((rd_T44 l0_0 x21_2).f0) x52_4)) = true := decide_eq_true c70
                                              clear c70
                                              by_cases c71 : (rd ((rd_T44 l0_0 x21_2).f0) x52_4) < (l0_0.length : Int)
                                              · rw [if_pos c71] at H
                                                have c71b0 : decide ((rd ((rd_T44 l0_0 x21_2).f0) x52_4) < (l0_0.length : Int)) = true := decide_eq_true c71
                                                clear c71
                                                by_cases c72 : ((rd_T44 l0_0 (rd ((rd_T44 l0_0 x21_2).f0) x52_4)).f1) = 0
                                                · rw [if_pos c72] at H
                                                  have c72b0 : (((rd_T44 l0_0 (rd ((rd_T44 l0_0 x21_2).f0) x52_4)).f1) == 0) = true := beq_iff_eq.mpr c72
                                                  have c72b1 : (((rd_T44 l0_0 (rd ((rd_T44 l0_0 x21_2).f0) x52_4)).f1) != 0) = false := bne_eq_false_iff_eq.mpr c72
                                                  clear c72
                                                  obtain rfl := Option.some.inj H
                                                  have p188 : 0 ≤ (x52_4 : Int) := of_decide_eq_true (by first | (with_reducible assumption) | assumption)
                                                  have q188 : x52_4 < (((rd_T44 l0_0 x21_2).f0).length : Int) := of_decide_eq_true (by first | (with_reducible assumption) | assumption)
                                                  obtain ⟨ad188, e188, hx188_0⟩ := Kd.at_int HR185_0.out x52_4 p188 q188
                                                  cases e188
                                                  replace hx188_0 := (HB.out.cell (World.block_lt_of_cell? w _ hx188_0)).trans hx188_0
                                                  replace p188 := eq_true p188
                                                  replace q188 := eq_true q188
                                                  go_wp2_with (first | ((with_reducible refine gate_callee (f := 43) rfl ?_); refine goesL_ (some 57) rfl rfl Try.func43 (by kernel_rfl) rfl #[.pointer (some ⟨gb182, 0, none⟩), .int .i64 (rd ((rd_T44 l0_0 x21_2).f0) x52_4)] rfl (by (try simp only [List.map_toArray, List.map_cons, List.map_nil]); first | done | rfl | (simp only [List.length_drop, List.length_take]; rfl)) ?_; (with_reducible refine (impl_Marker_isTaken.calls gb182 (some ad185) c0_0 l0_0 A0_1 c0_1 l0_1 true (rd ((rd_T44 l0_0 x21_2).f0) x52_4) true _ ?side1 ?side2 ?side3 ?side4 ?side5 A40.out).mono ?_); (case side1 => exact (by (with_reducible repeat (first | refine blk_drewN ?_ _ | refine blk_drew ?_ | refine blk_alloc ?_ _)); exact BK182.out)); (case side2 => repeat (first | exact (Kd.C_below HR0_0.out HB.out) | (with_reducible refine Kd.C_alloc ?_ _) | (with_reducible refine Kd.C_drewN ?_ _) | (with_reducible refine Kd.C_drew ?_))); (case side3 => exact HC0_0.out); (case side4 => repeat (first | exact (Kd.C_below HR0_1.out HB.out) | (with_reducible refine Kd.C_alloc ?_ _) | (with_reducible refine Kd.C_drewN ?_ _) | (with_reducible refine Kd.C_drew ?_))); (case side5 => exact HC0_1.out); rintro e w' ⟨rfl, ⟨nd, rfl⟩⟩; refine ⟨_, rfl, ?_⟩; have hnb73 := NB186_182.out; have hnc73 := NB182_186.out; have hcz74_0 : wr.cell? ⟨gb186, 0, none⟩ = some (.slice (some ad188) ((rd_T44 l0_0 x21_2).f0).length c185_0) := (blk_cell BK186.out 0).trans rfl; have hcz74_1 : wr.cell? ⟨gb186, 1, none⟩ = some (.int .i64 ((rd_T44 l0_0 x21_2).f1)) := (blk_cell BK186.out 1).trans rfl; have hcz74_2 : wr.cell? ⟨gb186, 2, none⟩ = some (.bool ((rd_T44 l0_0 x21_2).f2)) := (blk_cell BK186.out 2).trans rfl; have hfz74_0 := blk_frozen BK186.out 0; have hfz74_1 := blk_frozen BK186.out 1; have hfz74_2 := blk_frozen BK186.out 2; have hcz75_0 : wr.cell? ⟨gb182, 0, none⟩ = some (.slice (some ad185) l0_0.length c0_0) := (blk_cell BK182.out 0).trans rfl; have hcz75_1 : wr.cell? ⟨gb182, 1, none⟩ = some (.slice A0_1 l0_1.length c0_1) := (blk_cell BK182.out 1).trans rfl; have hcz75_2 : wr.cell? ⟨gb182, 2, none⟩ = some (.bool true) := (blk_cell BK182.out 2).trans rfl; have hfz75_0 := blk_frozen BK182.out 0; have hfz75_1 := blk_frozen BK182.out 1; have hfz75_2 := blk_frozen BK182.out 2; have p191 : 0 ≤ ((rd ((rd_T44 l0_0 x21_2).f0) x52_4) : Int) := of_decide_eq_true (by first | (with_reducible assumption) | assumption); have q191 : (rd ((rd_T44 l0_0 x21_2).f0) x52_4) < (l0_0.length : Int) := of_decide_eq_true (by first | (with_reducible assumption) | assumption); obtain ⟨ad191, A191_0, c191_0, e191, hx191_0, hx191_1, hx191_2, hl191_0, hi191_0⟩ := at_T44 HR0_0.out (rd ((rd_T44 l0_0 x21_2).f0) x52_4) p191 q191; obtain rfl : ad185 = ad191 := (by injection e191); replace hx191_0 := (HB.out.cell (World.block_lt_of_cell? w _ hx191_0)).trans hx191_0; replace hx191_1 := (HB.out.cell (World.block_lt_of_cell? w _ hx191_1)).trans hx191_1; replace hx191_2 := (HB.out.cell (World.block_lt_of_cell? w _ hx191_2)).trans hx191_2; have HR191_0 := Aside0.mk hi191_0; have HC191_0 := Aside0.mk hl191_0; clear hi191_0 hl191_0; replace p191 := eq_true p191; replace q191 := eq_true q191))
                                                  go_ret
                                                  exact ⟨by first | rfl | (simp [errW_none, errW_some] <;> rfl) | (simp [*, errW_none, errW_some] <;> rfl), by repeat (first | (with_reducible first | exact HB.out | apply below_alloc | apply pw_below_drewN | apply below_drew1 | refine below_set ?_ GE182.out | refine below_set ?_ GE186.out) | exact HB.out)⟩
                                                · rw [if_neg c72] at H
                                                  have c72b0 : (((rd_T44 l0_0 (rd ((rd_T44 l0_0 x21_2).f0) x52_4)).f1) == 0) = false := beq_eq_false_iff_ne.mpr c72
                                                  have c72b1 : (((rd_T44 l0_0 (rd ((rd_T44 l0_0 x21_2).f0) x52_4)).f1) != 0) = true := bne_iff_ne.mpr c72
                                                  have H' := Aside0.mk H
                                                  clear H
                                                  have p188 : 0 ≤ (x52_4 : Int) := of_decide_eq_true (by first | (with_reducible assumption) | assumption)
                                                  have q188 : x52_4 < (((rd_T44 l0_0 x21_2).f0).length : Int) := of_decide_eq_true (by first | (with_reducible assumption) | assumption)
                                                  obtain ⟨ad188, e188, hx188_0⟩ := Kd.at_int HR185_0.out x52_4 p188 q188
                                                  cases e188
                                                  replace hx188_0 := (HB.out.cell (World.block_lt_of_cell? w _ hx188_0)).trans hx188_0
                                                  replace p188 := eq_true p188
                                                  replace q188 := eq_true q188
                                                  go_wp2_with (first | ((with_reducible refine gate_callee (f := 43) rfl ?_); refine goesL_ (some 57) rfl rfl Try.func43 (by kernel_rfl) rfl #[.pointer (some ⟨gb182, 0, none⟩), .int .i64 (rd ((rd_T44 l0_0 x21_2).f0) x52_4)] rfl (by (try simp only [List.map_toArray, List.map_cons, List.map_nil]); first | done | rfl | (simp only [List.length_drop, List.length_take]; rfl)) ?_; (with_reducible refine (impl_Marker_isTaken.calls gb182 (some ad185) c0_0 l0_0 A0_1 c0_1 l0_1 true (rd ((rd_T44 l0_0 x21_2).f0) x52_4) true _ ?side1 ?side2 ?side3 ?side4 ?side5 A40.out).mono ?_); (case side1 => exact (by (with_reducible repeat (first | refine blk_drewN ?_ _ | refine blk_drew ?_ | refine blk_alloc ?_ _)); exact BK182.out)); (case side2 => repeat (first | exact (Kd.C_below HR0_0.out HB.out) | (with_reducible refine Kd.C_alloc ?_ _) | (with_reducible refine Kd.C_drewN ?_ _) | (with_reducible refine Kd.C_drew ?_))); (case side3 => exact HC0_0.out); (case side4 => repeat (first | exact (Kd.C_below HR0_1.out HB.out) | (with_reducible refine Kd.C_alloc ?_ _) | (with_reducible refine Kd.C_drewN ?_ _) | (with_reducible refine Kd.C_drew ?_))); (case side5 => exact HC0_1.out); rintro e w' ⟨rfl, ⟨nd, rfl⟩⟩; refine ⟨_, rfl, ?_⟩; have hnb76 := NB186_182.out; have hnc76 := NB182_186.out; have hcz77_0 : wr.cell? ⟨gb186, 0, none⟩ = some (.slice (some ad188) ((rd_T44 l0_0 x21_2).f0).length c185_0) := (blk_cell BK186.out 0).trans rfl; have hcz77_1 : wr.cell? ⟨gb186, 1, none⟩ = some (.int .i64 ((rd_T44 l0_0 x21_2).f1)) := (blk_cell BK186.out 1).trans rfl; have hcz77_2 : wr.cell? ⟨gb186, 2, none⟩ = some (.bool ((rd_T44 l0_0 x21_2).f2)) := (blk_cell BK186.out 2).trans rfl; have hfz77_0 := blk_frozen BK186.out 0; have hfz77_1 := blk_frozen BK186.out 1; have hfz77_2 := blk_frozen BK186.out 2; have hcz78_0 : wr.cell? ⟨gb182, 0, none⟩ = some (.slice (some ad185) l0_0.length c0_0) := (blk_cell BK182.out 0).trans rfl; have hcz78_1 : wr.cell? ⟨gb182, 1, none⟩ = some (.slice A0_1 l0_1.length c0_1) := (blk_cell BK182.out 1).trans rfl; have hcz78_2 : wr.cell? ⟨gb182, 2, none⟩ = some (.bool true) := (blk_cell BK182.out 2).trans rfl; have hfz78_0 := blk_frozen BK182.out 0; have hfz78_1 := blk_frozen BK182.out 1; have hfz78_2 := blk_frozen BK182.out 2; have p191 : 0 ≤ ((rd ((rd_T44 l0_0 x21_2).f0) x52_4) : Int) := of_decide_eq_true (by first | (with_reducible assumption) | assumption); have q191 : (rd ((rd_T44 l0_0 x21_2).f0) x52_4) < (l0_0.length : Int) := of_decide_eq_true (by first | (with_reducible assumption) | assumption); obtain ⟨ad191, A191_0, c191_0, e191, hx191_0, hx191_1, hx191_2, hl191_0, hi191_0⟩ := at_T44 HR0_0.out (rd ((rd_T44 l0_0 x21_2).f0) x52_4) p191 q191; obtain rfl : ad185 = ad191 := (by injection e191); replace hx191_0 := (HB.out.cell (World.block_lt_of_cell? w _ hx191_0)).trans hx191_0; replace hx191_1 := (HB.out.cell (World.block_lt_of_cell? w _ hx191_1)).trans hx191_1; replace hx191_2 := (HB.out.cell (World.block_lt_of_cell? w _ hx191_2)).trans hx191_2; have HR191_0 := Aside0.mk hi191_0; have HC191_0 := Aside0.mk hl191_0; clear hi191_0 hl191_0; replace p191 := eq_true p191; replace q191 := eq_true q191))
                                                  go_roundg k4
                                                  case measure => have := HJ1.out; have := HK2.out; have := HJ12.out; have := HK4.out; omega
                                                  case rel => exact ⟨(wrap64 (x52_4 + 1)), (by first | rfl | (simp; done) | (simp [*]; done)), H', ⟨by have := HJ1.out; have := HK2.out; have := HJ12.out; have := HK4.out; omega⟩, ⟨by (with_reducible repeat (first | refine blk_drewN ?_ _ | refine blk_drew ?_ | refine blk_alloc ?_ _)); exact BK182.out⟩, ⟨by (with_reducible repeat (first | refine blk_drewN ?_ _ | refine blk_drew ?_ | refine blk_alloc ?_ _)); exact BK186.out⟩, ⟨by repeat (first | (with_reducible first | exact HB.out | apply below_alloc | apply pw_below_drewN | apply below_drew1 | refine below_set ?_ GE182.out | refine below_set ?_ GE186.out) | exact HB.out)⟩⟩
                                              · rw [if_neg c71] at H
                                                exact absurd H (by simp)
                                            · rw [if_neg c70] at H
                                              exact absurd H (by simp)
                                          · rw [if_neg c69] at H
                                            have c69b0 : decide (0 ≤ (rd ((rd_T44 l0_0 x21_2).f0) x52_4)) = false := decide_eq_false c69
                                            clear c69
                                            have H' := Aside0.mk H
                                            clear H
                                            have p188 : 0 ≤ (x52_4 : Int) := of_decide_eq_true (by first | (with_reducible assumption) | assumption)
                                            have q188 : x52_4 < (((rd_T44 l0_0 x21_2).f0).length : Int) := of_decide_eq_true (by first | (with_reducible assumption) | assumption)
                                            obtain ⟨ad188, e188, hx188_0⟩ := Kd.at_int HR185_0.out x52_4 p188 q188
                                            cases e188
                                            replace hx188_0 := (HB.out.cell (World.block_lt_of_cell? w _ hx188_0)).trans hx188_0
                                            replace p188 := eq_true p188
                                            replace q188 := eq_true q188
                                            go_wp2_with (first | ((with_reducible refine gate_callee (f := 43) rfl ?_); refine goesL_ (some 57) rfl rfl Try.func43 (by kernel_rfl) rfl #[.pointer (some ⟨gb182, 0, none⟩), .int .i64 (rd ((rd_T44 l0_0 x21_2).f0) x52_4)] rfl (by (try simp only [List.map_toArray, List.map_cons, List.map_nil]); first | done | rfl | (simp only [List.length_drop, List.length_take]; rfl)) ?_; (with_reducible refine (impl_Marker_isTaken.calls gb182 (some ad185) c0_0 l0_0 A0_1 c0_1 l0_1 true (rd ((rd_T44 l0_0 x21_2).f0) x52_4) true _ ?side1 ?side2 ?side3 ?side4 ?side5 A40.out).mono ?_); (case side1 => exact (by (with_reducible repeat (first | refine blk_drewN ?_ _ | refine blk_drew ?_ | refine blk_alloc ?_ _)); exact BK182.out)); (case side2 => repeat (first | exact (Kd.C_below HR0_0.out HB.out) | (with_reducible refine Kd.C_alloc ?_ _) | (with_reducible refine Kd.C_drewN ?_ _) | (with_reducible refine Kd.C_drew ?_))); (case side3 => exact HC0_0.out); (case side4 => repeat (first | exact (Kd.C_below HR0_1.out HB.out) | (with_reducible refine Kd.C_alloc ?_ _) | (with_reducible refine Kd.C_drewN ?_ _) | (with_reducible refine Kd.C_drew ?_))); (case side5 => exact HC0_1.out); rintro e w' ⟨rfl, ⟨nd, rfl⟩⟩; refine ⟨_, rfl, ?_⟩; have hnb79 := NB186_182.out; have hnc79 := NB182_186.out; have hcz80_0 : wr.cell? ⟨gb186, 0, none⟩ = some (.slice (some ad188) ((rd_T44 l0_0 x21_2).f0).length c185_0) := (blk_cell BK186.out 0).trans rfl; have hcz80_1 : wr.cell? ⟨gb186, 1, none⟩ = some (.int .i64 ((rd_T44 l0_0 x21_2).f1)) := (blk_cell BK186.out 1).trans rfl; have hcz80_2 : wr.cell? ⟨gb186, 2, none⟩ = some (.bool ((rd_T44 l0_0 x21_2).f2)) := (blk_cell BK186.out 2).trans rfl; have hfz80_0 := blk_frozen BK186.out 0; have hfz80_1 := blk_frozen BK186.out 1; have hfz80_2 := blk_frozen BK186.out 2; have hcz81_0 : wr.cell? ⟨gb182, 0, none⟩ = some (.slice (some ad185) l0_0.length c0_0) := (blk_cell BK182.out 0).trans rfl; have hcz81_1 : wr.cell? ⟨gb182, 1, none⟩ = some (.slice A0_1 l0_1.length c0_1) := (blk_cell BK182.out 1).trans rfl; have hcz81_2 : wr.cell? ⟨gb182, 2, none⟩ = some (.bool true) := (blk_cell BK182.out 2).trans rfl; have hfz81_0 := blk_frozen BK182.out 0; have hfz81_1 := blk_frozen BK182.out 1; have hfz81_2 := blk_frozen BK182.out 2))
                                            go_roundg k4
                                            case measure => have := HJ1.out; have := HK2.out; have := HJ12.out; have := HK4.out; omega
                                            case rel => exact ⟨(wrap64 (x52_4 + 1)), (by first | rfl | (simp; done) | (simp [*]; done)), H', ⟨by have := HJ1.out; have := HK2.out; have := HJ12.out; have := HK4.out; omega⟩, ⟨by (with_reducible repeat (first | refine blk_drewN ?_ _ | refine blk_drew ?_ | refine blk_alloc ?_ _)); exact BK182.out⟩, ⟨by (with_reducible repeat (first | refine blk_drewN ?_ _ | refine blk_drew ?_ | refine blk_alloc ?_ _)); exact BK186.out⟩, ⟨by repeat (first | (with_reducible first | exact HB.out | apply below_alloc | apply pw_below_drewN | apply below_drew1 | refine below_set ?_ GE182.out | refine below_set ?_ GE186.out) | exact HB.out)⟩⟩
                                        · rw [if_neg c68] at H
                                          have c68b0 : (((rd_T44 l0_0 x21_2).f1) == 2) = false := beq_eq_false_iff_ne.mpr c68
                                          have c68b1 : (((rd_T44 l0_0 x21_2).f1) != 2) = true := bne_iff_ne.mpr c68
                                          have H' := Aside0.mk H
                                          clear H
                                          have p188 : 0 ≤ (x52_4 : Int) := of_decide_eq_true (by first | (with_reducible assumption) | assumption)
                                          have q188 : x52_4 < (((rd_T44 l0_0 x21_2).f0).length : Int) := of_decide_eq_true (by first | (with_reducible assumption) | assumption)
                                          obtain ⟨ad188, e188, hx188_0⟩ := Kd.at_int HR185_0.out x52_4 p188 q188
                                          cases e188
                                          replace hx188_0 := (HB.out.cell (World.block_lt_of_cell? w _ hx188_0)).trans hx188_0
                                          replace p188 := eq_true p188
                                          replace q188 := eq_true q188
                                          go_wp2_with (first | ((with_reducible refine gate_callee (f := 43) rfl ?_); refine goesL_ (some 57) rfl rfl Try.func43 (by kernel_rfl) rfl #[.pointer (some ⟨gb182, 0, none⟩), .int .i64 (rd ((rd_T44 l0_0 x21_2).f0) x52_4)] rfl (by (try simp only [List.map_toArray, List.map_cons, List.map_nil]); first | done | rfl | (simp only [List.length_drop, List.length_take]; rfl)) ?_; (with_reducible refine (impl_Marker_isTaken.calls gb182 (some ad185) c0_0 l0_0 A0_1 c0_1 l0_1 true (rd ((rd_T44 l0_0 x21_2).f0) x52_4) true _ ?side1 ?side2 ?side3 ?side4 ?side5 A40.out).mono ?_); (case side1 => exact (by (with_reducible repeat (first | refine blk_drewN ?_ _ | refine blk_drew ?_ | refine blk_alloc ?_ _)); exact BK182.out)); (case side2 => repeat (first | exact (Kd.C_below HR0_0.out HB.out) | (with_reducible refine Kd.C_alloc ?_ _) | (with_reducible refine Kd.C_drewN ?_ _) | (with_reducible refine Kd.C_drew ?_))); (case side3 => exact HC0_0.out); (case side4 => repeat (first | exact (Kd.C_below HR0_1.out HB.out) | (with_reducible refine Kd.C_alloc ?_ _) | (with_reducible refine Kd.C_drewN ?_ _) | (with_reducible refine Kd.C_drew ?_))); (case side5 => exact HC0_1.out); rintro e w' ⟨rfl, ⟨nd, rfl⟩⟩; refine ⟨_, rfl, ?_⟩; have hnb82 := NB186_182.out; have hnc82 := NB182_186.out; have hcz83_0 : wr.cell? ⟨gb186, 0, none⟩ = some (.slice (some ad188) ((rd_T44 l0_0 x21_2).f0).length c185_0) := (blk_cell BK186.out 0).trans rfl; have hcz83_1 : wr.cell? ⟨gb186, 1, none⟩ = some (.int .i64 ((rd_T44 l0_0 x21_2).f1)) := (blk_cell BK186.out 1).trans rfl; have hcz83_2 : wr.cell? ⟨gb186, 2, none⟩ = some (.bool ((rd_T44 l0_0 x21_2).f2)) := (blk_cell BK186.out 2).trans rfl; have hfz83_0 := blk_frozen BK186.out 0; have hfz83_1 := blk_frozen BK186.out 1; have hfz83_2 := blk_frozen BK186.out 2; have hcz84_0 : wr.cell? ⟨gb182, 0, none⟩ = some (.slice (some ad185) l0_0.length c0_0) := (blk_cell BK182.out 0).trans rfl; have hcz84_1 : wr.cell? ⟨gb182, 1, none⟩ = some (.slice A0_1 l0_1.length c0_1) := (blk_cell BK182.out 1).trans rfl; have hcz84_2 : wr.cell? ⟨gb182, 2, none⟩ = some (.bool true) := (blk_cell BK182.out 2).trans rfl; have hfz84_0 := blk_frozen BK182.out 0; have hfz84_1 := blk_frozen BK182.out 1; have hfz84_2 := blk_frozen BK182.out 2))
                                          go_roundg k4
                                          case measure => have := HJ1.out; have := HK2.out; have := HJ12.out; have := HK4.out; omega
                                          case rel => exact ⟨(wrap64 (x52_4 + 1)), (by first | rfl | (simp; done) | (simp [*]; done)), H', ⟨by have := HJ1.out; have := HK2.out; have := HJ12.out; have := HK4.out; omega⟩, ⟨by (with_reducible repeat (first | refine blk_drewN ?_ _ | refine blk_drew ?_ | refine blk_alloc ?_ _)); exact BK182.out⟩, ⟨by (with_reducible repeat (first | refine blk_drewN ?_ _ | refine blk_drew ?_ | refine blk_alloc ?_ _)); exact BK186.out⟩, ⟨by repeat (first | (with_reducible first | exact HB.out | apply below_alloc | apply pw_below_drewN | apply below_drew1 | refine below_set ?_ GE182.out | refine below_set ?_ GE186.out) | exact HB.out)⟩⟩
                                      · replace c67 := Bool.eq_false_iff.mpr c67
                                        subst c67
                                        have H1 : (impl_isMarker.l1 k4 l0_0 (l0_0.length : Int) x21_2 ((rd_T44 l0_0 x21_2).f0) (((rd_T44 l0_0 x21_2).f0).length : Int) (wrap64 (x52_4 + 1)) l0_0 l0_1 false ((rd_T44 l0_0 x21_2).f0) ((rd_T44 l0_0 x21_2).f1) ((rd_T44 l0_0 x21_2).f2)) = some r := by rw [if_neg (show ¬ (false = true) by decide)] at H; exact H
                                        clear H
                                        have H := H1
                                        clear H1
                                        have H' := Aside0.mk H
                                        clear H
                                        have p188 : 0 ≤ (x52_4 : Int) := of_decide_eq_true (by first | (with_reducible assumption) | assumption)
                                        have q188 : x52_4 < (((rd_T44 l0_0 x21_2).f0).length : Int) := of_decide_eq_true (by first | (with_reducible assumption) | assumption)
                                        obtain ⟨ad188, e188, hx188_0⟩ := Kd.at_int HR185_0.out x52_4 p188 q188
                                        cases e188
                                        replace hx188_0 := (HB.out.cell (World.block_lt_of_cell? w _ hx188_0)).trans hx188_0
                                        replace p188 := eq_true p188
                                        replace q188 := eq_true q188
                                        go_wp2_with (first | ((with_reducible refine gate_callee (f := 43) rfl ?_); refine goesL_ (some 57) rfl rfl Try.func43 (by kernel_rfl) rfl #[.pointer (some ⟨gb182, 0, none⟩), .int .i64 (rd ((rd_T44 l0_0 x21_2).f0) x52_4)] rfl (by (try simp only [List.map_toArray, List.map_cons, List.map_nil]); first | done | rfl | (simp only [List.length_drop, List.length_take]; rfl)) ?_; (with_reducible refine (impl_Marker_isTaken.calls gb182 (some ad185) c0_0 l0_0 A0_1 c0_1 l0_1 false (rd ((rd_T44 l0_0 x21_2).f0) x52_4) true _ ?side1 ?side2 ?side3 ?side4 ?side5 A40.out).mono ?_); (case side1 => exact (by (with_reducible repeat (first | refine blk_drewN ?_ _ | refine blk_drew ?_ | refine blk_alloc ?_ _)); exact BK182.out)); (case side2 => repeat (first | exact (Kd.C_below HR0_0.out HB.out) | (with_reducible refine Kd.C_alloc ?_ _) | (with_reducible refine Kd.C_drewN ?_ _) | (with_reducible refine Kd.C_drew ?_))); (case side3 => exact HC0_0.out); (case side4 => repeat (first | exact (Kd.C_below HR0_1.out HB.out) | (with_reducible refine Kd.C_alloc ?_ _) | (with_reducible refine Kd.C_drewN ?_ _) | (with_reducible refine Kd.C_drew ?_))); (case side5 => exact HC0_1.out); rintro e w' ⟨rfl, ⟨nd, rfl⟩⟩; refine ⟨_, rfl, ?_⟩; have hnb85 := NB186_182.out; have hnc85 := NB182_186.out; have hcz86_0 : wr.cell? ⟨gb186, 0, none⟩ = some (.slice (some ad188) ((rd_T44 l0_0 x21_2).f0).length c185_0) := (blk_cell BK186.out 0).trans rfl; have hcz86_1 : wr.cell? ⟨gb186, 1, none⟩ = some (.int .i64 ((rd_T44 l0_0 x21_2).f1)) := (blk_cell BK186.out 1).trans rfl; have hcz86_2 : wr.cell? ⟨gb186, 2, none⟩ = some (.bool ((rd_T44 l0_0 x21_2).f2)) := (blk_cell BK186.out 2).trans rfl; have hfz86_0 := blk_frozen BK186.out 0; have hfz86_1 := blk_frozen BK186.out 1; have hfz86_2 := blk_frozen BK186.out 2; have hcz87_0 : wr.cell? ⟨gb182, 0, none⟩ = some (.slice (some ad185) l0_0.length c0_0) := (blk_cell BK182.out 0).trans rfl; have hcz87_1 : wr.cell? ⟨gb182, 1, none⟩ = some (.slice A0_1 l0_1.length c0_1) := (blk_cell BK182.out 1).trans rfl; have hcz87_2 : wr.cell? ⟨gb182, 2, none⟩ = some (.bool false) := (blk_cell BK182.out 2).trans rfl; have hfz87_0 := blk_frozen BK182.out 0; have hfz87_1 := blk_frozen BK182.out 1; have hfz87_2 := blk_frozen BK182.out 2))
                                        go_roundg k4
                                        case measure => have := HJ1.out; have := HK2.out; have := HJ12.out; have := HK4.out; omega
                                        case rel => exact ⟨(wrap64 (x52_4 + 1)), (by first | rfl | (simp; done) | (simp [*]; done)), H', ⟨by have := HJ1.out; have := HK2.out; have := HJ12.out; have := HK4.out; omega⟩, ⟨by (with_reducible repeat (first | refine blk_drewN ?_ _ | refine blk_drew ?_ | refine blk_alloc ?_ _)); exact BK182.out⟩, ⟨by (with_reducible repeat (first | refine blk_drewN ?_ _ | refine blk_drew ?_ | refine blk_alloc ?_ _)); exact BK186.out⟩, ⟨by repeat (first | (with_reducible first | exact HB.out | apply below_alloc | apply pw_below_drewN | apply below_drew1 | refine below_set ?_ GE182.out | refine below_set ?_ GE186.out) | exact HB.out)⟩⟩
                                  · replace c41 := Bool.eq_false_iff.mpr c41
                                    subst c41
                                    have H1 : (some false) = some r := by rw [if_neg (show ¬ (false = true) by decide)] at H; exact H
                                    clear H
                                    have H := H1
                                    clear H1
                                    obtain rfl := Option.some.inj H
                                    have p188 : 0 ≤ (x52_4 : Int) := of_decide_eq_true (by first | (with_reducible assumption) | assumption)
                                    have q188 : x52_4 < (((rd_T44 l0_0 x21_2).f0).length : Int) := of_decide_eq_true (by first | (with_reducible assumption) | assumption)
                                    obtain ⟨ad188, e188, hx188_0⟩ := Kd.at_int HR185_0.out x52_4 p188 q188
                                    cases e188
                                    replace hx188_0 := (HB.out.cell (World.block_lt_of_cell? w _ hx188_0)).trans hx188_0
                                    replace p188 := eq_true p188
                                    replace q188 := eq_true q188
                                    go_wp2_with (first | ((with_reducible refine gate_callee (f := 43) rfl ?_); refine goesL_ (some 57) rfl rfl Try.func43 (by kernel_rfl) rfl #[.pointer (some ⟨gb182, 0, none⟩), .int .i64 (rd ((rd_T44 l0_0 x21_2).f0) x52_4)] rfl (by (try simp only [List.map_toArray, List.map_cons, List.map_nil]); first | done | rfl | (simp only [List.length_drop, List.length_take]; rfl)) ?_; (with_reducible refine (impl_Marker_isTaken.calls gb182 (some ad185) c0_0 l0_0 A0_1 c0_1 l0_1 a0_2 (rd ((rd_T44 l0_0 x21_2).f0) x52_4) false _ ?side1 ?side2 ?side3 ?side4 ?side5 A40.out).mono ?_); (case side1 => exact (by (with_reducible repeat (first | refine blk_drewN ?_ _ | refine blk_drew ?_ | refine blk_alloc ?_ _)); exact BK182.out)); (case side2 => repeat (first | exact (Kd.C_below HR0_0.out HB.out) | (with_reducible refine Kd.C_alloc ?_ _) | (with_reducible refine Kd.C_drewN ?_ _) | (with_reducible refine Kd.C_drew ?_))); (case side3 => exact HC0_0.out); (case side4 => repeat (first | exact (Kd.C_below HR0_1.out HB.out) | (with_reducible refine Kd.C_alloc ?_ _) | (with_reducible refine Kd.C_drewN ?_ _) | (with_reducible refine Kd.C_drew ?_))); (case side5 => exact HC0_1.out); rintro e w' ⟨rfl, ⟨nd, rfl⟩⟩; refine ⟨_, rfl, ?_⟩))
                                    go_ret
                                    exact ⟨by first | rfl | (simp [errW_none, errW_some] <;> rfl) | (simp [*, errW_none, errW_some] <;> rfl), by repeat (first | (with_reducible first | exact HB.out | apply below_alloc | apply pw_below_drewN | apply below_drew1 | refine below_set ?_ GE182.out | refine below_set ?_ GE186.out) | exact HB.out)⟩
                                · rw [if_neg c39] at H
                                  exact absurd H (by simp)
                              · rw [if_neg c38] at H
                                exact absurd H (by simp)
                            · rw [if_neg c37] at H
                              have c37b0 : decide (x52_4 < (((rd_T44 l0_0 x21_2).f0).length : Int)) = false := decide_eq_false c37
                              clear c37
                              have H' := Aside0.mk H
                              clear H
                              go_wp2
                              go_roundg k4
                              case measure => have := HJ1.out; have := HK2.out; have := HJ12.out; have := HK4.out; omega
                              case rel => exact ⟨(wrap64 (x21_2 + 1)), (by first | rfl | (simp; done) | (simp [*]; done)), H', ⟨by have := HJ1.out; have := HK2.out; have := HJ12.out; have := HK4.out; omega⟩, ⟨by (with_reducible repeat (first | refine blk_drewN ?_ _ | refine blk_drew ?_ | refine blk_alloc ?_ _)); exact BK182.out⟩, ⟨by repeat (first | (with_reducible first | exact HB.out | apply below_alloc | apply pw_below_drewN | apply below_drew1 | refine below_set ?_ GE182.out | refine below_set ?_ GE186.out) | exact HB.out)⟩⟩
                · rw [if_neg c12] at H
                  exact absurd H (by simp)
              · rw [if_neg c11] at H
                exact absurd H (by simp)
            · rw [if_neg c10] at H
              have c10b0 : decide (x21_2 < (l0_0.length : Int)) = false := decide_eq_false c10
              clear c10
              replace H := Option.bind_eq_some_iff.mp H
              obtain ⟨t184, A880, H⟩ := H
              replace H : (some (!t184)) = some r := H
              have A88 := Aside0.mk A880
              clear A880
              obtain rfl := Option.some.inj H
              have hcz89_0 : wr.cell? ⟨gb182, 0, none⟩ = some (.slice A0_0 l0_0.length c0_0) := (blk_cell BK182.out 0).trans rfl
              have hcz89_1 : wr.cell? ⟨gb182, 1, none⟩ = some (.slice A0_1 l0_1.length c0_1) := (blk_cell BK182.out 1).trans rfl
              have hcz89_2 : wr.cell? ⟨gb182, 2, none⟩ = some (.bool a0_2) := (blk_cell BK182.out 2).trans rfl
              have hfz89_0 := blk_frozen BK182.out 0
              have hfz89_1 := blk_frozen BK182.out 1
              have hfz89_2 := blk_frozen BK182.out 2
              go_wp2_with (first | ((with_reducible refine gate_callee (f := 44) rfl ?_); refine goesL_ (some 94) rfl rfl Try.func44 (by kernel_rfl) rfl #[.slice A0_1 l0_1.length c0_1, .func (.func 45) #[] #[.pointer (some ⟨gb182, 0, none⟩)]] rfl (by (try simp only [List.map_toArray, List.map_cons, List.map_nil]); first | done | rfl | (simp only [List.length_drop, List.length_take]; rfl)) ?_; (with_reducible refine (slices_ContainsFunc_int_int_45.calls _ _ l0_1 gb182 A0_0 c0_0 l0_0 A0_1 c0_1 l0_1 a0_2 t184 _ ?side1 ?side2 ?side3 ?side4 ?side5 ?side6 ?side7 A88.out).mono ?_); (case side1 => repeat (first | exact (Kd.C_below HR0_1.out HB.out) | (with_reducible refine Kd.C_alloc ?_ _) | (with_reducible refine Kd.C_drewN ?_ _) | (with_reducible refine Kd.C_drew ?_))); (case side2 => exact HC0_1.out); (case side3 => exact (by (with_reducible repeat (first | refine blk_drewN ?_ _ | refine blk_drew ?_ | refine blk_alloc ?_ _)); exact BK182.out)); (case side4 => repeat (first | exact (Kd.C_below HR0_0.out HB.out) | (with_reducible refine Kd.C_alloc ?_ _) | (with_reducible refine Kd.C_drewN ?_ _) | (with_reducible refine Kd.C_drew ?_))); (case side5 => exact HC0_0.out); (case side6 => repeat (first | exact (Kd.C_below HR0_1.out HB.out) | (with_reducible refine Kd.C_alloc ?_ _) | (with_reducible refine Kd.C_drewN ?_ _) | (with_reducible refine Kd.C_drew ?_))); (case side7 => exact HC0_1.out); rintro e w90 ⟨rfl, hb⟩; refine ⟨_, rfl, ?_⟩; have n0_ := Aside0.mk (blk_below (g := gb182) (o := .cells #[.slice A0_0 l0_0.length c0_0, .slice A0_1 l0_1.length c0_1, .bool a0_2] 25 (0, 0)) (by (with_reducible repeat (first | refine blk_drewN ?_ _ | refine blk_drew ?_ | refine blk_alloc ?_ _)); exact BK182.out) hb); have n1_ := Aside0.mk (below_step (by repeat (first | (with_reducible first | exact HB.out | apply below_alloc | apply pw_below_drewN | apply below_drew1 | refine below_set ?_ GE182.out) | exact HB.out)) hb); clear BK182; clear HB; have BK182 := n0_; have HB := n1_; clear n0_ n1_; (try clear hb); (try clear hb2); (try clear hk); (try clear hi)))
              go_ret
              exact ⟨by first | rfl | (simp [errW_none, errW_some] <;> rfl) | (simp [*, errW_none, errW_some] <;> rfl), by repeat (first | (with_reducible first | exact HB.out | apply below_alloc | apply pw_below_drewN | apply below_drew1 | refine below_set ?_ GE182.out) | exact HB.out)⟩

end Go.Proofs.Ytmgnnegmohmbhaa.Q
