-- Written by the program wip/tools/pr.py of this claim's session, over the kit's print.py.
import Derived.Test.YtnocadhibajaoaaQx0
import Derived.Test.YtnocadhibajaoaaQx6
namespace Go.Proofs.Ytnocadhibajaoaa.Q
open Go.RowKit Go.Proofs.YtnocadhibajaoaaW.PrintWords Go.Proofs.YtnocadhibajaoaaW.PrintLast Go.Proofs.YtnocadhibajaoaaW.PrintMore
attribute [local go_sem] max2_int min2_int max_two min_two max_three min_three max_four min_four   -- for this text's walks alone
set_option linter.unusedVariables false
set_option linter.unusedSimpArgs false

/-! ### impl_isHeap: function 42 -/
mutual
def impl_isHeap.j0 : Nat → Bool → List (S45) → List Int → List Int → Int → Option (Bool)
 | 0, _, _, _, _, _ => none
 | k + 1, x24, x240000, x240001, x240002, x240003 => if x24 = true then (some false) else (impl_isHeap.l0 k x240000 (x240000.length : Int) 0 x240000 x240001 x240002 x240003)
def impl_isHeap.l0 : Nat → List (S45) → Int → Int → List (S45) → List Int → List Int → Int → Option (Bool)
 | 0, _, _, _, _, _, _, _ => none
 | k + 1, x26, x27, x28, x240000, x240001, x240002, x240003 => if x28 < x27 then (if 0 ≤ x28 then (if x28 < (x26.length : Int) then ((impl_in.f ((rd_T45 x26 x28).f0) 0 (wrap64 (x240003 - 1))).bind fun t243 => (if t243 = true then (if x28 > 0 then (if 0 ≤ (wrap64 (x28 - 1)) then (if (wrap64 (x28 - 1)) < (x240000.length : Int) then (if ((rd_T45 x240000 (wrap64 (x28 - 1))).f0) ≥ ((rd_T45 x26 x28).f0) then (impl_isHeap.j2 k x26 x27 x28 true x240000 x240001 x240002 x240003 ((rd_T45 x26 x28).f0) ((rd_T45 x26 x28).f1) ((rd_T45 x26 x28).f2)) else (impl_isHeap.j2 k x26 x27 x28 ((((rd_T45 x26 x28).f2).length : Int) != 2) x240000 x240001 x240002 x240003 ((rd_T45 x26 x28).f0) ((rd_T45 x26 x28).f1) ((rd_T45 x26 x28).f2))) else (none)) else (none)) else (impl_isHeap.j2 k x26 x27 x28 ((((rd_T45 x26 x28).f2).length : Int) != 2) x240000 x240001 x240002 x240003 ((rd_T45 x26 x28).f0) ((rd_T45 x26 x28).f1) ((rd_T45 x26 x28).f2))) else (impl_isHeap.j2 k x26 x27 x28 true x240000 x240001 x240002 x240003 ((rd_T45 x26 x28).f0) ((rd_T45 x26 x28).f1) ((rd_T45 x26 x28).f2)))) else (none)) else (none)) else (impl_isHeap.l2 k x240002 (x240002.length : Int) 0 x240000 x240001 x240002 x240003)
def impl_isHeap.j2 : Nat → List (S45) → Int → Int → Bool → List (S45) → List Int → List Int → Int → Int → Bool → List Int → Option (Bool)
 | 0, _, _, _, _, _, _, _, _, _, _, _ => none
 | k + 1, x26, x27, x28, x61, x240000, x240001, x240002, x240003, x243000, x243001, x243002 => if x61 = true then (some false) else (impl_isHeap.l1 k x26 x27 x28 x243002 (x243002.length : Int) 0 x240000 x240001 x240002 x240003 x243000 x243001 x243002)
def impl_isHeap.l1 : Nat → List (S45) → Int → Int → List Int → Int → Int → List (S45) → List Int → List Int → Int → Int → Bool → List Int → Option (Bool)
 | 0, _, _, _, _, _, _, _, _, _, _, _, _, _ => none
 | k + 1, x26, x27, x28, x63, x64, x65, x240000, x240001, x240002, x240003, x243000, x243001, x243002 => if x65 < x64 then (if 0 ≤ x65 then (if x65 < (x63.length : Int) then ((impl_Heap_leads.f x240000 x240001 x240002 x240003 (rd x63 x65)).bind fun t246 => (if t246 = true then (if x243001 = true then ((impl_Heap_isYoung.f x240000 x240001 x240002 x240003 (rd x63 x65)).bind fun t247 => (if t247 = true then ((slices_Contains_int_int.f k x240002 x243000).bind fun t248 => (if t248 = true then (impl_isHeap.l1 k x26 x27 x28 x63 x64 (wrap64 (x65 + 1)) x240000 x240001 x240002 x240003 x243000 x243001 x243002) else (some false))) else (impl_isHeap.l1 k x26 x27 x28 x63 x64 (wrap64 (x65 + 1)) x240000 x240001 x240002 x240003 x243000 x243001 x243002))) else (impl_isHeap.l1 k x26 x27 x28 x63 x64 (wrap64 (x65 + 1)) x240000 x240001 x240002 x240003 x243000 x243001 x243002)) else (some false))) else (none)) else (none)) else (impl_isHeap.l0 k x26 x27 (wrap64 (x28 + 1)) x240000 x240001 x240002 x240003)
def impl_isHeap.l2 : Nat → List Int → Int → Int → List (S45) → List Int → List Int → Int → Option (Bool)
 | 0, _, _, _, _, _, _, _ => none
 | k + 1, x91, x92, x93, x240000, x240001, x240002, x240003 => if x93 < x92 then (if 0 ≤ x93 then (if x93 < (x91.length : Int) then ((impl_Heap_at.f x240000 x240001 x240002 x240003 (rd x91 x93)).bind fun t251 => (if t251 < 0 then (some false) else ((impl_Heap_isYoung.f x240000 x240001 x240002 x240003 (rd x91 x93)).bind fun t252 => (if t252 = true then (some false) else (if x93 > 0 then (if 0 ≤ (wrap64 (x93 - 1)) then (if (wrap64 (x93 - 1)) < (x240002.length : Int) then (if (rd x240002 (wrap64 (x93 - 1))) ≥ (rd x91 x93) then (some false) else (impl_isHeap.l2 k x91 x92 (wrap64 (x93 + 1)) x240000 x240001 x240002 x240003)) else (none)) else (none)) else (impl_isHeap.l2 k x91 x92 (wrap64 (x93 + 1)) x240000 x240001 x240002 x240003)))))) else (none)) else (none)) else ((slices_ContainsFunc_int_int_60.f x240001 x240000 x240001 x240002 x240003).bind fun t249 => (some (!t249)))
end
def impl_isHeap.f (k : Nat) (l0_0 : List (S45)) (l0_1 : List Int) (l0_2 : List Int) (a0_3 : Int) : Option (Bool) := if (l0_0.length : Int) > 24 then (impl_isHeap.j0 k true l0_0 l0_1 l0_2 a0_3) else (if (l0_1.length : Int) = 6 then ((impl_in.f a0_3 0 1000).bind fun t240 => (impl_isHeap.j0 k (!t240) l0_0 l0_1 l0_2 a0_3)) else (impl_isHeap.j0 k true l0_0 l0_1 l0_2 a0_3))
theorem impl_isHeap.mono_l : ∀ k, (∀ y0 y1 y2 y3 y4, LeO (impl_isHeap.j0 k y0 y1 y2 y3 y4) (impl_isHeap.j0 (k + 1) y0 y1 y2 y3 y4)) ∧ (∀ y0 y1 y2 y3 y4 y5 y6, LeO (impl_isHeap.l0 k y0 y1 y2 y3 y4 y5 y6) (impl_isHeap.l0 (k + 1) y0 y1 y2 y3 y4 y5 y6)) ∧ (∀ y0 y1 y2 y3 y4 y5 y6 y7 y8 y9 y10, LeO (impl_isHeap.j2 k y0 y1 y2 y3 y4 y5 y6 y7 y8 y9 y10) (impl_isHeap.j2 (k + 1) y0 y1 y2 y3 y4 y5 y6 y7 y8 y9 y10)) ∧ (∀ y0 y1 y2 y3 y4 y5 y6 y7 y8 y9 y10 y11 y12, LeO (impl_isHeap.l1 k y0 y1 y2 y3 y4 y5 y6 y7 y8 y9 y10 y11 y12) (impl_isHeap.l1 (k + 1) y0 y1 y2 y3 y4 y5 y6 y7 y8 y9 y10 y11 y12)) ∧ (∀ y0 y1 y2 y3 y4 y5 y6, LeO (impl_isHeap.l2 k y0 y1 y2 y3 y4 y5 y6) (impl_isHeap.l2 (k + 1) y0 y1 y2 y3 y4 y5 y6))
 | 0 => ⟨fun _ _ _ _ _ r h => by simp [impl_isHeap.j0] at h, fun _ _ _ _ _ _ _ r h => by simp [impl_isHeap.l0] at h, fun _ _ _ _ _ _ _ _ _ _ _ r h => by simp [impl_isHeap.j2] at h, fun _ _ _ _ _ _ _ _ _ _ _ _ _ r h => by simp [impl_isHeap.l1] at h, fun _ _ _ _ _ _ _ r h => by simp [impl_isHeap.l2] at h⟩
 | k + 1 => by
  obtain ⟨ih0, ih1, ih2, ih3, ih4⟩ := impl_isHeap.mono_l k
  refine ⟨?_, ?_, ?_, ?_, ?_⟩
  ·intro y0 y1 y2 y3 y4
   unfold impl_isHeap.j0
   repeat' first
   | with_reducible apply ih0
   | with_reducible apply ih1
   | with_reducible apply ih2
   | with_reducible apply ih3
   | with_reducible apply ih4
   | with_reducible apply slices_Contains_int_int.mono
   | (with_reducible exact LeO.refl _)
   | (with_reducible exact LeO.none _)
   | (with_reducible refine LeO.ite ?_ ?_)
   | (with_reducible refine LeO.bind ?_ (fun _ => ?_))
   | apply ih0
   | apply ih1
   | apply ih2
   | apply ih3
   | apply ih4
   | apply slices_Contains_int_int.mono
   | exact LeO.none _
   | refine LeO.ite ?_ ?_
   | refine LeO.bind ?_ (fun _ => ?_)
  ·intro y0 y1 y2 y3 y4 y5 y6
   unfold impl_isHeap.l0
   repeat' first
   | with_reducible apply ih0
   | with_reducible apply ih1
   | with_reducible apply ih2
   | with_reducible apply ih3
   | with_reducible apply ih4
   | with_reducible apply slices_Contains_int_int.mono
   | (with_reducible exact LeO.refl _)
   | (with_reducible exact LeO.none _)
   | (with_reducible refine LeO.ite ?_ ?_)
   | (with_reducible refine LeO.bind ?_ (fun _ => ?_))
   | apply ih0
   | apply ih1
   | apply ih2
   | apply ih3
   | apply ih4
   | apply slices_Contains_int_int.mono
   | exact LeO.none _
   | refine LeO.ite ?_ ?_
   | refine LeO.bind ?_ (fun _ => ?_)
  ·intro y0 y1 y2 y3 y4 y5 y6 y7 y8 y9 y10
   unfold impl_isHeap.j2
   repeat' first
   | with_reducible apply ih0
   | with_reducible apply ih1
   | with_reducible apply ih2
   | with_reducible apply ih3
   | with_reducible apply ih4
   | with_reducible apply slices_Contains_int_int.mono
   | (with_reducible exact LeO.refl _)
   | (with_reducible exact LeO.none _)
   | (with_reducible refine LeO.ite ?_ ?_)
   | (with_reducible refine LeO.bind ?_ (fun _ => ?_))
   | apply ih0
   | apply ih1
   | apply ih2
   | apply ih3
   | apply ih4
   | apply slices_Contains_int_int.mono
   | exact LeO.none _
   | refine LeO.ite ?_ ?_
   | refine LeO.bind ?_ (fun _ => ?_)
  ·intro y0 y1 y2 y3 y4 y5 y6 y7 y8 y9 y10 y11 y12
   unfold impl_isHeap.l1
   repeat' first
   | with_reducible apply ih0
   | with_reducible apply ih1
   | with_reducible apply ih2
   | with_reducible apply ih3
   | with_reducible apply ih4
   | with_reducible apply slices_Contains_int_int.mono
   | (with_reducible exact LeO.refl _)
   | (with_reducible exact LeO.none _)
   | (with_reducible refine LeO.ite ?_ ?_)
   | (with_reducible refine LeO.bind ?_ (fun _ => ?_))
   | apply ih0
   | apply ih1
   | apply ih2
   | apply ih3
   | apply ih4
   | apply slices_Contains_int_int.mono
   | exact LeO.none _
   | refine LeO.ite ?_ ?_
   | refine LeO.bind ?_ (fun _ => ?_)
  ·intro y0 y1 y2 y3 y4 y5 y6
   unfold impl_isHeap.l2
   repeat' first
   | with_reducible apply ih0
   | with_reducible apply ih1
   | with_reducible apply ih2
   | with_reducible apply ih3
   | with_reducible apply ih4
   | with_reducible apply slices_Contains_int_int.mono
   | (with_reducible exact LeO.refl _)
   | (with_reducible exact LeO.none _)
   | (with_reducible refine LeO.ite ?_ ?_)
   | (with_reducible refine LeO.bind ?_ (fun _ => ?_))
   | apply ih0
   | apply ih1
   | apply ih2
   | apply ih3
   | apply ih4
   | apply slices_Contains_int_int.mono
   | exact LeO.none _
   | refine LeO.ite ?_ ?_
   | refine LeO.bind ?_ (fun _ => ?_)
theorem impl_isHeap.mono : ∀ a0 a1 a2 a3 k, LeO (impl_isHeap.f k a0 a1 a2 a3) (impl_isHeap.f (k + 1) a0 a1 a2 a3) := by
 intro a0 a1 a2 a3 k
 obtain ⟨ih0, ih1, ih2, ih3, ih4⟩ := impl_isHeap.mono_l k
 unfold impl_isHeap.f
 repeat' first
   | with_reducible apply ih0
   | with_reducible apply ih1
   | with_reducible apply ih2
   | with_reducible apply ih3
   | with_reducible apply ih4
   | with_reducible apply slices_Contains_int_int.mono
   | (with_reducible exact LeO.refl _)
   | (with_reducible exact LeO.none _)
   | (with_reducible refine LeO.ite ?_ ?_)
   | (with_reducible refine LeO.bind ?_ (fun _ => ?_))
   | apply ih0
   | apply ih1
   | apply ih2
   | apply ih3
   | apply ih4
   | apply slices_Contains_int_int.mono
   | exact LeO.none _
   | refine LeO.ite ?_ ?_
   | refine LeO.bind ?_ (fun _ => ?_)
set_option maxHeartbeats 8000000 in
set_option maxRecDepth 100000 in
theorem impl_isHeap.calls (k : Nat) (A0_0 : Option Addr) (c0_0 : Nat) (l0_0 : List (S45)) (A0_1 : Option Addr) (c0_1 : Nat) (l0_1 : List Int) (A0_2 : Option Addr) (c0_2 : Nat) (l0_2 : List Int) (a0_3 : Int) (r : Bool) (w : World) (hr0_0 : Kd.C k45 w A0_0 l0_0.length l0_0) (hc0_0 : l0_0.length ≤ c0_0) (hr0_1 : Kd.C (Kd.int .i64) w A0_1 l0_1.length l0_1) (hc0_1 : l0_1.length ≤ c0_1) (hr0_2 : Kd.C (Kd.int .i64) w A0_2 l0_2.length l0_2) (hc0_2 : l0_2.length ≤ c0_2) (h : impl_isHeap.f k l0_0 l0_1 l0_2 a0_3 = some r) :
  Calls Try.prog 42 #[.agg #[.slice A0_0 l0_0.length c0_0, .slice A0_1 l0_1.length c0_1, .slice A0_2 l0_2.length c0_2, .int .i64 a0_3]] w fun e w' => e = .returned (.bool r) ∧ Below w.heap.size w w' := by
 have hu25 := Try.underlying25
 have hu45 := Try.underlying45
 have HR0_0 := Aside0.mk hr0_0
 have HC0_0 := Aside0.mk hc0_0
 clear hr0_0 hc0_0
 have HR0_1 := Aside0.mk hr0_1
 have HC0_1 := Aside0.mk hc0_1
 clear hr0_1 hc0_1
 have HR0_2 := Aside0.mk hr0_2
 have HC0_2 := Aside0.mk hc0_2
 clear hr0_2 hc0_2
 have HB := Aside0.mk (Below.refl w.heap.size w)
 have H : (if (l0_0.length : Int) > 24 then (impl_isHeap.j0 k true l0_0 l0_1 l0_2 a0_3) else (if (l0_1.length : Int) = 6 then ((impl_in.f a0_3 0 1000).bind fun t240 => (impl_isHeap.j0 k (!t240) l0_0 l0_1 l0_2 a0_3)) else (impl_isHeap.j0 k true l0_0 l0_1 l0_2 a0_3))) = some r := h
 clear h
 have HC2 := Aside0.mk H
 clear H
 go_enter Try.func42, Try.ntmps42
 go_upto_region 1 with (first | ((with_reducible refine gate_dst (N := 1) rfl ?_); (try (refine gate_guard (by rfl) ?_; dsimp only)); refine bxe 1 #[.slice A0_0 l0_0.length c0_0, .slice A0_1 l0_1.length c0_1, .slice A0_2 l0_2.length c0_2, .int .i64 a0_3] 25 ?_; intro gb239 hg w3 hbox hb; have n0_ := Aside0.mk (below_step lB hb); have n1_ := Aside0.mk (hbox); have n2_ := lG w hg; have n3_ := lG w hg; clear HB; have HB := n0_; have BK239 := n1_; have GW239 := n2_; have GE239 := n3_; clear n0_ n1_ n2_ n3_; clear hb hbox hg))
 repeat (go_quiet (fail); go_upto_region 1 with (first | ((with_reducible refine gate_dst (N := 1) rfl ?_); (try (refine gate_guard (by rfl) ?_; dsimp only)); refine bxe 1 #[.slice A0_0 l0_0.length c0_0, .slice A0_1 l0_1.length c0_1, .slice A0_2 l0_2.length c0_2, .int .i64 a0_3] 25 ?_; intro gb239 hg w3 hbox hb; have n0_ := Aside0.mk (below_step lB hb); have n1_ := Aside0.mk (hbox); have n2_ := lG w hg; have n3_ := lG w hg; clear HB; have HB := n0_; have BK239 := n1_; have GW239 := n2_; have GE239 := n3_; clear n0_ n1_ n2_ n3_; clear hb hbox hg)))
 (try simp only [Act.put, List.setIfInBounds_toArray, List.set_cons_zero, List.set_cons_succ])
 go_cut [24] (fun v24 wc => ∃ (kq : Nat) (x24_1 : Bool), v24 = .bool x24_1 ∧ Aside0 (impl_isHeap.j0 kq x24_1 l0_0 l0_1 l0_2 a0_3 = some r) ∧ Aside0 (kq ≤ k) ∧ Aside0 (wc.heap[gb239]? = some (.cells #[(.slice A0_0 l0_0.length c0_0), (.slice A0_1 l0_1.length c0_1), (.slice A0_2 l0_2.length c0_2), .int .i64 a0_3] 25 (0, 0))) ∧ Aside0 (Below w.heap.size w wc))
 case first =>
  have H := HC2.out
  clear HC2
  by_cases c4 : (l0_0.length : Int) > 24
  ·rw [if_pos c4] at H
   have c4b0 : decide (24 < (l0_0.length : Int)) = true := decide_eq_true c4
   have c4b1 : decide (24 < l0_0.length) = true := decide_eq_true (by omega)
   clear c4
   (first | rw [c4b0] | (simp only [i64_w, i32_w]; rw [c4b0]) | skip)
   have H' := Aside0.mk H
   clear H
   obtain ⟨hcz5_0, hfz5_0, hcz5_1, hfz5_1, hcz5_2, hfz5_2, hcz5_3, hfz5_3⟩ := bk4 BK239.out
   go_wp2
   repeat (go_quiet (fail); try go_wp2)
   go_meet
   case rel => exact ⟨_, (true), lF, H', ⟨lN⟩, ⟨lK BK239.out⟩, ⟨lB⟩⟩
  ·rw [if_neg c4] at H
   have c4b0 : decide (24 < (l0_0.length : Int)) = false := decide_eq_false c4
   have c4b1 : decide (24 < l0_0.length) = false := decide_eq_false (by omega)
   clear c4
   (first | rw [c4b0] | (simp only [i64_w, i32_w]; rw [c4b0]) | skip)
   by_cases c6 : (l0_1.length : Int) = 6
   ·rw [if_pos c6] at H
    have c6b0 : ((l0_1.length : Int) == 6) = true := beq_iff_eq.mpr c6
    have c6b1 : ((l0_1.length : Int) != 6) = false := bne_eq_false_iff_eq.mpr c6
    clear c6
    replace H := lO H
    obtain ⟨t240, A7, H⟩ := H
    have H' := Aside0.mk H
    clear H
    obtain ⟨hcz8_0, hfz8_0, hcz8_1, hfz8_1, hcz8_2, hfz8_2, hcz8_3, hfz8_3⟩ := bk4 BK239.out
    go_wp2_with (first | (go_at_call 54; (with_reducible refine (impl_in.calls a0_3 0 1000 t240 _ A7.out).mono ?_); rintro e w' ⟨rfl, ⟨nd, rfl⟩⟩; (try first | exact ⟨rfl, _, World.drewN_drewN _ _ _⟩ | exact ⟨rfl, _, Eq.trans (World.drewN_drewN _ _ _) (congrArg (World.drewN _) (Nat.add_assoc _ _ _))⟩)))
    repeat (go_quiet (first | (go_at_call 54; (with_reducible refine (impl_in.calls a0_3 0 1000 t240 _ A7.out).mono ?_); rintro e w' ⟨rfl, ⟨nd, rfl⟩⟩; (try first | exact ⟨rfl, _, World.drewN_drewN _ _ _⟩ | exact ⟨rfl, _, Eq.trans (World.drewN_drewN _ _ _) (congrArg (World.drewN _) (Nat.add_assoc _ _ _))⟩))); try go_wp2_with (first | (go_at_call 54; (with_reducible refine (impl_in.calls a0_3 0 1000 t240 _ A7.out).mono ?_); rintro e w' ⟨rfl, ⟨nd, rfl⟩⟩; (try first | exact ⟨rfl, _, World.drewN_drewN _ _ _⟩ | exact ⟨rfl, _, Eq.trans (World.drewN_drewN _ _ _) (congrArg (World.drewN _) (Nat.add_assoc _ _ _))⟩))))
    go_meet
    case rel => exact ⟨_, (!t240), lF, H', ⟨lN⟩, ⟨lK BK239.out⟩, ⟨lB⟩⟩
   ·rw [if_neg c6] at H
    have c6b0 : ((l0_1.length : Int) == 6) = false := beq_eq_false_iff_ne.mpr c6
    have c6b1 : ((l0_1.length : Int) != 6) = true := bne_iff_ne.mpr c6
    have H' := Aside0.mk H
    clear H
    obtain ⟨hcz9_0, hfz9_0, hcz9_1, hfz9_1, hcz9_2, hfz9_2, hcz9_3, hfz9_3⟩ := bk4 BK239.out
    go_wp2
    repeat (go_quiet (fail); try go_wp2)
    go_meet
    case rel => exact ⟨_, (true), lF, H', ⟨lN⟩, ⟨lK BK239.out⟩, ⟨lB⟩⟩
 case rest =>
  clear HC2
  try clear p2
  try clear c4
  try clear c4b0
  try clear c4b1
  try clear c6
  try clear c6b0
  try clear c6b1
  try clear hcz5_0 hcz5_1 hcz5_2 hcz5_3
  try clear hcz8_0 hcz8_1 hcz8_2 hcz8_3
  try clear hcz9_0 hcz9_1 hcz9_2 hcz9_3
  try clear hfz5_0 hfz5_1 hfz5_2 hfz5_3
  try clear hfz8_0 hfz8_1 hfz8_2 hfz8_3
  try clear hfz9_0 hfz9_1 hfz9_2 hfz9_3
  obtain ⟨kq, x24_1, rfl, HA, HJ1, BK239, HB⟩ := hcut
  cases kq with
  | zero => exact absurd HA.out (by simp [impl_isHeap.j0])
  | succ kj1 =>
   have H := HA.out
   clear HA
   simp only [impl_isHeap.j0] at H
   by_cases c10 : x24_1 = true
   ·subst c10
    rw [if_pos rfl] at H
    obtain rfl := Option.some.inj H
    go_wp2
    repeat (go_quiet (fail); try go_wp2)
    go_ret
    exact ⟨lE, lB⟩
   ·replace c10 := Bool.eq_false_iff.mpr c10
    subst c10
    rw [if_neg (show ¬ (false = true) by decide)] at H
    have H' := Aside0.mk H
    clear H
    obtain ⟨hcz11_0, hfz11_0, hcz11_1, hfz11_1, hcz11_2, hfz11_2, hcz11_3, hfz11_3⟩ := bk4 BK239.out
    go_wp2
    repeat (go_quiet (fail); try go_wp2)
    go_loopg [28] kj1 (fun kq v28 w' => ∃ (x28_2 : Int), v28 = .int .i64 x28_2 ∧ Aside0 (impl_isHeap.l0 kq l0_0 (l0_0.length : Int) x28_2 l0_0 l0_1 l0_2 a0_3 = some r) ∧ Aside0 (kq ≤ kj1) ∧ Aside0 (w'.heap[gb239]? = some (.cells #[(.slice A0_0 l0_0.length c0_0), (.slice A0_1 l0_1.length c0_1), (.slice A0_2 l0_2.length c0_2), .int .i64 a0_3] 25 (0, 0))) ∧ Aside0 (Below w.heap.size w w'))
    case atStart => exact ⟨(0), lF, H', ⟨Nat.le_refl _⟩, ⟨lK BK239.out⟩, ⟨lB⟩⟩
    case round =>
     clear H'
     try clear c1
     try clear p2
     try clear c4
     try clear c4b0
     try clear c4b1
     try clear c6
     try clear c6b0
     try clear c6b1
     try clear c10
     try clear hcz11_0 hcz11_1 hcz11_2 hcz11_3
     try clear hcz5_0 hcz5_1 hcz5_2 hcz5_3
     try clear hcz8_0 hcz8_1 hcz8_2 hcz8_3
     try clear hcz9_0 hcz9_1 hcz9_2 hcz9_3
     try clear hfz11_0 hfz11_1 hfz11_2 hfz11_3
     try clear hfz5_0 hfz5_1 hfz5_2 hfz5_3
     try clear hfz8_0 hfz8_1 hfz8_2 hfz8_3
     try clear hfz9_0 hfz9_1 hfz9_2 hfz9_3
     try clear p2
     obtain ⟨x28_2, rfl, HA, HK2, BK239, HB⟩ := hrel
     cases gk with
     | zero => exact absurd HA.out (by simp [impl_isHeap.l0])
     | succ k2 =>
      have H := HA.out
      clear HA
      simp only [impl_isHeap.l0] at H
      by_cases c12 : x28_2 < (l0_0.length : Int)
      ·rw [if_pos c12] at H
       have c12b0 : decide (x28_2 < (l0_0.length : Int)) = true := decide_eq_true c12
       clear c12
       by_cases c13 : 0 ≤ x28_2
       ·rw [if_pos c13] at H
        have c13b0 : decide (0 ≤ x28_2) = true := decide_eq_true c13
        clear c13
        by_cases c14 : x28_2 < (l0_0.length : Int)
        ·rw [if_pos c14] at H
         have c14b0 : decide (x28_2 < (l0_0.length : Int)) = true := decide_eq_true c14
         clear c14
         have HC15 := Aside0.mk H
         clear H
         have p241 : 0 ≤ (x28_2 : Int) := lD
         have q241 : x28_2 < (l0_0.length : Int) := lD
         obtain ⟨ad241, A241_2, c241_2, e241, hx241_0, hx241_1, hx241_2, hl241_2, hi241_2⟩ := at_T45 HR0_0.out x28_2 p241 q241
         cases e241
         replace hx241_0 := pw_cell_below HB.out hx241_0
         replace hx241_1 := pw_cell_below HB.out hx241_1
         replace hx241_2 := pw_cell_below HB.out hx241_2
         have HR241_2 := Aside0.mk hi241_2
         have HC241_2 := Aside0.mk hl241_2
         clear hi241_2 hl241_2
         replace p241 := eq_true p241
         replace q241 := eq_true q241
         go_upto_region 6 with (first | ((with_reducible refine gate_dst (N := 4) rfl ?_); (try (refine gate_guard (by rfl) ?_; dsimp only)); refine bxe 4 #[.int .i64 0, .bool false, .slice none 0 0] 45 ?_; intro gb242 hg w16 hbox hb; have n0_ := Aside0.mk (blk_below (lK BK239.out) hb); have n1_ := Aside0.mk (below_step lB hb); have n2_ := Aside0.mk (hbox); have n3_ := lG w hg; have n4_ := lG w hg; have n5_ := Aside0.mk ((by rw [hg]; exact Nat.ne_of_lt (blk_lt (lK BK239.out)) : gb239 ≠ gb242)); have n6_ := Aside0.mk ((by rw [hg]; exact Nat.ne_of_gt (blk_lt (lK BK239.out)) : gb242 ≠ gb239)); clear BK239; clear HB; have BK239 := n0_; have HB := n1_; have BK242 := n2_; have GW242 := n3_; have GE242 := n4_; have NB239_242 := n5_; have NB242_239 := n6_; clear n0_ n1_ n2_ n3_ n4_ n5_ n6_; clear hb hbox hg; have hnb17 := NB242_239.out; have hnc17 := NB239_242.out; obtain ⟨hcz18_0, hfz18_0, hcz18_1, hfz18_1, hcz18_2, hfz18_2⟩ := bk3 BK242.out))
         repeat (go_quiet (fail); go_upto_region 6 with (first | ((with_reducible refine gate_dst (N := 4) rfl ?_); (try (refine gate_guard (by rfl) ?_; dsimp only)); refine bxe 4 #[.int .i64 0, .bool false, .slice none 0 0] 45 ?_; intro gb242 hg w16 hbox hb; have n0_ := Aside0.mk (blk_below (lK BK239.out) hb); have n1_ := Aside0.mk (below_step lB hb); have n2_ := Aside0.mk (hbox); have n3_ := lG w hg; have n4_ := lG w hg; have n5_ := Aside0.mk ((by rw [hg]; exact Nat.ne_of_lt (blk_lt (lK BK239.out)) : gb239 ≠ gb242)); have n6_ := Aside0.mk ((by rw [hg]; exact Nat.ne_of_gt (blk_lt (lK BK239.out)) : gb242 ≠ gb239)); clear BK239; clear HB; have BK239 := n0_; have HB := n1_; have BK242 := n2_; have GW242 := n3_; have GE242 := n4_; have NB239_242 := n5_; have NB242_239 := n6_; clear n0_ n1_ n2_ n3_ n4_ n5_ n6_; clear hb hbox hg; have hnb17 := NB242_239.out; have hnc17 := NB239_242.out; obtain ⟨hcz18_0, hfz18_0, hcz18_1, hfz18_1, hcz18_2, hfz18_2⟩ := bk3 BK242.out)))
         (try simp only [Act.put, List.setIfInBounds_toArray, List.set_cons_zero, List.set_cons_succ])
         go_cut [61] (fun v61 wc => ∃ (kq : Nat) (x61_14 : Bool), v61 = .bool x61_14 ∧ Aside0 (impl_isHeap.j2 kq l0_0 (l0_0.length : Int) x28_2 x61_14 l0_0 l0_1 l0_2 a0_3 ((rd_T45 l0_0 x28_2).f0) ((rd_T45 l0_0 x28_2).f1) ((rd_T45 l0_0 x28_2).f2) = some r) ∧ Aside0 (kq ≤ k2) ∧ Aside0 (wc.heap[gb239]? = some (.cells #[(.slice (some ad241) l0_0.length c0_0), (.slice A0_1 l0_1.length c0_1), (.slice A0_2 l0_2.length c0_2), .int .i64 a0_3] 25 (0, 0))) ∧ Aside0 (wc.heap[gb242]? = some (.cells #[.int .i64 ((rd_T45 l0_0 x28_2).f0), .bool ((rd_T45 l0_0 x28_2).f1), (.slice A241_2 ((rd_T45 l0_0 x28_2).f2).length c241_2)] 45 (0, 0))) ∧ Aside0 (Below w.heap.size w wc))
         case first =>
          have H := HC15.out
          clear HC15
          replace H := lO H
          obtain ⟨t243, A19, H⟩ := H
          by_cases c20 : t243 = true
          ·subst c20
           rw [if_pos rfl] at H
           by_cases c21 : x28_2 > 0
           ·rw [if_pos c21] at H
            have c21b0 : decide (0 < x28_2) = true := decide_eq_true c21
            clear c21
            (first | rw [c21b0] | (simp only [i64_w, i32_w]; rw [c21b0]) | skip)
            obtain ⟨ji22, hji22⟩ : ∃ j_ : Int, (wrap64 (x28_2 - 1)) = j_ := ⟨_, rfl⟩
            replace H : (if 0 ≤ (ji22) then (if (ji22) < (l0_0.length : Int) then (if ((rd_T45 l0_0 (ji22)).f0) ≥ ((rd_T45 l0_0 x28_2).f0) then (impl_isHeap.j2 k2 l0_0 (l0_0.length : Int) x28_2 true l0_0 l0_1 l0_2 a0_3 ((rd_T45 l0_0 x28_2).f0) ((rd_T45 l0_0 x28_2).f1) ((rd_T45 l0_0 x28_2).f2)) else (impl_isHeap.j2 k2 l0_0 (l0_0.length : Int) x28_2 ((((rd_T45 l0_0 x28_2).f2).length : Int) != 2) l0_0 l0_1 l0_2 a0_3 ((rd_T45 l0_0 x28_2).f0) ((rd_T45 l0_0 x28_2).f1) ((rd_T45 l0_0 x28_2).f2))) else (none)) else (none)) = some r := by first | (rw [hji22] at H; exact H) | (simp only [hji22] at H ⊢; exact H)
            (try rw [hji22] at A19)
            have hji22w : (IntKind.i64.wrap (x28_2 - 1)) = ji22 := (i64_w _).trans hji22
            by_cases c23 : 0 ≤ (ji22)
            ·rw [if_pos c23] at H
             have c23b0 : decide (0 ≤ (ji22)) = true := decide_eq_true c23
             clear c23
             by_cases c24 : (ji22) < (l0_0.length : Int)
             ·rw [if_pos c24] at H
              have c24b0 : decide ((ji22) < (l0_0.length : Int)) = true := decide_eq_true c24
              clear c24
              by_cases c25 : ((rd_T45 l0_0 (ji22)).f0) ≥ ((rd_T45 l0_0 x28_2).f0)
              ·rw [if_pos c25] at H
               have c25b0 : decide (((rd_T45 l0_0 x28_2).f0) ≤ ((rd_T45 l0_0 (ji22)).f0)) = true := decide_eq_true c25
               clear c25
               have H' := Aside0.mk H
               clear H
               have hnb26 := NB242_239.out
               have hnc26 := NB239_242.out
               obtain ⟨hcz27_0, hfz27_0, hcz27_1, hfz27_1, hcz27_2, hfz27_2⟩ := bk3 BK242.out
               obtain ⟨hcz28_0, hfz28_0, hcz28_1, hfz28_1, hcz28_2, hfz28_2, hcz28_3, hfz28_3⟩ := bk4 BK239.out
               have p244 : 0 ≤ ((ji22) : Int) := lD; have q244 : (ji22) < (l0_0.length : Int) := lD; obtain ⟨ad244, A244_2, c244_2, e244, hx244_0, hx244_1, hx244_2, hl244_2, hi244_2⟩ := at_T45 HR0_0.out (ji22) p244 q244; obtain rfl : ad241 = ad244 := (by injection e244); have hn244_0 : ad241.block ≠ gb242 := Nat.ne_of_lt (Nat.lt_of_lt_of_le (by have := World.block_lt_of_cell? _ _ hx244_0; first | rwa [add_block] at this | exact this) GW242.out); have hn244_1 : ad241.block ≠ gb242 := Nat.ne_of_lt (Nat.lt_of_lt_of_le (by have := World.block_lt_of_cell? _ _ hx244_0; first | rwa [add_block] at this | exact this) GW242.out); have hn244_2 : ad241.block ≠ gb242 := Nat.ne_of_lt (Nat.lt_of_lt_of_le (by have := World.block_lt_of_cell? _ _ hx244_0; first | rwa [add_block] at this | exact this) GW242.out); replace hx244_0 := pw_cell_below HB.out hx244_0; replace hx244_1 := pw_cell_below HB.out hx244_1; replace hx244_2 := pw_cell_below HB.out hx244_2; have HR244_2 := Aside0.mk hi244_2; have HC244_2 := Aside0.mk hl244_2; clear hi244_2 hl244_2; replace hx244_0 := (cell_far (p := ⟨gb242, 0, none⟩) (by first | (rw [add_block]; exact hn244_0) | (show (Addr.add _ _).block ≠ _; rw [add_block]; exact hn244_0) | exact hn244_0) (.int .i64 ((rd_T45 l0_0 x28_2).f0))).trans hx244_0; replace hx244_1 := (cell_far (p := ⟨gb242, 0, none⟩) (by first | (rw [add_block]; exact hn244_0) | (show (Addr.add _ _).block ≠ _; rw [add_block]; exact hn244_0) | exact hn244_0) (.int .i64 ((rd_T45 l0_0 x28_2).f0))).trans hx244_1; replace hx244_2 := (cell_far (p := ⟨gb242, 0, none⟩) (by first | (rw [add_block]; exact hn244_0) | (show (Addr.add _ _).block ≠ _; rw [add_block]; exact hn244_0) | exact hn244_0) (.int .i64 ((rd_T45 l0_0 x28_2).f0))).trans hx244_2; replace hx244_0 := (cell_far (p := ⟨gb242, 1, none⟩) (by first | (rw [add_block]; exact hn244_1) | (show (Addr.add _ _).block ≠ _; rw [add_block]; exact hn244_1) | exact hn244_1) (.bool ((rd_T45 l0_0 x28_2).f1))).trans hx244_0; replace hx244_1 := (cell_far (p := ⟨gb242, 1, none⟩) (by first | (rw [add_block]; exact hn244_1) | (show (Addr.add _ _).block ≠ _; rw [add_block]; exact hn244_1) | exact hn244_1) (.bool ((rd_T45 l0_0 x28_2).f1))).trans hx244_1; replace hx244_2 := (cell_far (p := ⟨gb242, 1, none⟩) (by first | (rw [add_block]; exact hn244_1) | (show (Addr.add _ _).block ≠ _; rw [add_block]; exact hn244_1) | exact hn244_1) (.bool ((rd_T45 l0_0 x28_2).f1))).trans hx244_2; replace hx244_0 := (cell_far (p := ⟨gb242, 2, none⟩) (by first | (rw [add_block]; exact hn244_2) | (show (Addr.add _ _).block ≠ _; rw [add_block]; exact hn244_2) | exact hn244_2) (.slice A241_2 ((rd_T45 l0_0 x28_2).f2).length c241_2)).trans hx244_0; replace hx244_1 := (cell_far (p := ⟨gb242, 2, none⟩) (by first | (rw [add_block]; exact hn244_2) | (show (Addr.add _ _).block ≠ _; rw [add_block]; exact hn244_2) | exact hn244_2) (.slice A241_2 ((rd_T45 l0_0 x28_2).f2).length c241_2)).trans hx244_1; replace hx244_2 := (cell_far (p := ⟨gb242, 2, none⟩) (by first | (rw [add_block]; exact hn244_2) | (show (Addr.add _ _).block ≠ _; rw [add_block]; exact hn244_2) | exact hn244_2) (.slice A241_2 ((rd_T45 l0_0 x28_2).f2).length c241_2)).trans hx244_2; (try have hy244_0 := fun (n_ : Nat) => (show (((((w16.drewN n_).setCell ⟨gb242, 0, none⟩ (.int .i64 ((rd_T45 l0_0 x28_2).f0))).setCell ⟨gb242, 1, none⟩ (.bool ((rd_T45 l0_0 x28_2).f1))).setCell ⟨gb242, 2, none⟩ (.slice A241_2 ((rd_T45 l0_0 x28_2).f2).length c241_2))).cell? _ = some _ from hx244_0)); (try have hy244_1 := fun (n_ : Nat) => (show (((((w16.drewN n_).setCell ⟨gb242, 0, none⟩ (.int .i64 ((rd_T45 l0_0 x28_2).f0))).setCell ⟨gb242, 1, none⟩ (.bool ((rd_T45 l0_0 x28_2).f1))).setCell ⟨gb242, 2, none⟩ (.slice A241_2 ((rd_T45 l0_0 x28_2).f2).length c241_2))).cell? _ = some _ from hx244_1)); (try have hy244_2 := fun (n_ : Nat) => (show (((((w16.drewN n_).setCell ⟨gb242, 0, none⟩ (.int .i64 ((rd_T45 l0_0 x28_2).f0))).setCell ⟨gb242, 1, none⟩ (.bool ((rd_T45 l0_0 x28_2).f1))).setCell ⟨gb242, 2, none⟩ (.slice A241_2 ((rd_T45 l0_0 x28_2).f2).length c241_2))).cell? _ = some _ from hx244_2)); clear hn244_0; clear hn244_1; clear hn244_2; replace p244 := eq_true p244; replace q244 := eq_true q244
               go_wp2_with (first | (go_at_call 54; (with_reducible refine (impl_in.calls ((rd_T45 l0_0 x28_2).f0) 0 (wrap64 (a0_3 - 1)) true _ A19.out).mono ?_); rintro e w' ⟨rfl, ⟨nd, rfl⟩⟩; (try first | exact ⟨rfl, _, World.drewN_drewN _ _ _⟩ | exact ⟨rfl, _, Eq.trans (World.drewN_drewN _ _ _) (congrArg (World.drewN _) (Nat.add_assoc _ _ _))⟩)))
               repeat (go_quiet (first | (go_at_call 54; (with_reducible refine (impl_in.calls ((rd_T45 l0_0 x28_2).f0) 0 (wrap64 (a0_3 - 1)) true _ A19.out).mono ?_); rintro e w' ⟨rfl, ⟨nd, rfl⟩⟩; (try first | exact ⟨rfl, _, World.drewN_drewN _ _ _⟩ | exact ⟨rfl, _, Eq.trans (World.drewN_drewN _ _ _) (congrArg (World.drewN _) (Nat.add_assoc _ _ _))⟩))); try go_wp2_with (first | (go_at_call 54; (with_reducible refine (impl_in.calls ((rd_T45 l0_0 x28_2).f0) 0 (wrap64 (a0_3 - 1)) true _ A19.out).mono ?_); rintro e w' ⟨rfl, ⟨nd, rfl⟩⟩; (try first | exact ⟨rfl, _, World.drewN_drewN _ _ _⟩ | exact ⟨rfl, _, Eq.trans (World.drewN_drewN _ _ _) (congrArg (World.drewN _) (Nat.add_assoc _ _ _))⟩))))
               go_meet
               case rel => exact ⟨_, (true), lF, H', ⟨by have := HJ1.out; have := HK2.out; first | omega | exact Nat.le_refl _⟩, ⟨lJ BK239.out⟩, ⟨by (with_reducible repeat first | apply bN | apply bD | apply bA); refine blk_put (cs := #[.int .i64 ((rd_T45 l0_0 x28_2).f0), .bool ((rd_T45 l0_0 x28_2).f1), .slice none 0 0]) ?_ 2 _ rfl; (with_reducible repeat first | apply bN | apply bD | apply bA); refine blk_put (cs := #[.int .i64 ((rd_T45 l0_0 x28_2).f0), .bool false, .slice none 0 0]) ?_ 1 _ rfl; (with_reducible repeat first | apply bN | apply bD | apply bA); refine blk_put (cs := #[.int .i64 0, .bool false, .slice none 0 0]) ?_ 0 _ rfl; (with_reducible repeat first | apply bN | apply bD | apply bA); exact BK242.out⟩, ⟨lB⟩⟩
              ·rw [if_neg c25] at H
               have c25b0 : decide (((rd_T45 l0_0 x28_2).f0) ≤ ((rd_T45 l0_0 (ji22)).f0)) = false := decide_eq_false c25
               clear c25
               have H' := Aside0.mk H
               clear H
               have hnb29 := NB242_239.out
               have hnc29 := NB239_242.out
               obtain ⟨hcz30_0, hfz30_0, hcz30_1, hfz30_1, hcz30_2, hfz30_2⟩ := bk3 BK242.out
               obtain ⟨hcz31_0, hfz31_0, hcz31_1, hfz31_1, hcz31_2, hfz31_2, hcz31_3, hfz31_3⟩ := bk4 BK239.out
               have p244 : 0 ≤ ((ji22) : Int) := lD; have q244 : (ji22) < (l0_0.length : Int) := lD; obtain ⟨ad244, A244_2, c244_2, e244, hx244_0, hx244_1, hx244_2, hl244_2, hi244_2⟩ := at_T45 HR0_0.out (ji22) p244 q244; obtain rfl : ad241 = ad244 := (by injection e244); have hn244_0 : ad241.block ≠ gb242 := Nat.ne_of_lt (Nat.lt_of_lt_of_le (by have := World.block_lt_of_cell? _ _ hx244_0; first | rwa [add_block] at this | exact this) GW242.out); have hn244_1 : ad241.block ≠ gb242 := Nat.ne_of_lt (Nat.lt_of_lt_of_le (by have := World.block_lt_of_cell? _ _ hx244_0; first | rwa [add_block] at this | exact this) GW242.out); have hn244_2 : ad241.block ≠ gb242 := Nat.ne_of_lt (Nat.lt_of_lt_of_le (by have := World.block_lt_of_cell? _ _ hx244_0; first | rwa [add_block] at this | exact this) GW242.out); replace hx244_0 := pw_cell_below HB.out hx244_0; replace hx244_1 := pw_cell_below HB.out hx244_1; replace hx244_2 := pw_cell_below HB.out hx244_2; have HR244_2 := Aside0.mk hi244_2; have HC244_2 := Aside0.mk hl244_2; clear hi244_2 hl244_2; replace hx244_0 := (cell_far (p := ⟨gb242, 0, none⟩) (by first | (rw [add_block]; exact hn244_0) | (show (Addr.add _ _).block ≠ _; rw [add_block]; exact hn244_0) | exact hn244_0) (.int .i64 ((rd_T45 l0_0 x28_2).f0))).trans hx244_0; replace hx244_1 := (cell_far (p := ⟨gb242, 0, none⟩) (by first | (rw [add_block]; exact hn244_0) | (show (Addr.add _ _).block ≠ _; rw [add_block]; exact hn244_0) | exact hn244_0) (.int .i64 ((rd_T45 l0_0 x28_2).f0))).trans hx244_1; replace hx244_2 := (cell_far (p := ⟨gb242, 0, none⟩) (by first | (rw [add_block]; exact hn244_0) | (show (Addr.add _ _).block ≠ _; rw [add_block]; exact hn244_0) | exact hn244_0) (.int .i64 ((rd_T45 l0_0 x28_2).f0))).trans hx244_2; replace hx244_0 := (cell_far (p := ⟨gb242, 1, none⟩) (by first | (rw [add_block]; exact hn244_1) | (show (Addr.add _ _).block ≠ _; rw [add_block]; exact hn244_1) | exact hn244_1) (.bool ((rd_T45 l0_0 x28_2).f1))).trans hx244_0; replace hx244_1 := (cell_far (p := ⟨gb242, 1, none⟩) (by first | (rw [add_block]; exact hn244_1) | (show (Addr.add _ _).block ≠ _; rw [add_block]; exact hn244_1) | exact hn244_1) (.bool ((rd_T45 l0_0 x28_2).f1))).trans hx244_1; replace hx244_2 := (cell_far (p := ⟨gb242, 1, none⟩) (by first | (rw [add_block]; exact hn244_1) | (show (Addr.add _ _).block ≠ _; rw [add_block]; exact hn244_1) | exact hn244_1) (.bool ((rd_T45 l0_0 x28_2).f1))).trans hx244_2; replace hx244_0 := (cell_far (p := ⟨gb242, 2, none⟩) (by first | (rw [add_block]; exact hn244_2) | (show (Addr.add _ _).block ≠ _; rw [add_block]; exact hn244_2) | exact hn244_2) (.slice A241_2 ((rd_T45 l0_0 x28_2).f2).length c241_2)).trans hx244_0; replace hx244_1 := (cell_far (p := ⟨gb242, 2, none⟩) (by first | (rw [add_block]; exact hn244_2) | (show (Addr.add _ _).block ≠ _; rw [add_block]; exact hn244_2) | exact hn244_2) (.slice A241_2 ((rd_T45 l0_0 x28_2).f2).length c241_2)).trans hx244_1; replace hx244_2 := (cell_far (p := ⟨gb242, 2, none⟩) (by first | (rw [add_block]; exact hn244_2) | (show (Addr.add _ _).block ≠ _; rw [add_block]; exact hn244_2) | exact hn244_2) (.slice A241_2 ((rd_T45 l0_0 x28_2).f2).length c241_2)).trans hx244_2; (try have hy244_0 := fun (n_ : Nat) => (show (((((w16.drewN n_).setCell ⟨gb242, 0, none⟩ (.int .i64 ((rd_T45 l0_0 x28_2).f0))).setCell ⟨gb242, 1, none⟩ (.bool ((rd_T45 l0_0 x28_2).f1))).setCell ⟨gb242, 2, none⟩ (.slice A241_2 ((rd_T45 l0_0 x28_2).f2).length c241_2))).cell? _ = some _ from hx244_0)); (try have hy244_1 := fun (n_ : Nat) => (show (((((w16.drewN n_).setCell ⟨gb242, 0, none⟩ (.int .i64 ((rd_T45 l0_0 x28_2).f0))).setCell ⟨gb242, 1, none⟩ (.bool ((rd_T45 l0_0 x28_2).f1))).setCell ⟨gb242, 2, none⟩ (.slice A241_2 ((rd_T45 l0_0 x28_2).f2).length c241_2))).cell? _ = some _ from hx244_1)); (try have hy244_2 := fun (n_ : Nat) => (show (((((w16.drewN n_).setCell ⟨gb242, 0, none⟩ (.int .i64 ((rd_T45 l0_0 x28_2).f0))).setCell ⟨gb242, 1, none⟩ (.bool ((rd_T45 l0_0 x28_2).f1))).setCell ⟨gb242, 2, none⟩ (.slice A241_2 ((rd_T45 l0_0 x28_2).f2).length c241_2))).cell? _ = some _ from hx244_2)); clear hn244_0; clear hn244_1; clear hn244_2; replace p244 := eq_true p244; replace q244 := eq_true q244
               go_wp2_with (first | (go_at_call 54; (with_reducible refine (impl_in.calls ((rd_T45 l0_0 x28_2).f0) 0 (wrap64 (a0_3 - 1)) true _ A19.out).mono ?_); rintro e w' ⟨rfl, ⟨nd, rfl⟩⟩; (try first | exact ⟨rfl, _, World.drewN_drewN _ _ _⟩ | exact ⟨rfl, _, Eq.trans (World.drewN_drewN _ _ _) (congrArg (World.drewN _) (Nat.add_assoc _ _ _))⟩)))
               repeat (go_quiet (first | (go_at_call 54; (with_reducible refine (impl_in.calls ((rd_T45 l0_0 x28_2).f0) 0 (wrap64 (a0_3 - 1)) true _ A19.out).mono ?_); rintro e w' ⟨rfl, ⟨nd, rfl⟩⟩; (try first | exact ⟨rfl, _, World.drewN_drewN _ _ _⟩ | exact ⟨rfl, _, Eq.trans (World.drewN_drewN _ _ _) (congrArg (World.drewN _) (Nat.add_assoc _ _ _))⟩))); try go_wp2_with (first | (go_at_call 54; (with_reducible refine (impl_in.calls ((rd_T45 l0_0 x28_2).f0) 0 (wrap64 (a0_3 - 1)) true _ A19.out).mono ?_); rintro e w' ⟨rfl, ⟨nd, rfl⟩⟩; (try first | exact ⟨rfl, _, World.drewN_drewN _ _ _⟩ | exact ⟨rfl, _, Eq.trans (World.drewN_drewN _ _ _) (congrArg (World.drewN _) (Nat.add_assoc _ _ _))⟩))))
               go_meet
               case rel => exact ⟨_, (((((rd_T45 l0_0 x28_2).f2).length : Int) != 2)), lF, H', ⟨by have := HJ1.out; have := HK2.out; first | omega | exact Nat.le_refl _⟩, ⟨lJ BK239.out⟩, ⟨by (with_reducible repeat first | apply bN | apply bD | apply bA); refine blk_put (cs := #[.int .i64 ((rd_T45 l0_0 x28_2).f0), .bool ((rd_T45 l0_0 x28_2).f1), .slice none 0 0]) ?_ 2 _ rfl; (with_reducible repeat first | apply bN | apply bD | apply bA); refine blk_put (cs := #[.int .i64 ((rd_T45 l0_0 x28_2).f0), .bool false, .slice none 0 0]) ?_ 1 _ rfl; (with_reducible repeat first | apply bN | apply bD | apply bA); refine blk_put (cs := #[.int .i64 0, .bool false, .slice none 0 0]) ?_ 0 _ rfl; (with_reducible repeat first | apply bN | apply bD | apply bA); exact BK242.out⟩, ⟨lB⟩⟩
             ·rw [if_neg c24] at H
              exact absurd H (by simp)
            ·rw [if_neg c23] at H
             exact absurd H (by simp)
           ·rw [if_neg c21] at H
            have c21b0 : decide (0 < x28_2) = false := decide_eq_false c21
            clear c21
            (first | rw [c21b0] | (simp only [i64_w, i32_w]; rw [c21b0]) | skip)
            have H' := Aside0.mk H
            clear H
            have hnb32 := NB242_239.out
            have hnc32 := NB239_242.out
            obtain ⟨hcz33_0, hfz33_0, hcz33_1, hfz33_1, hcz33_2, hfz33_2⟩ := bk3 BK242.out
            obtain ⟨hcz34_0, hfz34_0, hcz34_1, hfz34_1, hcz34_2, hfz34_2, hcz34_3, hfz34_3⟩ := bk4 BK239.out
            go_wp2_with (first | (go_at_call 54; (with_reducible refine (impl_in.calls ((rd_T45 l0_0 x28_2).f0) 0 (wrap64 (a0_3 - 1)) true _ A19.out).mono ?_); rintro e w' ⟨rfl, ⟨nd, rfl⟩⟩; (try first | exact ⟨rfl, _, World.drewN_drewN _ _ _⟩ | exact ⟨rfl, _, Eq.trans (World.drewN_drewN _ _ _) (congrArg (World.drewN _) (Nat.add_assoc _ _ _))⟩)))
            repeat (go_quiet (first | (go_at_call 54; (with_reducible refine (impl_in.calls ((rd_T45 l0_0 x28_2).f0) 0 (wrap64 (a0_3 - 1)) true _ A19.out).mono ?_); rintro e w' ⟨rfl, ⟨nd, rfl⟩⟩; (try first | exact ⟨rfl, _, World.drewN_drewN _ _ _⟩ | exact ⟨rfl, _, Eq.trans (World.drewN_drewN _ _ _) (congrArg (World.drewN _) (Nat.add_assoc _ _ _))⟩))); try go_wp2_with (first | (go_at_call 54; (with_reducible refine (impl_in.calls ((rd_T45 l0_0 x28_2).f0) 0 (wrap64 (a0_3 - 1)) true _ A19.out).mono ?_); rintro e w' ⟨rfl, ⟨nd, rfl⟩⟩; (try first | exact ⟨rfl, _, World.drewN_drewN _ _ _⟩ | exact ⟨rfl, _, Eq.trans (World.drewN_drewN _ _ _) (congrArg (World.drewN _) (Nat.add_assoc _ _ _))⟩))))
            go_meet
            case rel => exact ⟨_, (((((rd_T45 l0_0 x28_2).f2).length : Int) != 2)), lF, H', ⟨by have := HJ1.out; have := HK2.out; first | omega | exact Nat.le_refl _⟩, ⟨lJ BK239.out⟩, ⟨by (with_reducible repeat first | apply bN | apply bD | apply bA); refine blk_put (cs := #[.int .i64 ((rd_T45 l0_0 x28_2).f0), .bool ((rd_T45 l0_0 x28_2).f1), .slice none 0 0]) ?_ 2 _ rfl; (with_reducible repeat first | apply bN | apply bD | apply bA); refine blk_put (cs := #[.int .i64 ((rd_T45 l0_0 x28_2).f0), .bool false, .slice none 0 0]) ?_ 1 _ rfl; (with_reducible repeat first | apply bN | apply bD | apply bA); refine blk_put (cs := #[.int .i64 0, .bool false, .slice none 0 0]) ?_ 0 _ rfl; (with_reducible repeat first | apply bN | apply bD | apply bA); exact BK242.out⟩, ⟨lB⟩⟩
          ·replace c20 := Bool.eq_false_iff.mpr c20
           subst c20
           rw [if_neg (show ¬ (false = true) by decide)] at H
           have H' := Aside0.mk H
           clear H
           have hnb35 := NB242_239.out
           have hnc35 := NB239_242.out
           obtain ⟨hcz36_0, hfz36_0, hcz36_1, hfz36_1, hcz36_2, hfz36_2⟩ := bk3 BK242.out
           obtain ⟨hcz37_0, hfz37_0, hcz37_1, hfz37_1, hcz37_2, hfz37_2, hcz37_3, hfz37_3⟩ := bk4 BK239.out
           go_wp2_with (first | (go_at_call 54; (with_reducible refine (impl_in.calls ((rd_T45 l0_0 x28_2).f0) 0 (wrap64 (a0_3 - 1)) false _ A19.out).mono ?_); rintro e w' ⟨rfl, ⟨nd, rfl⟩⟩; (try first | exact ⟨rfl, _, World.drewN_drewN _ _ _⟩ | exact ⟨rfl, _, Eq.trans (World.drewN_drewN _ _ _) (congrArg (World.drewN _) (Nat.add_assoc _ _ _))⟩)))
           repeat (go_quiet (first | (go_at_call 54; (with_reducible refine (impl_in.calls ((rd_T45 l0_0 x28_2).f0) 0 (wrap64 (a0_3 - 1)) false _ A19.out).mono ?_); rintro e w' ⟨rfl, ⟨nd, rfl⟩⟩; (try first | exact ⟨rfl, _, World.drewN_drewN _ _ _⟩ | exact ⟨rfl, _, Eq.trans (World.drewN_drewN _ _ _) (congrArg (World.drewN _) (Nat.add_assoc _ _ _))⟩))); try go_wp2_with (first | (go_at_call 54; (with_reducible refine (impl_in.calls ((rd_T45 l0_0 x28_2).f0) 0 (wrap64 (a0_3 - 1)) false _ A19.out).mono ?_); rintro e w' ⟨rfl, ⟨nd, rfl⟩⟩; (try first | exact ⟨rfl, _, World.drewN_drewN _ _ _⟩ | exact ⟨rfl, _, Eq.trans (World.drewN_drewN _ _ _) (congrArg (World.drewN _) (Nat.add_assoc _ _ _))⟩))))
           go_meet
           case rel => exact ⟨_, (true), lF, H', ⟨by have := HJ1.out; have := HK2.out; first | omega | exact Nat.le_refl _⟩, ⟨lJ BK239.out⟩, ⟨by (with_reducible repeat first | apply bN | apply bD | apply bA); refine blk_put (cs := #[.int .i64 ((rd_T45 l0_0 x28_2).f0), .bool ((rd_T45 l0_0 x28_2).f1), .slice none 0 0]) ?_ 2 _ rfl; (with_reducible repeat first | apply bN | apply bD | apply bA); refine blk_put (cs := #[.int .i64 ((rd_T45 l0_0 x28_2).f0), .bool false, .slice none 0 0]) ?_ 1 _ rfl; (with_reducible repeat first | apply bN | apply bD | apply bA); refine blk_put (cs := #[.int .i64 0, .bool false, .slice none 0 0]) ?_ 0 _ rfl; (with_reducible repeat first | apply bN | apply bD | apply bA); exact BK242.out⟩, ⟨lB⟩⟩
         case rest =>
          clear HC15
          try clear c1
          try clear c2
          try clear p2
          try clear q2
          try clear hx2
          try clear c3
          try clear c4
          try clear c4b0
          try clear c4b1
          try clear c6
          try clear c6b0
          try clear c6b1
          try clear p6
          try clear c10
          try clear c12
          try clear c12b0
          try clear c13
          try clear c13b0
          try clear c14
          try clear c14b0
          try clear c17
          try clear c20
          try clear c21
          try clear c21b0
          try clear c23
          try clear c23b0
          try clear c24
          try clear c24b0
          try clear p24
          try clear q24
          try clear hx24
          try clear c25
          try clear c25b0
          try clear c26
          try clear c29
          try clear c32
          try clear c35
          try clear hcz11_0 hcz11_1 hcz11_2 hcz11_3
          try clear hcz18_0 hcz18_1 hcz18_2
          try clear hcz27_0 hcz27_1 hcz27_2
          try clear hcz28_0 hcz28_1 hcz28_2 hcz28_3
          try clear hcz30_0 hcz30_1 hcz30_2
          try clear hcz31_0 hcz31_1 hcz31_2 hcz31_3
          try clear hcz33_0 hcz33_1 hcz33_2
          try clear hcz34_0 hcz34_1 hcz34_2 hcz34_3
          try clear hcz36_0 hcz36_1 hcz36_2
          try clear hcz37_0 hcz37_1 hcz37_2 hcz37_3
          try clear hcz5_0 hcz5_1 hcz5_2 hcz5_3
          try clear hcz8_0 hcz8_1 hcz8_2 hcz8_3
          try clear hcz9_0 hcz9_1 hcz9_2 hcz9_3
          try clear hfz11_0 hfz11_1 hfz11_2 hfz11_3
          try clear hfz18_0 hfz18_1 hfz18_2
          try clear hfz27_0 hfz27_1 hfz27_2
          try clear hfz28_0 hfz28_1 hfz28_2 hfz28_3
          try clear hfz30_0 hfz30_1 hfz30_2
          try clear hfz31_0 hfz31_1 hfz31_2 hfz31_3
          try clear hfz33_0 hfz33_1 hfz33_2
          try clear hfz34_0 hfz34_1 hfz34_2 hfz34_3
          try clear hfz36_0 hfz36_1 hfz36_2
          try clear hfz37_0 hfz37_1 hfz37_2 hfz37_3
          try clear hfz5_0 hfz5_1 hfz5_2 hfz5_3
          try clear hfz8_0 hfz8_1 hfz8_2 hfz8_3
          try clear hfz9_0 hfz9_1 hfz9_2 hfz9_3
          try clear hx241_0
          try clear hx241_1
          try clear hx241_2
          try clear hx244_0
          try clear hx244_1
          try clear hx244_2
          try clear p2
          try clear p241
          try clear p244
          try clear q241
          try clear q244
          obtain ⟨kq, x61_14, rfl, HA, HJ14, BK239, BK242, HB⟩ := hcut
          cases kq with
          | zero => exact absurd HA.out (by simp [impl_isHeap.j2])
          | succ kj14 =>
           have H := HA.out
           clear HA
           simp only [impl_isHeap.j2] at H
           by_cases c38 : x61_14 = true
           ·subst c38
            rw [if_pos rfl] at H
            obtain rfl := Option.some.inj H
            go_wp2
            repeat (go_quiet (fail); try go_wp2)
            go_ret
            exact ⟨lE, lB⟩
           ·replace c38 := Bool.eq_false_iff.mpr c38
            subst c38
            rw [if_neg (show ¬ (false = true) by decide)] at H
            have H' := Aside0.mk H
            clear H
            have hnb39 := NB242_239.out
            have hnc39 := NB239_242.out
            obtain ⟨hcz40_0, hfz40_0, hcz40_1, hfz40_1, hcz40_2, hfz40_2⟩ := bk3 BK242.out
            go_wp2
            repeat (go_quiet (fail); try go_wp2)
            go_loopg [65] kj14 (fun kq v65 w' => ∃ (x65_4 : Int), v65 = .int .i64 x65_4 ∧ Aside0 (impl_isHeap.l1 kq l0_0 (l0_0.length : Int) x28_2 ((rd_T45 l0_0 x28_2).f2) (((rd_T45 l0_0 x28_2).f2).length : Int) x65_4 l0_0 l0_1 l0_2 a0_3 ((rd_T45 l0_0 x28_2).f0) ((rd_T45 l0_0 x28_2).f1) ((rd_T45 l0_0 x28_2).f2) = some r) ∧ Aside0 (kq ≤ kj14) ∧ Aside0 (w'.heap[gb239]? = some (.cells #[(.slice (some ad241) l0_0.length c0_0), (.slice A0_1 l0_1.length c0_1), (.slice A0_2 l0_2.length c0_2), .int .i64 a0_3] 25 (0, 0))) ∧ Aside0 (w'.heap[gb242]? = some (.cells #[.int .i64 ((rd_T45 l0_0 x28_2).f0), .bool ((rd_T45 l0_0 x28_2).f1), (.slice A241_2 ((rd_T45 l0_0 x28_2).f2).length c241_2)] 45 (0, 0))) ∧ Aside0 (Below w.heap.size w w'))
            case atStart => exact ⟨(0), lF, H', ⟨Nat.le_refl _⟩, ⟨lK BK239.out⟩, ⟨lK BK242.out⟩, ⟨lB⟩⟩
            case round =>
             clear H'
             try clear c1
             try clear c2
             try clear p2
             try clear q2
             try clear hx2
             try clear c3
             try clear c4
             try clear c4b0
             try clear c4b1
             try clear c6
             try clear c6b0
             try clear c6b1
             try clear p6
             try clear c10
             try clear c12
             try clear c12b0
             try clear c13
             try clear c13b0
             try clear c14
             try clear c14b0
             try clear c17
             try clear c20
             try clear c21
             try clear c21b0
             try clear c23
             try clear c23b0
             try clear c24
             try clear c24b0
             try clear p24
             try clear q24
             try clear hx24
             try clear c25
             try clear c25b0
             try clear c26
             try clear c29
             try clear c32
             try clear c35
             try clear c38
             try clear c39
             try clear hcz11_0 hcz11_1 hcz11_2 hcz11_3
             try clear hcz18_0 hcz18_1 hcz18_2
             try clear hcz27_0 hcz27_1 hcz27_2
             try clear hcz28_0 hcz28_1 hcz28_2 hcz28_3
             try clear hcz30_0 hcz30_1 hcz30_2
             try clear hcz31_0 hcz31_1 hcz31_2 hcz31_3
             try clear hcz33_0 hcz33_1 hcz33_2
             try clear hcz34_0 hcz34_1 hcz34_2 hcz34_3
             try clear hcz36_0 hcz36_1 hcz36_2
             try clear hcz37_0 hcz37_1 hcz37_2 hcz37_3
             try clear hcz40_0 hcz40_1 hcz40_2
             try clear hcz5_0 hcz5_1 hcz5_2 hcz5_3
             try clear hcz8_0 hcz8_1 hcz8_2 hcz8_3
             try clear hcz9_0 hcz9_1 hcz9_2 hcz9_3
             try clear hfz11_0 hfz11_1 hfz11_2 hfz11_3
             try clear hfz18_0 hfz18_1 hfz18_2
             try clear hfz27_0 hfz27_1 hfz27_2
             try clear hfz28_0 hfz28_1 hfz28_2 hfz28_3
             try clear hfz30_0 hfz30_1 hfz30_2
             try clear hfz31_0 hfz31_1 hfz31_2 hfz31_3
             try clear hfz33_0 hfz33_1 hfz33_2
             try clear hfz34_0 hfz34_1 hfz34_2 hfz34_3
             try clear hfz36_0 hfz36_1 hfz36_2
             try clear hfz37_0 hfz37_1 hfz37_2 hfz37_3
             try clear hfz40_0 hfz40_1 hfz40_2
             try clear hfz5_0 hfz5_1 hfz5_2 hfz5_3
             try clear hfz8_0 hfz8_1 hfz8_2 hfz8_3
             try clear hfz9_0 hfz9_1 hfz9_2 hfz9_3
             try clear hx241_0
             try clear hx241_1
             try clear hx241_2
             try clear hx244_0
             try clear hx244_1
             try clear hx244_2
             try clear p2
             try clear p24
             try clear p241
             try clear p244
             try clear p6
             try clear q2
             try clear q24
             try clear q241
             try clear q244
             obtain ⟨x65_4, rfl, HA, HK4, BK239, BK242, HB⟩ := hrel
             cases gk with
             | zero => exact absurd HA.out (by simp [impl_isHeap.l1])
             | succ k4 =>
              have H := HA.out
              clear HA
              simp only [impl_isHeap.l1] at H
              by_cases c41 : x65_4 < (((rd_T45 l0_0 x28_2).f2).length : Int)
              ·rw [if_pos c41] at H
               have c41b0 : decide (x65_4 < (((rd_T45 l0_0 x28_2).f2).length : Int)) = true := decide_eq_true c41
               clear c41
               by_cases c42 : 0 ≤ x65_4
               ·rw [if_pos c42] at H
                have c42b0 : decide (0 ≤ x65_4) = true := decide_eq_true c42
                clear c42
                by_cases c43 : x65_4 < (((rd_T45 l0_0 x28_2).f2).length : Int)
                ·rw [if_pos c43] at H
                 have c43b0 : decide (x65_4 < (((rd_T45 l0_0 x28_2).f2).length : Int)) = true := decide_eq_true c43
                 clear c43
                 replace H := lO H
                 obtain ⟨t246, A44, H⟩ := H
                 by_cases c45 : t246 = true
                 ·subst c45
                  rw [if_pos rfl] at H
                  by_cases c46 : ((rd_T45 l0_0 x28_2).f1) = true
                  ·rw [if_pos c46] at H
                   have c46b0 : ((rd_T45 l0_0 x28_2).f1) = true := c46
                   clear c46
                   replace H := lO H
                   obtain ⟨t247, A47, H⟩ := H
                   by_cases c48 : t247 = true
                   ·subst c48
                    rw [if_pos rfl] at H
                    replace H := lO H
                    obtain ⟨t248, A49, H⟩ := H
                    by_cases c50 : t248 = true
                    ·subst c50
                     rw [if_pos rfl] at H
                     have H' := Aside0.mk H
                     clear H
                     have p245 : 0 ≤ (x65_4 : Int) := lD
                     have q245 : x65_4 < (((rd_T45 l0_0 x28_2).f2).length : Int) := lD
                     obtain ⟨ad245, e245, hx245_0⟩ := Kd.at_int HR241_2.out x65_4 p245 q245
                     cases e245
                     replace hx245_0 := pw_cell_below HB.out hx245_0
                     replace p245 := eq_true p245
                     replace q245 := eq_true q245
                     go_wp2_with (first | (go_at_call 55; (with_reducible refine (impl_Heap_leads.calls gb239 (some ad241) c0_0 l0_0 A0_1 c0_1 l0_1 A0_2 c0_2 l0_2 a0_3 (rd ((rd_T45 l0_0 x28_2).f2) x65_4) true _ ?side1 ?side2 ?side3 ?side4 ?side5 ?side6 ?side7 A44.out).mono ?_); (case side1 => exact (lK BK239.out)); (case side2 => exact lC (Kd.C_below HR0_0.out HB.out)); (case side3 => exact HC0_0.out); (case side4 => exact lC (Kd.C_below HR0_1.out HB.out)); (case side5 => exact HC0_1.out); (case side6 => exact lC (Kd.C_below HR0_2.out HB.out)); (case side7 => exact HC0_2.out); rintro e w51 ⟨rfl, hb⟩; have n0_ := Aside0.mk (blk_below (lK BK239.out) hb); have n1_ := Aside0.mk (blk_below (lK BK242.out) hb); have n2_ := Aside0.mk (below_step lB hb); clear BK239; clear BK242; clear HB; have BK239 := n0_; have BK242 := n1_; have HB := n2_; clear n0_ n1_ n2_; (try clear hb); (try clear hb2); (try clear hk); (try clear hi); have hnb52 := NB242_239.out; have hnc52 := NB239_242.out; obtain ⟨hcz53_0, hfz53_0, hcz53_1, hfz53_1, hcz53_2, hfz53_2⟩ := bk3 BK242.out) | (go_at_call 56; (with_reducible refine (impl_Heap_isYoung.calls gb239 (some ad241) c0_0 l0_0 A0_1 c0_1 l0_1 A0_2 c0_2 l0_2 a0_3 (rd ((rd_T45 l0_0 x28_2).f2) x65_4) true _ ?side1 ?side2 ?side3 ?side4 ?side5 ?side6 ?side7 A47.out).mono ?_); (case side1 => exact (lK BK239.out)); (case side2 => exact lC (Kd.C_below HR0_0.out HB.out)); (case side3 => exact HC0_0.out); (case side4 => exact lC (Kd.C_below HR0_1.out HB.out)); (case side5 => exact HC0_1.out); (case side6 => exact lC (Kd.C_below HR0_2.out HB.out)); (case side7 => exact HC0_2.out); rintro e w54 ⟨rfl, hb⟩; have n0_ := Aside0.mk (blk_below (lK BK239.out) hb); have n1_ := Aside0.mk (blk_below (lK BK242.out) hb); have n2_ := Aside0.mk (below_step lB hb); clear BK239; clear BK242; clear HB; have BK239 := n0_; have BK242 := n1_; have HB := n2_; clear n0_ n1_ n2_; (try clear hb); (try clear hb2); (try clear hk); (try clear hi); obtain ⟨hcz55_0, hfz55_0, hcz55_1, hfz55_1, hcz55_2, hfz55_2, hcz55_3, hfz55_3⟩ := bk4 BK239.out; obtain ⟨hcz56_0, hfz56_0, hcz56_1, hfz56_1, hcz56_2, hfz56_2⟩ := bk3 BK242.out) | (go_at_call 57; (with_reducible refine (slices_Contains_int_int.calls k4 _ _ l0_2 ((rd_T45 l0_0 x28_2).f0) true _ ?side1 ?side2 A49.out).mono ?_); (case side1 => exact lC (Kd.C_below HR0_2.out HB.out)); (case side2 => exact HC0_2.out); rintro e w' ⟨rfl, ⟨nd, rfl⟩⟩; (try first | exact ⟨rfl, _, World.drewN_drewN _ _ _⟩ | exact ⟨rfl, _, Eq.trans (World.drewN_drewN _ _ _) (congrArg (World.drewN _) (Nat.add_assoc _ _ _))⟩)))
                     repeat (go_quiet (first | (go_at_call 57; (with_reducible refine (slices_Contains_int_int.calls k4 _ _ l0_2 ((rd_T45 l0_0 x28_2).f0) true _ ?side1 ?side2 A49.out).mono ?_); (case side1 => exact lC (Kd.C_below HR0_2.out HB.out)); (case side2 => exact HC0_2.out); rintro e w' ⟨rfl, ⟨nd, rfl⟩⟩; (try first | exact ⟨rfl, _, World.drewN_drewN _ _ _⟩ | exact ⟨rfl, _, Eq.trans (World.drewN_drewN _ _ _) (congrArg (World.drewN _) (Nat.add_assoc _ _ _))⟩))); try go_wp2_with (first | (go_at_call 55; (with_reducible refine (impl_Heap_leads.calls gb239 (some ad241) c0_0 l0_0 A0_1 c0_1 l0_1 A0_2 c0_2 l0_2 a0_3 (rd ((rd_T45 l0_0 x28_2).f2) x65_4) true _ ?side1 ?side2 ?side3 ?side4 ?side5 ?side6 ?side7 A44.out).mono ?_); (case side1 => exact (lK BK239.out)); (case side2 => exact lC (Kd.C_below HR0_0.out HB.out)); (case side3 => exact HC0_0.out); (case side4 => exact lC (Kd.C_below HR0_1.out HB.out)); (case side5 => exact HC0_1.out); (case side6 => exact lC (Kd.C_below HR0_2.out HB.out)); (case side7 => exact HC0_2.out); rintro e w51 ⟨rfl, hb⟩; have n0_ := Aside0.mk (blk_below (lK BK239.out) hb); have n1_ := Aside0.mk (blk_below (lK BK242.out) hb); have n2_ := Aside0.mk (below_step lB hb); clear BK239; clear BK242; clear HB; have BK239 := n0_; have BK242 := n1_; have HB := n2_; clear n0_ n1_ n2_; (try clear hb); (try clear hb2); (try clear hk); (try clear hi); have hnb52 := NB242_239.out; have hnc52 := NB239_242.out; obtain ⟨hcz53_0, hfz53_0, hcz53_1, hfz53_1, hcz53_2, hfz53_2⟩ := bk3 BK242.out) | (go_at_call 56; (with_reducible refine (impl_Heap_isYoung.calls gb239 (some ad241) c0_0 l0_0 A0_1 c0_1 l0_1 A0_2 c0_2 l0_2 a0_3 (rd ((rd_T45 l0_0 x28_2).f2) x65_4) true _ ?side1 ?side2 ?side3 ?side4 ?side5 ?side6 ?side7 A47.out).mono ?_); (case side1 => exact (lK BK239.out)); (case side2 => exact lC (Kd.C_below HR0_0.out HB.out)); (case side3 => exact HC0_0.out); (case side4 => exact lC (Kd.C_below HR0_1.out HB.out)); (case side5 => exact HC0_1.out); (case side6 => exact lC (Kd.C_below HR0_2.out HB.out)); (case side7 => exact HC0_2.out); rintro e w54 ⟨rfl, hb⟩; have n0_ := Aside0.mk (blk_below (lK BK239.out) hb); have n1_ := Aside0.mk (blk_below (lK BK242.out) hb); have n2_ := Aside0.mk (below_step lB hb); clear BK239; clear BK242; clear HB; have BK239 := n0_; have BK242 := n1_; have HB := n2_; clear n0_ n1_ n2_; (try clear hb); (try clear hb2); (try clear hk); (try clear hi); obtain ⟨hcz55_0, hfz55_0, hcz55_1, hfz55_1, hcz55_2, hfz55_2, hcz55_3, hfz55_3⟩ := bk4 BK239.out; obtain ⟨hcz56_0, hfz56_0, hcz56_1, hfz56_1, hcz56_2, hfz56_2⟩ := bk3 BK242.out) | (go_at_call 57; (with_reducible refine (slices_Contains_int_int.calls k4 _ _ l0_2 ((rd_T45 l0_0 x28_2).f0) true _ ?side1 ?side2 A49.out).mono ?_); (case side1 => exact lC (Kd.C_below HR0_2.out HB.out)); (case side2 => exact HC0_2.out); rintro e w' ⟨rfl, ⟨nd, rfl⟩⟩; (try first | exact ⟨rfl, _, World.drewN_drewN _ _ _⟩ | exact ⟨rfl, _, Eq.trans (World.drewN_drewN _ _ _) (congrArg (World.drewN _) (Nat.add_assoc _ _ _))⟩))))
                     go_roundg k4
                     case measure => have := HJ1.out; have := HK2.out; have := HJ14.out; have := HK4.out; omega
                     case rel => exact ⟨(wrap64 (x65_4 + 1)), lF, H', ⟨by have := HJ1.out; have := HK2.out; have := HJ14.out; have := HK4.out; omega⟩, ⟨lK BK239.out⟩, ⟨lK BK242.out⟩, ⟨lB⟩⟩
                    ·replace c50 := Bool.eq_false_iff.mpr c50
                     subst c50
                     rw [if_neg (show ¬ (false = true) by decide)] at H
                     obtain rfl := Option.some.inj H
                     have p245 : 0 ≤ (x65_4 : Int) := lD
                     have q245 : x65_4 < (((rd_T45 l0_0 x28_2).f2).length : Int) := lD
                     obtain ⟨ad245, e245, hx245_0⟩ := Kd.at_int HR241_2.out x65_4 p245 q245
                     cases e245
                     replace hx245_0 := pw_cell_below HB.out hx245_0
                     replace p245 := eq_true p245
                     replace q245 := eq_true q245
                     go_wp2_with (first | (go_at_call 55; (with_reducible refine (impl_Heap_leads.calls gb239 (some ad241) c0_0 l0_0 A0_1 c0_1 l0_1 A0_2 c0_2 l0_2 a0_3 (rd ((rd_T45 l0_0 x28_2).f2) x65_4) true _ ?side1 ?side2 ?side3 ?side4 ?side5 ?side6 ?side7 A44.out).mono ?_); (case side1 => exact (lK BK239.out)); (case side2 => exact lC (Kd.C_below HR0_0.out HB.out)); (case side3 => exact HC0_0.out); (case side4 => exact lC (Kd.C_below HR0_1.out HB.out)); (case side5 => exact HC0_1.out); (case side6 => exact lC (Kd.C_below HR0_2.out HB.out)); (case side7 => exact HC0_2.out); rintro e w57 ⟨rfl, hb⟩; have n0_ := Aside0.mk (blk_below (lK BK239.out) hb); have n1_ := Aside0.mk (blk_below (lK BK242.out) hb); have n2_ := Aside0.mk (below_step lB hb); clear BK239; clear BK242; clear HB; have BK239 := n0_; have BK242 := n1_; have HB := n2_; clear n0_ n1_ n2_; (try clear hb); (try clear hb2); (try clear hk); (try clear hi); have hnb58 := NB242_239.out; have hnc58 := NB239_242.out; obtain ⟨hcz59_0, hfz59_0, hcz59_1, hfz59_1, hcz59_2, hfz59_2⟩ := bk3 BK242.out) | (go_at_call 56; (with_reducible refine (impl_Heap_isYoung.calls gb239 (some ad241) c0_0 l0_0 A0_1 c0_1 l0_1 A0_2 c0_2 l0_2 a0_3 (rd ((rd_T45 l0_0 x28_2).f2) x65_4) true _ ?side1 ?side2 ?side3 ?side4 ?side5 ?side6 ?side7 A47.out).mono ?_); (case side1 => exact (lK BK239.out)); (case side2 => exact lC (Kd.C_below HR0_0.out HB.out)); (case side3 => exact HC0_0.out); (case side4 => exact lC (Kd.C_below HR0_1.out HB.out)); (case side5 => exact HC0_1.out); (case side6 => exact lC (Kd.C_below HR0_2.out HB.out)); (case side7 => exact HC0_2.out); rintro e w60 ⟨rfl, hb⟩; have n0_ := Aside0.mk (blk_below (lK BK239.out) hb); have n1_ := Aside0.mk (blk_below (lK BK242.out) hb); have n2_ := Aside0.mk (below_step lB hb); clear BK239; clear BK242; clear HB; have BK239 := n0_; have BK242 := n1_; have HB := n2_; clear n0_ n1_ n2_; (try clear hb); (try clear hb2); (try clear hk); (try clear hi); obtain ⟨hcz61_0, hfz61_0, hcz61_1, hfz61_1, hcz61_2, hfz61_2, hcz61_3, hfz61_3⟩ := bk4 BK239.out; obtain ⟨hcz62_0, hfz62_0, hcz62_1, hfz62_1, hcz62_2, hfz62_2⟩ := bk3 BK242.out) | (go_at_call 57; (with_reducible refine (slices_Contains_int_int.calls k4 _ _ l0_2 ((rd_T45 l0_0 x28_2).f0) false _ ?side1 ?side2 A49.out).mono ?_); (case side1 => exact lC (Kd.C_below HR0_2.out HB.out)); (case side2 => exact HC0_2.out); rintro e w' ⟨rfl, ⟨nd, rfl⟩⟩; (try first | exact ⟨rfl, _, World.drewN_drewN _ _ _⟩ | exact ⟨rfl, _, Eq.trans (World.drewN_drewN _ _ _) (congrArg (World.drewN _) (Nat.add_assoc _ _ _))⟩)))
                     repeat (go_quiet (first | (go_at_call 57; (with_reducible refine (slices_Contains_int_int.calls k4 _ _ l0_2 ((rd_T45 l0_0 x28_2).f0) false _ ?side1 ?side2 A49.out).mono ?_); (case side1 => exact lC (Kd.C_below HR0_2.out HB.out)); (case side2 => exact HC0_2.out); rintro e w' ⟨rfl, ⟨nd, rfl⟩⟩; (try first | exact ⟨rfl, _, World.drewN_drewN _ _ _⟩ | exact ⟨rfl, _, Eq.trans (World.drewN_drewN _ _ _) (congrArg (World.drewN _) (Nat.add_assoc _ _ _))⟩))); try go_wp2_with (first | (go_at_call 55; (with_reducible refine (impl_Heap_leads.calls gb239 (some ad241) c0_0 l0_0 A0_1 c0_1 l0_1 A0_2 c0_2 l0_2 a0_3 (rd ((rd_T45 l0_0 x28_2).f2) x65_4) true _ ?side1 ?side2 ?side3 ?side4 ?side5 ?side6 ?side7 A44.out).mono ?_); (case side1 => exact (lK BK239.out)); (case side2 => exact lC (Kd.C_below HR0_0.out HB.out)); (case side3 => exact HC0_0.out); (case side4 => exact lC (Kd.C_below HR0_1.out HB.out)); (case side5 => exact HC0_1.out); (case side6 => exact lC (Kd.C_below HR0_2.out HB.out)); (case side7 => exact HC0_2.out); rintro e w57 ⟨rfl, hb⟩; have n0_ := Aside0.mk (blk_below (lK BK239.out) hb); have n1_ := Aside0.mk (blk_below (lK BK242.out) hb); have n2_ := Aside0.mk (below_step lB hb); clear BK239; clear BK242; clear HB; have BK239 := n0_; have BK242 := n1_; have HB := n2_; clear n0_ n1_ n2_; (try clear hb); (try clear hb2); (try clear hk); (try clear hi); have hnb58 := NB242_239.out; have hnc58 := NB239_242.out; obtain ⟨hcz59_0, hfz59_0, hcz59_1, hfz59_1, hcz59_2, hfz59_2⟩ := bk3 BK242.out) | (go_at_call 56; (with_reducible refine (impl_Heap_isYoung.calls gb239 (some ad241) c0_0 l0_0 A0_1 c0_1 l0_1 A0_2 c0_2 l0_2 a0_3 (rd ((rd_T45 l0_0 x28_2).f2) x65_4) true _ ?side1 ?side2 ?side3 ?side4 ?side5 ?side6 ?side7 A47.out).mono ?_); (case side1 => exact (lK BK239.out)); (case side2 => exact lC (Kd.C_below HR0_0.out HB.out)); (case side3 => exact HC0_0.out); (case side4 => exact lC (Kd.C_below HR0_1.out HB.out)); (case side5 => exact HC0_1.out); (case side6 => exact lC (Kd.C_below HR0_2.out HB.out)); (case side7 => exact HC0_2.out); rintro e w60 ⟨rfl, hb⟩; have n0_ := Aside0.mk (blk_below (lK BK239.out) hb); have n1_ := Aside0.mk (blk_below (lK BK242.out) hb); have n2_ := Aside0.mk (below_step lB hb); clear BK239; clear BK242; clear HB; have BK239 := n0_; have BK242 := n1_; have HB := n2_; clear n0_ n1_ n2_; (try clear hb); (try clear hb2); (try clear hk); (try clear hi); obtain ⟨hcz61_0, hfz61_0, hcz61_1, hfz61_1, hcz61_2, hfz61_2, hcz61_3, hfz61_3⟩ := bk4 BK239.out; obtain ⟨hcz62_0, hfz62_0, hcz62_1, hfz62_1, hcz62_2, hfz62_2⟩ := bk3 BK242.out) | (go_at_call 57; (with_reducible refine (slices_Contains_int_int.calls k4 _ _ l0_2 ((rd_T45 l0_0 x28_2).f0) false _ ?side1 ?side2 A49.out).mono ?_); (case side1 => exact lC (Kd.C_below HR0_2.out HB.out)); (case side2 => exact HC0_2.out); rintro e w' ⟨rfl, ⟨nd, rfl⟩⟩; (try first | exact ⟨rfl, _, World.drewN_drewN _ _ _⟩ | exact ⟨rfl, _, Eq.trans (World.drewN_drewN _ _ _) (congrArg (World.drewN _) (Nat.add_assoc _ _ _))⟩))))
                     go_ret
                     exact ⟨lE, lB⟩
                   ·replace c48 := Bool.eq_false_iff.mpr c48
                    subst c48
                    rw [if_neg (show ¬ (false = true) by decide)] at H
                    have H' := Aside0.mk H
                    clear H
                    have p245 : 0 ≤ (x65_4 : Int) := lD
                    have q245 : x65_4 < (((rd_T45 l0_0 x28_2).f2).length : Int) := lD
                    obtain ⟨ad245, e245, hx245_0⟩ := Kd.at_int HR241_2.out x65_4 p245 q245
                    cases e245
                    replace hx245_0 := pw_cell_below HB.out hx245_0
                    replace p245 := eq_true p245
                    replace q245 := eq_true q245
                    go_wp2_with (first | (go_at_call 55; (with_reducible refine (impl_Heap_leads.calls gb239 (some ad241) c0_0 l0_0 A0_1 c0_1 l0_1 A0_2 c0_2 l0_2 a0_3 (rd ((rd_T45 l0_0 x28_2).f2) x65_4) true _ ?side1 ?side2 ?side3 ?side4 ?side5 ?side6 ?side7 A44.out).mono ?_); (case side1 => exact (lK BK239.out)); (case side2 => exact lC (Kd.C_below HR0_0.out HB.out)); (case side3 => exact HC0_0.out); (case side4 => exact lC (Kd.C_below HR0_1.out HB.out)); (case side5 => exact HC0_1.out); (case side6 => exact lC (Kd.C_below HR0_2.out HB.out)); (case side7 => exact HC0_2.out); rintro e w63 ⟨rfl, hb⟩; have n0_ := Aside0.mk (blk_below (lK BK239.out) hb); have n1_ := Aside0.mk (blk_below (lK BK242.out) hb); have n2_ := Aside0.mk (below_step lB hb); clear BK239; clear BK242; clear HB; have BK239 := n0_; have BK242 := n1_; have HB := n2_; clear n0_ n1_ n2_; (try clear hb); (try clear hb2); (try clear hk); (try clear hi); have hnb64 := NB242_239.out; have hnc64 := NB239_242.out; obtain ⟨hcz65_0, hfz65_0, hcz65_1, hfz65_1, hcz65_2, hfz65_2⟩ := bk3 BK242.out) | (go_at_call 56; (with_reducible refine (impl_Heap_isYoung.calls gb239 (some ad241) c0_0 l0_0 A0_1 c0_1 l0_1 A0_2 c0_2 l0_2 a0_3 (rd ((rd_T45 l0_0 x28_2).f2) x65_4) false _ ?side1 ?side2 ?side3 ?side4 ?side5 ?side6 ?side7 A47.out).mono ?_); (case side1 => exact (lK BK239.out)); (case side2 => exact lC (Kd.C_below HR0_0.out HB.out)); (case side3 => exact HC0_0.out); (case side4 => exact lC (Kd.C_below HR0_1.out HB.out)); (case side5 => exact HC0_1.out); (case side6 => exact lC (Kd.C_below HR0_2.out HB.out)); (case side7 => exact HC0_2.out); rintro e w66 ⟨rfl, hb⟩; have n0_ := Aside0.mk (blk_below (lK BK239.out) hb); have n1_ := Aside0.mk (blk_below (lK BK242.out) hb); have n2_ := Aside0.mk (below_step lB hb); clear BK239; clear BK242; clear HB; have BK239 := n0_; have BK242 := n1_; have HB := n2_; clear n0_ n1_ n2_; (try clear hb); (try clear hb2); (try clear hk); (try clear hi)))
                    repeat (go_quiet (fail); try go_wp2_with (first | (go_at_call 55; (with_reducible refine (impl_Heap_leads.calls gb239 (some ad241) c0_0 l0_0 A0_1 c0_1 l0_1 A0_2 c0_2 l0_2 a0_3 (rd ((rd_T45 l0_0 x28_2).f2) x65_4) true _ ?side1 ?side2 ?side3 ?side4 ?side5 ?side6 ?side7 A44.out).mono ?_); (case side1 => exact (lK BK239.out)); (case side2 => exact lC (Kd.C_below HR0_0.out HB.out)); (case side3 => exact HC0_0.out); (case side4 => exact lC (Kd.C_below HR0_1.out HB.out)); (case side5 => exact HC0_1.out); (case side6 => exact lC (Kd.C_below HR0_2.out HB.out)); (case side7 => exact HC0_2.out); rintro e w63 ⟨rfl, hb⟩; have n0_ := Aside0.mk (blk_below (lK BK239.out) hb); have n1_ := Aside0.mk (blk_below (lK BK242.out) hb); have n2_ := Aside0.mk (below_step lB hb); clear BK239; clear BK242; clear HB; have BK239 := n0_; have BK242 := n1_; have HB := n2_; clear n0_ n1_ n2_; (try clear hb); (try clear hb2); (try clear hk); (try clear hi); have hnb64 := NB242_239.out; have hnc64 := NB239_242.out; obtain ⟨hcz65_0, hfz65_0, hcz65_1, hfz65_1, hcz65_2, hfz65_2⟩ := bk3 BK242.out) | (go_at_call 56; (with_reducible refine (impl_Heap_isYoung.calls gb239 (some ad241) c0_0 l0_0 A0_1 c0_1 l0_1 A0_2 c0_2 l0_2 a0_3 (rd ((rd_T45 l0_0 x28_2).f2) x65_4) false _ ?side1 ?side2 ?side3 ?side4 ?side5 ?side6 ?side7 A47.out).mono ?_); (case side1 => exact (lK BK239.out)); (case side2 => exact lC (Kd.C_below HR0_0.out HB.out)); (case side3 => exact HC0_0.out); (case side4 => exact lC (Kd.C_below HR0_1.out HB.out)); (case side5 => exact HC0_1.out); (case side6 => exact lC (Kd.C_below HR0_2.out HB.out)); (case side7 => exact HC0_2.out); rintro e w66 ⟨rfl, hb⟩; have n0_ := Aside0.mk (blk_below (lK BK239.out) hb); have n1_ := Aside0.mk (blk_below (lK BK242.out) hb); have n2_ := Aside0.mk (below_step lB hb); clear BK239; clear BK242; clear HB; have BK239 := n0_; have BK242 := n1_; have HB := n2_; clear n0_ n1_ n2_; (try clear hb); (try clear hb2); (try clear hk); (try clear hi))))
                    go_roundg k4
                    case measure => have := HJ1.out; have := HK2.out; have := HJ14.out; have := HK4.out; omega
                    case rel => exact ⟨(wrap64 (x65_4 + 1)), lF, H', ⟨by have := HJ1.out; have := HK2.out; have := HJ14.out; have := HK4.out; omega⟩, ⟨lK BK239.out⟩, ⟨lK BK242.out⟩, ⟨lB⟩⟩
                  ·rw [if_neg c46] at H
                   have c46b0 : ((rd_T45 l0_0 x28_2).f1) = false := by simpa using c46
                   clear c46
                   have H' := Aside0.mk H
                   clear H
                   have p245 : 0 ≤ (x65_4 : Int) := lD
                   have q245 : x65_4 < (((rd_T45 l0_0 x28_2).f2).length : Int) := lD
                   obtain ⟨ad245, e245, hx245_0⟩ := Kd.at_int HR241_2.out x65_4 p245 q245
                   cases e245
                   replace hx245_0 := pw_cell_below HB.out hx245_0
                   replace p245 := eq_true p245
                   replace q245 := eq_true q245
                   go_wp2_with (first | (go_at_call 55; (with_reducible refine (impl_Heap_leads.calls gb239 (some ad241) c0_0 l0_0 A0_1 c0_1 l0_1 A0_2 c0_2 l0_2 a0_3 (rd ((rd_T45 l0_0 x28_2).f2) x65_4) true _ ?side1 ?side2 ?side3 ?side4 ?side5 ?side6 ?side7 A44.out).mono ?_); (case side1 => exact (lK BK239.out)); (case side2 => exact lC (Kd.C_below HR0_0.out HB.out)); (case side3 => exact HC0_0.out); (case side4 => exact lC (Kd.C_below HR0_1.out HB.out)); (case side5 => exact HC0_1.out); (case side6 => exact lC (Kd.C_below HR0_2.out HB.out)); (case side7 => exact HC0_2.out); rintro e w67 ⟨rfl, hb⟩; have n0_ := Aside0.mk (blk_below (lK BK239.out) hb); have n1_ := Aside0.mk (blk_below (lK BK242.out) hb); have n2_ := Aside0.mk (below_step lB hb); clear BK239; clear BK242; clear HB; have BK239 := n0_; have BK242 := n1_; have HB := n2_; clear n0_ n1_ n2_; (try clear hb); (try clear hb2); (try clear hk); (try clear hi); have hnb68 := NB242_239.out; have hnc68 := NB239_242.out; obtain ⟨hcz69_0, hfz69_0, hcz69_1, hfz69_1, hcz69_2, hfz69_2⟩ := bk3 BK242.out))
                   repeat (go_quiet (fail); try go_wp2_with (first | (go_at_call 55; (with_reducible refine (impl_Heap_leads.calls gb239 (some ad241) c0_0 l0_0 A0_1 c0_1 l0_1 A0_2 c0_2 l0_2 a0_3 (rd ((rd_T45 l0_0 x28_2).f2) x65_4) true _ ?side1 ?side2 ?side3 ?side4 ?side5 ?side6 ?side7 A44.out).mono ?_); (case side1 => exact (lK BK239.out)); (case side2 => exact lC (Kd.C_below HR0_0.out HB.out)); (case side3 => exact HC0_0.out); (case side4 => exact lC (Kd.C_below HR0_1.out HB.out)); (case side5 => exact HC0_1.out); (case side6 => exact lC (Kd.C_below HR0_2.out HB.out)); (case side7 => exact HC0_2.out); rintro e w67 ⟨rfl, hb⟩; have n0_ := Aside0.mk (blk_below (lK BK239.out) hb); have n1_ := Aside0.mk (blk_below (lK BK242.out) hb); have n2_ := Aside0.mk (below_step lB hb); clear BK239; clear BK242; clear HB; have BK239 := n0_; have BK242 := n1_; have HB := n2_; clear n0_ n1_ n2_; (try clear hb); (try clear hb2); (try clear hk); (try clear hi); have hnb68 := NB242_239.out; have hnc68 := NB239_242.out; obtain ⟨hcz69_0, hfz69_0, hcz69_1, hfz69_1, hcz69_2, hfz69_2⟩ := bk3 BK242.out)))
                   go_roundg k4
                   case measure => have := HJ1.out; have := HK2.out; have := HJ14.out; have := HK4.out; omega
                   case rel => exact ⟨(wrap64 (x65_4 + 1)), lF, H', ⟨by have := HJ1.out; have := HK2.out; have := HJ14.out; have := HK4.out; omega⟩, ⟨lK BK239.out⟩, ⟨lK BK242.out⟩, ⟨lB⟩⟩
                 ·replace c45 := Bool.eq_false_iff.mpr c45
                  subst c45
                  rw [if_neg (show ¬ (false = true) by decide)] at H
                  obtain rfl := Option.some.inj H
                  have p245 : 0 ≤ (x65_4 : Int) := lD
                  have q245 : x65_4 < (((rd_T45 l0_0 x28_2).f2).length : Int) := lD
                  obtain ⟨ad245, e245, hx245_0⟩ := Kd.at_int HR241_2.out x65_4 p245 q245
                  cases e245
                  replace hx245_0 := pw_cell_below HB.out hx245_0
                  replace p245 := eq_true p245
                  replace q245 := eq_true q245
                  go_wp2_with (first | (go_at_call 55; (with_reducible refine (impl_Heap_leads.calls gb239 (some ad241) c0_0 l0_0 A0_1 c0_1 l0_1 A0_2 c0_2 l0_2 a0_3 (rd ((rd_T45 l0_0 x28_2).f2) x65_4) false _ ?side1 ?side2 ?side3 ?side4 ?side5 ?side6 ?side7 A44.out).mono ?_); (case side1 => exact (lK BK239.out)); (case side2 => exact lC (Kd.C_below HR0_0.out HB.out)); (case side3 => exact HC0_0.out); (case side4 => exact lC (Kd.C_below HR0_1.out HB.out)); (case side5 => exact HC0_1.out); (case side6 => exact lC (Kd.C_below HR0_2.out HB.out)); (case side7 => exact HC0_2.out); rintro e w70 ⟨rfl, hb⟩; have n0_ := Aside0.mk (blk_below (lK BK239.out) hb); have n1_ := Aside0.mk (blk_below (lK BK242.out) hb); have n2_ := Aside0.mk (below_step lB hb); clear BK239; clear BK242; clear HB; have BK239 := n0_; have BK242 := n1_; have HB := n2_; clear n0_ n1_ n2_; (try clear hb); (try clear hb2); (try clear hk); (try clear hi)))
                  repeat (go_quiet (fail); try go_wp2_with (first | (go_at_call 55; (with_reducible refine (impl_Heap_leads.calls gb239 (some ad241) c0_0 l0_0 A0_1 c0_1 l0_1 A0_2 c0_2 l0_2 a0_3 (rd ((rd_T45 l0_0 x28_2).f2) x65_4) false _ ?side1 ?side2 ?side3 ?side4 ?side5 ?side6 ?side7 A44.out).mono ?_); (case side1 => exact (lK BK239.out)); (case side2 => exact lC (Kd.C_below HR0_0.out HB.out)); (case side3 => exact HC0_0.out); (case side4 => exact lC (Kd.C_below HR0_1.out HB.out)); (case side5 => exact HC0_1.out); (case side6 => exact lC (Kd.C_below HR0_2.out HB.out)); (case side7 => exact HC0_2.out); rintro e w70 ⟨rfl, hb⟩; have n0_ := Aside0.mk (blk_below (lK BK239.out) hb); have n1_ := Aside0.mk (blk_below (lK BK242.out) hb); have n2_ := Aside0.mk (below_step lB hb); clear BK239; clear BK242; clear HB; have BK239 := n0_; have BK242 := n1_; have HB := n2_; clear n0_ n1_ n2_; (try clear hb); (try clear hb2); (try clear hk); (try clear hi))))
                  go_ret
                  exact ⟨lE, lB⟩
                ·rw [if_neg c43] at H
                 exact absurd H (by simp)
               ·rw [if_neg c42] at H
                exact absurd H (by simp)
              ·rw [if_neg c41] at H
               have c41b0 : decide (x65_4 < (((rd_T45 l0_0 x28_2).f2).length : Int)) = false := decide_eq_false c41
               clear c41
               have H' := Aside0.mk H
               clear H
               go_wp2
               repeat (go_quiet (fail); try go_wp2)
               go_roundg k4
               case measure => have := HJ1.out; have := HK2.out; have := HJ14.out; have := HK4.out; omega
               case rel => exact ⟨(wrap64 (x28_2 + 1)), lF, H', ⟨by have := HJ1.out; have := HK2.out; have := HJ14.out; have := HK4.out; omega⟩, ⟨lK BK239.out⟩, ⟨lB⟩⟩
        ·rw [if_neg c14] at H
         exact absurd H (by simp)
       ·rw [if_neg c13] at H
        exact absurd H (by simp)
      ·rw [if_neg c12] at H
       have c12b0 : decide (x28_2 < (l0_0.length : Int)) = false := decide_eq_false c12
       clear c12
       have H' := Aside0.mk H
       clear H
       obtain ⟨hcz71_0, hfz71_0, hcz71_1, hfz71_1, hcz71_2, hfz71_2, hcz71_3, hfz71_3⟩ := bk4 BK239.out
       go_wp2
       repeat (go_quiet (fail); try go_wp2)
       go_loopg [93] k2 (fun kq v93 w' => ∃ (x93_3 : Int), v93 = .int .i64 x93_3 ∧ Aside0 (impl_isHeap.l2 kq l0_2 (l0_2.length : Int) x93_3 l0_0 l0_1 l0_2 a0_3 = some r) ∧ Aside0 (kq ≤ k2) ∧ Aside0 (w'.heap[gb239]? = some (.cells #[(.slice A0_0 l0_0.length c0_0), (.slice A0_1 l0_1.length c0_1), (.slice A0_2 l0_2.length c0_2), .int .i64 a0_3] 25 (0, 0))) ∧ Aside0 (Below w.heap.size w w'))
       case atStart => exact ⟨(0), lF, H', ⟨Nat.le_refl _⟩, ⟨lK BK239.out⟩, ⟨lB⟩⟩
       case round =>
        clear H'
        try clear c1
        try clear c2
        try clear p2
        try clear q2
        try clear hx2
        try clear c3
        try clear c4
        try clear c4b0
        try clear c4b1
        try clear c5
        try clear c6
        try clear c6b0
        try clear c6b1
        try clear p6
        try clear c10
        try clear c12
        try clear c12b0
        try clear c13
        try clear c13b0
        try clear c14
        try clear c14b0
        try clear c17
        try clear c20
        try clear c21
        try clear c21b0
        try clear c23
        try clear c23b0
        try clear c24
        try clear c24b0
        try clear p24
        try clear q24
        try clear hx24
        try clear c25
        try clear c25b0
        try clear c26
        try clear c29
        try clear c32
        try clear c35
        try clear c38
        try clear c39
        try clear c41
        try clear c41b0
        try clear c42
        try clear c42b0
        try clear c43
        try clear c43b0
        try clear c45
        try clear c46
        try clear c46b0
        try clear c48
        try clear c50
        try clear c52
        try clear c58
        try clear c64
        try clear p64
        try clear c68
        try clear hcz11_0 hcz11_1 hcz11_2 hcz11_3
        try clear hcz18_0 hcz18_1 hcz18_2
        try clear hcz27_0 hcz27_1 hcz27_2
        try clear hcz28_0 hcz28_1 hcz28_2 hcz28_3
        try clear hcz30_0 hcz30_1 hcz30_2
        try clear hcz31_0 hcz31_1 hcz31_2 hcz31_3
        try clear hcz33_0 hcz33_1 hcz33_2
        try clear hcz34_0 hcz34_1 hcz34_2 hcz34_3
        try clear hcz36_0 hcz36_1 hcz36_2
        try clear hcz37_0 hcz37_1 hcz37_2 hcz37_3
        try clear hcz40_0 hcz40_1 hcz40_2
        try clear hcz53_0 hcz53_1 hcz53_2
        try clear hcz55_0 hcz55_1 hcz55_2 hcz55_3
        try clear hcz56_0 hcz56_1 hcz56_2
        try clear hcz59_0 hcz59_1 hcz59_2
        try clear hcz5_0 hcz5_1 hcz5_2 hcz5_3
        try clear hcz61_0 hcz61_1 hcz61_2 hcz61_3
        try clear hcz62_0 hcz62_1 hcz62_2
        try clear hcz65_0 hcz65_1 hcz65_2
        try clear hcz69_0 hcz69_1 hcz69_2
        try clear hcz71_0 hcz71_1 hcz71_2 hcz71_3
        try clear hcz8_0 hcz8_1 hcz8_2 hcz8_3
        try clear hcz9_0 hcz9_1 hcz9_2 hcz9_3
        try clear hfz11_0 hfz11_1 hfz11_2 hfz11_3
        try clear hfz18_0 hfz18_1 hfz18_2
        try clear hfz27_0 hfz27_1 hfz27_2
        try clear hfz28_0 hfz28_1 hfz28_2 hfz28_3
        try clear hfz30_0 hfz30_1 hfz30_2
        try clear hfz31_0 hfz31_1 hfz31_2 hfz31_3
        try clear hfz33_0 hfz33_1 hfz33_2
        try clear hfz34_0 hfz34_1 hfz34_2 hfz34_3
        try clear hfz36_0 hfz36_1 hfz36_2
        try clear hfz37_0 hfz37_1 hfz37_2 hfz37_3
        try clear hfz40_0 hfz40_1 hfz40_2
        try clear hfz53_0 hfz53_1 hfz53_2
        try clear hfz55_0 hfz55_1 hfz55_2 hfz55_3
        try clear hfz56_0 hfz56_1 hfz56_2
        try clear hfz59_0 hfz59_1 hfz59_2
        try clear hfz5_0 hfz5_1 hfz5_2 hfz5_3
        try clear hfz61_0 hfz61_1 hfz61_2 hfz61_3
        try clear hfz62_0 hfz62_1 hfz62_2
        try clear hfz65_0 hfz65_1 hfz65_2
        try clear hfz69_0 hfz69_1 hfz69_2
        try clear hfz71_0 hfz71_1 hfz71_2 hfz71_3
        try clear hfz8_0 hfz8_1 hfz8_2 hfz8_3
        try clear hfz9_0 hfz9_1 hfz9_2 hfz9_3
        try clear hx241_0
        try clear hx241_1
        try clear hx241_2
        try clear hx244_0
        try clear hx244_1
        try clear hx244_2
        try clear hx245_0
        try clear p2
        try clear p24
        try clear p241
        try clear p244
        try clear p245
        try clear p6
        try clear q2
        try clear q24
        try clear q241
        try clear q244
        try clear q245
        obtain ⟨x93_3, rfl, HA, HK3, BK239, HB⟩ := hrel
        cases gk with
        | zero => exact absurd HA.out (by simp [impl_isHeap.l2])
        | succ k3 =>
         have H := HA.out
         clear HA
         simp only [impl_isHeap.l2] at H
         by_cases c72 : x93_3 < (l0_2.length : Int)
         ·rw [if_pos c72] at H
          have c72b0 : decide (x93_3 < (l0_2.length : Int)) = true := decide_eq_true c72
          clear c72
          by_cases c73 : 0 ≤ x93_3
          ·rw [if_pos c73] at H
           have c73b0 : decide (0 ≤ x93_3) = true := decide_eq_true c73
           clear c73
           by_cases c74 : x93_3 < (l0_2.length : Int)
           ·rw [if_pos c74] at H
            have c74b0 : decide (x93_3 < (l0_2.length : Int)) = true := decide_eq_true c74
            clear c74
            replace H := lO H
            obtain ⟨t251, A75, H⟩ := H
            by_cases c76 : t251 < 0
            ·rw [if_pos c76] at H
             have c76b0 : decide (t251 < 0) = true := decide_eq_true c76
             clear c76
             obtain rfl := Option.some.inj H
             have p250 : 0 ≤ (x93_3 : Int) := lD
             have q250 : x93_3 < (l0_2.length : Int) := lD
             obtain ⟨ad250, e250, hx250_0⟩ := Kd.at_int HR0_2.out x93_3 p250 q250
             cases e250
             replace hx250_0 := pw_cell_below HB.out hx250_0
             replace p250 := eq_true p250
             replace q250 := eq_true q250
             go_wp2_with (first | (go_at_call 58; (with_reducible refine (impl_Heap_at.calls gb239 A0_0 c0_0 l0_0 A0_1 c0_1 l0_1 (some ad250) c0_2 l0_2 a0_3 (rd l0_2 x93_3) t251 _ ?side1 ?side2 ?side3 ?side4 ?side5 ?side6 ?side7 A75.out).mono ?_); (case side1 => exact (lK BK239.out)); (case side2 => exact lC (Kd.C_below HR0_0.out HB.out)); (case side3 => exact HC0_0.out); (case side4 => exact lC (Kd.C_below HR0_1.out HB.out)); (case side5 => exact HC0_1.out); (case side6 => exact lC (Kd.C_below HR0_2.out HB.out)); (case side7 => exact HC0_2.out); rintro e w77 ⟨rfl, hb⟩; have n0_ := Aside0.mk (blk_below (lK BK239.out) hb); have n1_ := Aside0.mk (below_step lB hb); clear BK239; clear HB; have BK239 := n0_; have HB := n1_; clear n0_ n1_; (try clear hb); (try clear hb2); (try clear hk); (try clear hi)))
             repeat (go_quiet (fail); try go_wp2_with (first | (go_at_call 58; (with_reducible refine (impl_Heap_at.calls gb239 A0_0 c0_0 l0_0 A0_1 c0_1 l0_1 (some ad250) c0_2 l0_2 a0_3 (rd l0_2 x93_3) t251 _ ?side1 ?side2 ?side3 ?side4 ?side5 ?side6 ?side7 A75.out).mono ?_); (case side1 => exact (lK BK239.out)); (case side2 => exact lC (Kd.C_below HR0_0.out HB.out)); (case side3 => exact HC0_0.out); (case side4 => exact lC (Kd.C_below HR0_1.out HB.out)); (case side5 => exact HC0_1.out); (case side6 => exact lC (Kd.C_below HR0_2.out HB.out)); (case side7 => exact HC0_2.out); rintro e w77 ⟨rfl, hb⟩; have n0_ := Aside0.mk (blk_below (lK BK239.out) hb); have n1_ := Aside0.mk (below_step lB hb); clear BK239; clear HB; have BK239 := n0_; have HB := n1_; clear n0_ n1_; (try clear hb); (try clear hb2); (try clear hk); (try clear hi))))
             go_ret
             exact ⟨lE, lB⟩
            ·rw [if_neg c76] at H
             have c76b0 : decide (t251 < 0) = false := decide_eq_false c76
             clear c76
             replace H := lO H
             obtain ⟨t252, A78, H⟩ := H
             by_cases c79 : t252 = true
             ·subst c79
              rw [if_pos rfl] at H
              obtain rfl := Option.some.inj H
              have p250 : 0 ≤ (x93_3 : Int) := lD
              have q250 : x93_3 < (l0_2.length : Int) := lD
              obtain ⟨ad250, e250, hx250_0⟩ := Kd.at_int HR0_2.out x93_3 p250 q250
              cases e250
              replace hx250_0 := pw_cell_below HB.out hx250_0
              replace p250 := eq_true p250
              replace q250 := eq_true q250
              go_wp2_with (first | (go_at_call 58; (with_reducible refine (impl_Heap_at.calls gb239 A0_0 c0_0 l0_0 A0_1 c0_1 l0_1 (some ad250) c0_2 l0_2 a0_3 (rd l0_2 x93_3) t251 _ ?side1 ?side2 ?side3 ?side4 ?side5 ?side6 ?side7 A75.out).mono ?_); (case side1 => exact (lK BK239.out)); (case side2 => exact lC (Kd.C_below HR0_0.out HB.out)); (case side3 => exact HC0_0.out); (case side4 => exact lC (Kd.C_below HR0_1.out HB.out)); (case side5 => exact HC0_1.out); (case side6 => exact lC (Kd.C_below HR0_2.out HB.out)); (case side7 => exact HC0_2.out); rintro e w80 ⟨rfl, hb⟩; have n0_ := Aside0.mk (blk_below (lK BK239.out) hb); have n1_ := Aside0.mk (below_step lB hb); clear BK239; clear HB; have BK239 := n0_; have HB := n1_; clear n0_ n1_; (try clear hb); (try clear hb2); (try clear hk); (try clear hi)) | (go_at_call 56; (with_reducible refine (impl_Heap_isYoung.calls gb239 A0_0 c0_0 l0_0 A0_1 c0_1 l0_1 (some ad250) c0_2 l0_2 a0_3 (rd l0_2 x93_3) true _ ?side1 ?side2 ?side3 ?side4 ?side5 ?side6 ?side7 A78.out).mono ?_); (case side1 => exact (lK BK239.out)); (case side2 => exact lC (Kd.C_below HR0_0.out HB.out)); (case side3 => exact HC0_0.out); (case side4 => exact lC (Kd.C_below HR0_1.out HB.out)); (case side5 => exact HC0_1.out); (case side6 => exact lC (Kd.C_below HR0_2.out HB.out)); (case side7 => exact HC0_2.out); rintro e w81 ⟨rfl, hb⟩; have n0_ := Aside0.mk (blk_below (lK BK239.out) hb); have n1_ := Aside0.mk (below_step lB hb); clear BK239; clear HB; have BK239 := n0_; have HB := n1_; clear n0_ n1_; (try clear hb); (try clear hb2); (try clear hk); (try clear hi)))
              repeat (go_quiet (fail); try go_wp2_with (first | (go_at_call 58; (with_reducible refine (impl_Heap_at.calls gb239 A0_0 c0_0 l0_0 A0_1 c0_1 l0_1 (some ad250) c0_2 l0_2 a0_3 (rd l0_2 x93_3) t251 _ ?side1 ?side2 ?side3 ?side4 ?side5 ?side6 ?side7 A75.out).mono ?_); (case side1 => exact (lK BK239.out)); (case side2 => exact lC (Kd.C_below HR0_0.out HB.out)); (case side3 => exact HC0_0.out); (case side4 => exact lC (Kd.C_below HR0_1.out HB.out)); (case side5 => exact HC0_1.out); (case side6 => exact lC (Kd.C_below HR0_2.out HB.out)); (case side7 => exact HC0_2.out); rintro e w80 ⟨rfl, hb⟩; have n0_ := Aside0.mk (blk_below (lK BK239.out) hb); have n1_ := Aside0.mk (below_step lB hb); clear BK239; clear HB; have BK239 := n0_; have HB := n1_; clear n0_ n1_; (try clear hb); (try clear hb2); (try clear hk); (try clear hi)) | (go_at_call 56; (with_reducible refine (impl_Heap_isYoung.calls gb239 A0_0 c0_0 l0_0 A0_1 c0_1 l0_1 (some ad250) c0_2 l0_2 a0_3 (rd l0_2 x93_3) true _ ?side1 ?side2 ?side3 ?side4 ?side5 ?side6 ?side7 A78.out).mono ?_); (case side1 => exact (lK BK239.out)); (case side2 => exact lC (Kd.C_below HR0_0.out HB.out)); (case side3 => exact HC0_0.out); (case side4 => exact lC (Kd.C_below HR0_1.out HB.out)); (case side5 => exact HC0_1.out); (case side6 => exact lC (Kd.C_below HR0_2.out HB.out)); (case side7 => exact HC0_2.out); rintro e w81 ⟨rfl, hb⟩; have n0_ := Aside0.mk (blk_below (lK BK239.out) hb); have n1_ := Aside0.mk (below_step lB hb); clear BK239; clear HB; have BK239 := n0_; have HB := n1_; clear n0_ n1_; (try clear hb); (try clear hb2); (try clear hk); (try clear hi))))
              go_ret
              exact ⟨lE, lB⟩
             ·replace c79 := Bool.eq_false_iff.mpr c79
              subst c79
              rw [if_neg (show ¬ (false = true) by decide)] at H
              by_cases c82 : x93_3 > 0
              ·rw [if_pos c82] at H
               have c82b0 : decide (0 < x93_3) = true := decide_eq_true c82
               clear c82
               obtain ⟨ji83, hji83⟩ : ∃ j_ : Int, (wrap64 (x93_3 - 1)) = j_ := ⟨_, rfl⟩
               replace H : (if 0 ≤ (ji83) then (if (ji83) < (l0_2.length : Int) then (if (rd l0_2 (ji83)) ≥ (rd l0_2 x93_3) then (some false) else (impl_isHeap.l2 k3 l0_2 (l0_2.length : Int) (wrap64 (x93_3 + 1)) l0_0 l0_1 l0_2 a0_3)) else (none)) else (none)) = some r := by first | (rw [hji83] at H; exact H) | (simp only [hji83] at H ⊢; exact H)
               (try rw [hji83] at A75)
               (try rw [hji83] at A78)
               have hji83w : (IntKind.i64.wrap (x93_3 - 1)) = ji83 := (i64_w _).trans hji83
               by_cases c84 : 0 ≤ (ji83)
               ·rw [if_pos c84] at H
                have c84b0 : decide (0 ≤ (ji83)) = true := decide_eq_true c84
                clear c84
                by_cases c85 : (ji83) < (l0_2.length : Int)
                ·rw [if_pos c85] at H
                 have c85b0 : decide ((ji83) < (l0_2.length : Int)) = true := decide_eq_true c85
                 clear c85
                 by_cases c86 : (rd l0_2 (ji83)) ≥ (rd l0_2 x93_3)
                 ·rw [if_pos c86] at H
                  have c86b0 : decide ((rd l0_2 x93_3) ≤ (rd l0_2 (ji83))) = true := decide_eq_true c86
                  clear c86
                  obtain rfl := Option.some.inj H
                  have p250 : 0 ≤ (x93_3 : Int) := lD
                  have q250 : x93_3 < (l0_2.length : Int) := lD
                  obtain ⟨ad250, e250, hx250_0⟩ := Kd.at_int HR0_2.out x93_3 p250 q250
                  cases e250
                  replace hx250_0 := pw_cell_below HB.out hx250_0
                  replace p250 := eq_true p250
                  replace q250 := eq_true q250
                  go_wp2_with (first | (go_at_call 58; (with_reducible refine (impl_Heap_at.calls gb239 A0_0 c0_0 l0_0 A0_1 c0_1 l0_1 (some ad250) c0_2 l0_2 a0_3 (rd l0_2 x93_3) t251 _ ?side1 ?side2 ?side3 ?side4 ?side5 ?side6 ?side7 A75.out).mono ?_); (case side1 => exact (lK BK239.out)); (case side2 => exact lC (Kd.C_below HR0_0.out HB.out)); (case side3 => exact HC0_0.out); (case side4 => exact lC (Kd.C_below HR0_1.out HB.out)); (case side5 => exact HC0_1.out); (case side6 => exact lC (Kd.C_below HR0_2.out HB.out)); (case side7 => exact HC0_2.out); rintro e w87 ⟨rfl, hb⟩; have n0_ := Aside0.mk (blk_below (lK BK239.out) hb); have n1_ := Aside0.mk (below_step lB hb); clear BK239; clear HB; have BK239 := n0_; have HB := n1_; clear n0_ n1_; (try clear hb); (try clear hb2); (try clear hk); (try clear hi)) | (go_at_call 56; (with_reducible refine (impl_Heap_isYoung.calls gb239 A0_0 c0_0 l0_0 A0_1 c0_1 l0_1 (some ad250) c0_2 l0_2 a0_3 (rd l0_2 x93_3) false _ ?side1 ?side2 ?side3 ?side4 ?side5 ?side6 ?side7 A78.out).mono ?_); (case side1 => exact (lK BK239.out)); (case side2 => exact lC (Kd.C_below HR0_0.out HB.out)); (case side3 => exact HC0_0.out); (case side4 => exact lC (Kd.C_below HR0_1.out HB.out)); (case side5 => exact HC0_1.out); (case side6 => exact lC (Kd.C_below HR0_2.out HB.out)); (case side7 => exact HC0_2.out); rintro e w88 ⟨rfl, hb⟩; have n0_ := Aside0.mk (blk_below (lK BK239.out) hb); have n1_ := Aside0.mk (below_step lB hb); clear BK239; clear HB; have BK239 := n0_; have HB := n1_; clear n0_ n1_; (try clear hb); (try clear hb2); (try clear hk); (try clear hi); obtain ⟨hcz89_0, hfz89_0, hcz89_1, hfz89_1, hcz89_2, hfz89_2, hcz89_3, hfz89_3⟩ := bk4 BK239.out; have p253 : 0 ≤ ((ji83) : Int) := lD; have q253 : (ji83) < (l0_2.length : Int) := lD; obtain ⟨ad253, e253, hx253_0⟩ := Kd.at_int HR0_2.out (ji83) p253 q253; obtain rfl : ad250 = ad253 := (by injection e253); replace hx253_0 := pw_cell_below HB.out hx253_0; replace p253 := eq_true p253; replace q253 := eq_true q253))
                  repeat (go_quiet (fail); try go_wp2_with (first | (go_at_call 58; (with_reducible refine (impl_Heap_at.calls gb239 A0_0 c0_0 l0_0 A0_1 c0_1 l0_1 (some ad250) c0_2 l0_2 a0_3 (rd l0_2 x93_3) t251 _ ?side1 ?side2 ?side3 ?side4 ?side5 ?side6 ?side7 A75.out).mono ?_); (case side1 => exact (lK BK239.out)); (case side2 => exact lC (Kd.C_below HR0_0.out HB.out)); (case side3 => exact HC0_0.out); (case side4 => exact lC (Kd.C_below HR0_1.out HB.out)); (case side5 => exact HC0_1.out); (case side6 => exact lC (Kd.C_below HR0_2.out HB.out)); (case side7 => exact HC0_2.out); rintro e w87 ⟨rfl, hb⟩; have n0_ := Aside0.mk (blk_below (lK BK239.out) hb); have n1_ := Aside0.mk (below_step lB hb); clear BK239; clear HB; have BK239 := n0_; have HB := n1_; clear n0_ n1_; (try clear hb); (try clear hb2); (try clear hk); (try clear hi)) | (go_at_call 56; (with_reducible refine (impl_Heap_isYoung.calls gb239 A0_0 c0_0 l0_0 A0_1 c0_1 l0_1 (some ad250) c0_2 l0_2 a0_3 (rd l0_2 x93_3) false _ ?side1 ?side2 ?side3 ?side4 ?side5 ?side6 ?side7 A78.out).mono ?_); (case side1 => exact (lK BK239.out)); (case side2 => exact lC (Kd.C_below HR0_0.out HB.out)); (case side3 => exact HC0_0.out); (case side4 => exact lC (Kd.C_below HR0_1.out HB.out)); (case side5 => exact HC0_1.out); (case side6 => exact lC (Kd.C_below HR0_2.out HB.out)); (case side7 => exact HC0_2.out); rintro e w88 ⟨rfl, hb⟩; have n0_ := Aside0.mk (blk_below (lK BK239.out) hb); have n1_ := Aside0.mk (below_step lB hb); clear BK239; clear HB; have BK239 := n0_; have HB := n1_; clear n0_ n1_; (try clear hb); (try clear hb2); (try clear hk); (try clear hi); obtain ⟨hcz89_0, hfz89_0, hcz89_1, hfz89_1, hcz89_2, hfz89_2, hcz89_3, hfz89_3⟩ := bk4 BK239.out; have p253 : 0 ≤ ((ji83) : Int) := lD; have q253 : (ji83) < (l0_2.length : Int) := lD; obtain ⟨ad253, e253, hx253_0⟩ := Kd.at_int HR0_2.out (ji83) p253 q253; obtain rfl : ad250 = ad253 := (by injection e253); replace hx253_0 := pw_cell_below HB.out hx253_0; replace p253 := eq_true p253; replace q253 := eq_true q253)))
                  go_ret
                  exact ⟨by first | rfl | (simp [errW_none, errW_some] <;> rfl) | (simp only [← hji83]; first | rfl | (simp [errW_none, errW_some] <;> rfl)) | (simp [*, errW_none, errW_some] <;> rfl), lB⟩
                 ·rw [if_neg c86] at H
                  have c86b0 : decide ((rd l0_2 x93_3) ≤ (rd l0_2 (ji83))) = false := decide_eq_false c86
                  clear c86
                  have H' := Aside0.mk H
                  clear H
                  have p250 : 0 ≤ (x93_3 : Int) := lD
                  have q250 : x93_3 < (l0_2.length : Int) := lD
                  obtain ⟨ad250, e250, hx250_0⟩ := Kd.at_int HR0_2.out x93_3 p250 q250
                  cases e250
                  replace hx250_0 := pw_cell_below HB.out hx250_0
                  replace p250 := eq_true p250
                  replace q250 := eq_true q250
                  go_wp2_with (first | (go_at_call 58; (with_reducible refine (impl_Heap_at.calls gb239 A0_0 c0_0 l0_0 A0_1 c0_1 l0_1 (some ad250) c0_2 l0_2 a0_3 (rd l0_2 x93_3) t251 _ ?side1 ?side2 ?side3 ?side4 ?side5 ?side6 ?side7 A75.out).mono ?_); (case side1 => exact (lK BK239.out)); (case side2 => exact lC (Kd.C_below HR0_0.out HB.out)); (case side3 => exact HC0_0.out); (case side4 => exact lC (Kd.C_below HR0_1.out HB.out)); (case side5 => exact HC0_1.out); (case side6 => exact lC (Kd.C_below HR0_2.out HB.out)); (case side7 => exact HC0_2.out); rintro e w90 ⟨rfl, hb⟩; have n0_ := Aside0.mk (blk_below (lK BK239.out) hb); have n1_ := Aside0.mk (below_step lB hb); clear BK239; clear HB; have BK239 := n0_; have HB := n1_; clear n0_ n1_; (try clear hb); (try clear hb2); (try clear hk); (try clear hi)) | (go_at_call 56; (with_reducible refine (impl_Heap_isYoung.calls gb239 A0_0 c0_0 l0_0 A0_1 c0_1 l0_1 (some ad250) c0_2 l0_2 a0_3 (rd l0_2 x93_3) false _ ?side1 ?side2 ?side3 ?side4 ?side5 ?side6 ?side7 A78.out).mono ?_); (case side1 => exact (lK BK239.out)); (case side2 => exact lC (Kd.C_below HR0_0.out HB.out)); (case side3 => exact HC0_0.out); (case side4 => exact lC (Kd.C_below HR0_1.out HB.out)); (case side5 => exact HC0_1.out); (case side6 => exact lC (Kd.C_below HR0_2.out HB.out)); (case side7 => exact HC0_2.out); rintro e w91 ⟨rfl, hb⟩; have n0_ := Aside0.mk (blk_below (lK BK239.out) hb); have n1_ := Aside0.mk (below_step lB hb); clear BK239; clear HB; have BK239 := n0_; have HB := n1_; clear n0_ n1_; (try clear hb); (try clear hb2); (try clear hk); (try clear hi); obtain ⟨hcz92_0, hfz92_0, hcz92_1, hfz92_1, hcz92_2, hfz92_2, hcz92_3, hfz92_3⟩ := bk4 BK239.out; have p253 : 0 ≤ ((ji83) : Int) := lD; have q253 : (ji83) < (l0_2.length : Int) := lD; obtain ⟨ad253, e253, hx253_0⟩ := Kd.at_int HR0_2.out (ji83) p253 q253; obtain rfl : ad250 = ad253 := (by injection e253); replace hx253_0 := pw_cell_below HB.out hx253_0; replace p253 := eq_true p253; replace q253 := eq_true q253))
                  repeat (go_quiet (fail); try go_wp2_with (first | (go_at_call 58; (with_reducible refine (impl_Heap_at.calls gb239 A0_0 c0_0 l0_0 A0_1 c0_1 l0_1 (some ad250) c0_2 l0_2 a0_3 (rd l0_2 x93_3) t251 _ ?side1 ?side2 ?side3 ?side4 ?side5 ?side6 ?side7 A75.out).mono ?_); (case side1 => exact (lK BK239.out)); (case side2 => exact lC (Kd.C_below HR0_0.out HB.out)); (case side3 => exact HC0_0.out); (case side4 => exact lC (Kd.C_below HR0_1.out HB.out)); (case side5 => exact HC0_1.out); (case side6 => exact lC (Kd.C_below HR0_2.out HB.out)); (case side7 => exact HC0_2.out); rintro e w90 ⟨rfl, hb⟩; have n0_ := Aside0.mk (blk_below (lK BK239.out) hb); have n1_ := Aside0.mk (below_step lB hb); clear BK239; clear HB; have BK239 := n0_; have HB := n1_; clear n0_ n1_; (try clear hb); (try clear hb2); (try clear hk); (try clear hi)) | (go_at_call 56; (with_reducible refine (impl_Heap_isYoung.calls gb239 A0_0 c0_0 l0_0 A0_1 c0_1 l0_1 (some ad250) c0_2 l0_2 a0_3 (rd l0_2 x93_3) false _ ?side1 ?side2 ?side3 ?side4 ?side5 ?side6 ?side7 A78.out).mono ?_); (case side1 => exact (lK BK239.out)); (case side2 => exact lC (Kd.C_below HR0_0.out HB.out)); (case side3 => exact HC0_0.out); (case side4 => exact lC (Kd.C_below HR0_1.out HB.out)); (case side5 => exact HC0_1.out); (case side6 => exact lC (Kd.C_below HR0_2.out HB.out)); (case side7 => exact HC0_2.out); rintro e w91 ⟨rfl, hb⟩; have n0_ := Aside0.mk (blk_below (lK BK239.out) hb); have n1_ := Aside0.mk (below_step lB hb); clear BK239; clear HB; have BK239 := n0_; have HB := n1_; clear n0_ n1_; (try clear hb); (try clear hb2); (try clear hk); (try clear hi); obtain ⟨hcz92_0, hfz92_0, hcz92_1, hfz92_1, hcz92_2, hfz92_2, hcz92_3, hfz92_3⟩ := bk4 BK239.out; have p253 : 0 ≤ ((ji83) : Int) := lD; have q253 : (ji83) < (l0_2.length : Int) := lD; obtain ⟨ad253, e253, hx253_0⟩ := Kd.at_int HR0_2.out (ji83) p253 q253; obtain rfl : ad250 = ad253 := (by injection e253); replace hx253_0 := pw_cell_below HB.out hx253_0; replace p253 := eq_true p253; replace q253 := eq_true q253)))
                  go_roundg k3
                  case measure => have := HJ1.out; have := HK2.out; have := HK3.out; omega
                  case rel => exact ⟨(wrap64 (x93_3 + 1)), lF, H', ⟨by have := HJ1.out; have := HK2.out; have := HK3.out; omega⟩, ⟨lK BK239.out⟩, ⟨lB⟩⟩
                ·rw [if_neg c85] at H
                 exact absurd H (by simp)
               ·rw [if_neg c84] at H
                exact absurd H (by simp)
              ·rw [if_neg c82] at H
               have c82b0 : decide (0 < x93_3) = false := decide_eq_false c82
               clear c82
               have H' := Aside0.mk H
               clear H
               have p250 : 0 ≤ (x93_3 : Int) := lD
               have q250 : x93_3 < (l0_2.length : Int) := lD
               obtain ⟨ad250, e250, hx250_0⟩ := Kd.at_int HR0_2.out x93_3 p250 q250
               cases e250
               replace hx250_0 := pw_cell_below HB.out hx250_0
               replace p250 := eq_true p250
               replace q250 := eq_true q250
               go_wp2_with (first | (go_at_call 58; (with_reducible refine (impl_Heap_at.calls gb239 A0_0 c0_0 l0_0 A0_1 c0_1 l0_1 (some ad250) c0_2 l0_2 a0_3 (rd l0_2 x93_3) t251 _ ?side1 ?side2 ?side3 ?side4 ?side5 ?side6 ?side7 A75.out).mono ?_); (case side1 => exact (lK BK239.out)); (case side2 => exact lC (Kd.C_below HR0_0.out HB.out)); (case side3 => exact HC0_0.out); (case side4 => exact lC (Kd.C_below HR0_1.out HB.out)); (case side5 => exact HC0_1.out); (case side6 => exact lC (Kd.C_below HR0_2.out HB.out)); (case side7 => exact HC0_2.out); rintro e w93 ⟨rfl, hb⟩; have n0_ := Aside0.mk (blk_below (lK BK239.out) hb); have n1_ := Aside0.mk (below_step lB hb); clear BK239; clear HB; have BK239 := n0_; have HB := n1_; clear n0_ n1_; (try clear hb); (try clear hb2); (try clear hk); (try clear hi)) | (go_at_call 56; (with_reducible refine (impl_Heap_isYoung.calls gb239 A0_0 c0_0 l0_0 A0_1 c0_1 l0_1 (some ad250) c0_2 l0_2 a0_3 (rd l0_2 x93_3) false _ ?side1 ?side2 ?side3 ?side4 ?side5 ?side6 ?side7 A78.out).mono ?_); (case side1 => exact (lK BK239.out)); (case side2 => exact lC (Kd.C_below HR0_0.out HB.out)); (case side3 => exact HC0_0.out); (case side4 => exact lC (Kd.C_below HR0_1.out HB.out)); (case side5 => exact HC0_1.out); (case side6 => exact lC (Kd.C_below HR0_2.out HB.out)); (case side7 => exact HC0_2.out); rintro e w94 ⟨rfl, hb⟩; have n0_ := Aside0.mk (blk_below (lK BK239.out) hb); have n1_ := Aside0.mk (below_step lB hb); clear BK239; clear HB; have BK239 := n0_; have HB := n1_; clear n0_ n1_; (try clear hb); (try clear hb2); (try clear hk); (try clear hi)))
               repeat (go_quiet (fail); try go_wp2_with (first | (go_at_call 58; (with_reducible refine (impl_Heap_at.calls gb239 A0_0 c0_0 l0_0 A0_1 c0_1 l0_1 (some ad250) c0_2 l0_2 a0_3 (rd l0_2 x93_3) t251 _ ?side1 ?side2 ?side3 ?side4 ?side5 ?side6 ?side7 A75.out).mono ?_); (case side1 => exact (lK BK239.out)); (case side2 => exact lC (Kd.C_below HR0_0.out HB.out)); (case side3 => exact HC0_0.out); (case side4 => exact lC (Kd.C_below HR0_1.out HB.out)); (case side5 => exact HC0_1.out); (case side6 => exact lC (Kd.C_below HR0_2.out HB.out)); (case side7 => exact HC0_2.out); rintro e w93 ⟨rfl, hb⟩; have n0_ := Aside0.mk (blk_below (lK BK239.out) hb); have n1_ := Aside0.mk (below_step lB hb); clear BK239; clear HB; have BK239 := n0_; have HB := n1_; clear n0_ n1_; (try clear hb); (try clear hb2); (try clear hk); (try clear hi)) | (go_at_call 56; (with_reducible refine (impl_Heap_isYoung.calls gb239 A0_0 c0_0 l0_0 A0_1 c0_1 l0_1 (some ad250) c0_2 l0_2 a0_3 (rd l0_2 x93_3) false _ ?side1 ?side2 ?side3 ?side4 ?side5 ?side6 ?side7 A78.out).mono ?_); (case side1 => exact (lK BK239.out)); (case side2 => exact lC (Kd.C_below HR0_0.out HB.out)); (case side3 => exact HC0_0.out); (case side4 => exact lC (Kd.C_below HR0_1.out HB.out)); (case side5 => exact HC0_1.out); (case side6 => exact lC (Kd.C_below HR0_2.out HB.out)); (case side7 => exact HC0_2.out); rintro e w94 ⟨rfl, hb⟩; have n0_ := Aside0.mk (blk_below (lK BK239.out) hb); have n1_ := Aside0.mk (below_step lB hb); clear BK239; clear HB; have BK239 := n0_; have HB := n1_; clear n0_ n1_; (try clear hb); (try clear hb2); (try clear hk); (try clear hi))))
               go_roundg k3
               case measure => have := HJ1.out; have := HK2.out; have := HK3.out; omega
               case rel => exact ⟨(wrap64 (x93_3 + 1)), lF, H', ⟨by have := HJ1.out; have := HK2.out; have := HK3.out; omega⟩, ⟨lK BK239.out⟩, ⟨lB⟩⟩
           ·rw [if_neg c74] at H
            exact absurd H (by simp)
          ·rw [if_neg c73] at H
           exact absurd H (by simp)
         ·rw [if_neg c72] at H
          have c72b0 : decide (x93_3 < (l0_2.length : Int)) = false := decide_eq_false c72
          clear c72
          replace H := lO H
          obtain ⟨t249, A95, H⟩ := H
          obtain rfl := Option.some.inj H
          obtain ⟨hcz96_0, hfz96_0, hcz96_1, hfz96_1, hcz96_2, hfz96_2, hcz96_3, hfz96_3⟩ := bk4 BK239.out
          go_wp2_with (first | (go_at_call 59; (with_reducible refine (slices_ContainsFunc_int_int_60.calls _ _ l0_1 gb239 A0_0 c0_0 l0_0 A0_1 c0_1 l0_1 A0_2 c0_2 l0_2 a0_3 t249 _ ?side1 ?side2 ?side3 ?side4 ?side5 ?side6 ?side7 ?side8 ?side9 A95.out).mono ?_); (case side1 => exact lC (Kd.C_below HR0_1.out HB.out)); (case side2 => exact HC0_1.out); (case side3 => exact (lK BK239.out)); (case side4 => exact lC (Kd.C_below HR0_0.out HB.out)); (case side5 => exact HC0_0.out); (case side6 => exact lC (Kd.C_below HR0_1.out HB.out)); (case side7 => exact HC0_1.out); (case side8 => exact lC (Kd.C_below HR0_2.out HB.out)); (case side9 => exact HC0_2.out); rintro e w97 ⟨rfl, hb⟩; have n0_ := Aside0.mk (blk_below (lK BK239.out) hb); have n1_ := Aside0.mk (below_step lB hb); clear BK239; clear HB; have BK239 := n0_; have HB := n1_; clear n0_ n1_; (try clear hb); (try clear hb2); (try clear hk); (try clear hi)))
          repeat (go_quiet (fail); try go_wp2_with (first | (go_at_call 59; (with_reducible refine (slices_ContainsFunc_int_int_60.calls _ _ l0_1 gb239 A0_0 c0_0 l0_0 A0_1 c0_1 l0_1 A0_2 c0_2 l0_2 a0_3 t249 _ ?side1 ?side2 ?side3 ?side4 ?side5 ?side6 ?side7 ?side8 ?side9 A95.out).mono ?_); (case side1 => exact lC (Kd.C_below HR0_1.out HB.out)); (case side2 => exact HC0_1.out); (case side3 => exact (lK BK239.out)); (case side4 => exact lC (Kd.C_below HR0_0.out HB.out)); (case side5 => exact HC0_0.out); (case side6 => exact lC (Kd.C_below HR0_1.out HB.out)); (case side7 => exact HC0_1.out); (case side8 => exact lC (Kd.C_below HR0_2.out HB.out)); (case side9 => exact HC0_2.out); rintro e w97 ⟨rfl, hb⟩; have n0_ := Aside0.mk (blk_below (lK BK239.out) hb); have n1_ := Aside0.mk (below_step lB hb); clear BK239; clear HB; have BK239 := n0_; have HB := n1_; clear n0_ n1_; (try clear hb); (try clear hb2); (try clear hk); (try clear hi))))
          go_ret
          exact ⟨lE, lB⟩

end Go.Proofs.Ytnocadhibajaoaa.Q
