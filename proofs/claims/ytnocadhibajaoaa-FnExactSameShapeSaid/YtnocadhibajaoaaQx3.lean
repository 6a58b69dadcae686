-- Written by the program wip/tools/pr.py of this claim's session, over the kit's print.py.
import Derived.Test.YtnocadhibajaoaaQx0
import Derived.Test.YtnocadhibajaoaaQx2
namespace Go.Proofs.Ytnocadhibajaoaa.Q
open Go.RowKit Go.Proofs.YtnocadhibajaoaaW.PrintWords Go.Proofs.YtnocadhibajaoaaW.PrintLast Go.Proofs.YtnocadhibajaoaaW.PrintMore
attribute [local go_sem] max2_int min2_int max_two min_two max_three min_three max_four min_four   -- for this text's walks alone
set_option linter.unusedVariables false
set_option linter.unusedSimpArgs false

/-! ### spec_GoodHeap: function 15 -/
mutual
def spec_GoodHeap.j0 : Nat → Bool → List (S45) → List Int → List Int → Int → Option (Bool)
 | 0, _, _, _, _, _ => none
 | k + 1, x27, x165000, x165001, x165002, x165003 => if x27 = true then (some false) else (spec_GoodHeap.l0 k x165000 (x165000.length : Int) 0 x165000 x165001 x165002 x165003)
def spec_GoodHeap.l0 : Nat → List (S45) → Int → Int → List (S45) → List Int → List Int → Int → Option (Bool)
 | 0, _, _, _, _, _, _, _ => none
 | k + 1, x29, x30, x31, x165000, x165001, x165002, x165003 => if x31 < x30 then (if 0 ≤ x31 then (if x31 < (x29.length : Int) then (if ((rd_T45 x29 x31).f0) < 0 then (spec_GoodHeap.j2 k x29 x30 x31 true x165000 x165001 x165002 x165003 ((rd_T45 x29 x31).f0) ((rd_T45 x29 x31).f1) ((rd_T45 x29 x31).f2)) else (if ((rd_T45 x29 x31).f0) ≥ x165003 then (spec_GoodHeap.j2 k x29 x30 x31 true x165000 x165001 x165002 x165003 ((rd_T45 x29 x31).f0) ((rd_T45 x29 x31).f1) ((rd_T45 x29 x31).f2)) else (if x31 > 0 then (if 0 ≤ (wrap64 (x31 - 1)) then (if (wrap64 (x31 - 1)) < (x165000.length : Int) then (if ((rd_T45 x165000 (wrap64 (x31 - 1))).f0) ≥ ((rd_T45 x29 x31).f0) then (spec_GoodHeap.j2 k x29 x30 x31 true x165000 x165001 x165002 x165003 ((rd_T45 x29 x31).f0) ((rd_T45 x29 x31).f1) ((rd_T45 x29 x31).f2)) else (spec_GoodHeap.j2 k x29 x30 x31 ((((rd_T45 x29 x31).f2).length : Int) != 2) x165000 x165001 x165002 x165003 ((rd_T45 x29 x31).f0) ((rd_T45 x29 x31).f1) ((rd_T45 x29 x31).f2))) else (none)) else (none)) else (spec_GoodHeap.j2 k x29 x30 x31 ((((rd_T45 x29 x31).f2).length : Int) != 2) x165000 x165001 x165002 x165003 ((rd_T45 x29 x31).f0) ((rd_T45 x29 x31).f1) ((rd_T45 x29 x31).f2))))) else (none)) else (none)) else (spec_GoodHeap.l2 k x165001 (x165001.length : Int) 0 x165000 x165001 x165002 x165003)
def spec_GoodHeap.j2 : Nat → List (S45) → Int → Int → Bool → List (S45) → List Int → List Int → Int → Int → Bool → List Int → Option (Bool)
 | 0, _, _, _, _, _, _, _, _, _, _, _ => none
 | k + 1, x29, x30, x31, x67, x165000, x165001, x165002, x165003, x168000, x168001, x168002 => if x67 = true then (some false) else (spec_GoodHeap.l1 k x29 x30 x31 x168002 (x168002.length : Int) 0 x165000 x165001 x165002 x165003 x168000 x168001 x168002)
def spec_GoodHeap.l1 : Nat → List (S45) → Int → Int → List Int → Int → Int → List (S45) → List Int → List Int → Int → Int → Bool → List Int → Option (Bool)
 | 0, _, _, _, _, _, _, _, _, _, _, _, _, _ => none
 | k + 1, x29, x30, x31, x69, x70, x71, x165000, x165001, x165002, x165003, x168000, x168001, x168002 => if x71 < x70 then (if 0 ≤ x71 then (if x71 < (x69.length : Int) then ((spec_l14Link.f k x165000 x165001 x165002 x165003 (rd x69 x71)).bind fun t170 => (if t170 = true then (if x168001 = true then ((spec_l14Young.f k x165000 x165001 x165002 x165003 (rd x69 x71)).bind fun t171 => (if t171 = true then ((spec_l1Has.f k x165002 x168000).bind fun t172 => (if t172 = true then (spec_GoodHeap.l1 k x29 x30 x31 x69 x70 (wrap64 (x71 + 1)) x165000 x165001 x165002 x165003 x168000 x168001 x168002) else (some false))) else (spec_GoodHeap.l1 k x29 x30 x31 x69 x70 (wrap64 (x71 + 1)) x165000 x165001 x165002 x165003 x168000 x168001 x168002))) else (spec_GoodHeap.l1 k x29 x30 x31 x69 x70 (wrap64 (x71 + 1)) x165000 x165001 x165002 x165003 x168000 x168001 x168002)) else (some false))) else (none)) else (none)) else (spec_GoodHeap.l0 k x29 x30 (wrap64 (x31 + 1)) x165000 x165001 x165002 x165003)
def spec_GoodHeap.l2 : Nat → List Int → Int → Int → List (S45) → List Int → List Int → Int → Option (Bool)
 | 0, _, _, _, _, _, _, _ => none
 | k + 1, x99, x100, x101, x165000, x165001, x165002, x165003 => if x101 < x100 then (if 0 ≤ x101 then (if x101 < (x99.length : Int) then ((spec_l14Link.f k x165000 x165001 x165002 x165003 (rd x99 x101)).bind fun t174 => (if t174 = true then (spec_GoodHeap.l2 k x99 x100 (wrap64 (x101 + 1)) x165000 x165001 x165002 x165003) else (some false))) else (none)) else (none)) else (spec_GoodHeap.l3 k x165002 (x165002.length : Int) 0 x165000 x165001 x165002 x165003)
def spec_GoodHeap.l3 : Nat → List Int → Int → Int → List (S45) → List Int → List Int → Int → Option (Bool)
 | 0, _, _, _, _, _, _, _ => none
 | k + 1, x111, x112, x113, x165000, x165001, x165002, x165003 => if x113 < x112 then (if 0 ≤ x113 then (if x113 < (x111.length : Int) then ((spec_l14At.f k x165000 x165001 x165002 x165003 (rd x111 x113)).bind fun t176 => (if t176 < 0 then (some false) else (if 0 ≤ t176 then (if t176 < (x165000.length : Int) then (if ((rd_T45 x165000 t176).f1 = true) then (if x113 > 0 then (if 0 ≤ (wrap64 (x113 - 1)) then (if (wrap64 (x113 - 1)) < (x165002.length : Int) then (if (rd x165002 (wrap64 (x113 - 1))) ≥ (rd x111 x113) then (some false) else (spec_GoodHeap.l3 k x111 x112 (wrap64 (x113 + 1)) x165000 x165001 x165002 x165003)) else (none)) else (none)) else (spec_GoodHeap.l3 k x111 x112 (wrap64 (x113 + 1)) x165000 x165001 x165002 x165003)) else (some false)) else (none)) else (none)))) else (none)) else (none)) else (some true)
end
def spec_GoodHeap.f (k : Nat) (l0_0 : List (S45)) (l0_1 : List Int) (l0_2 : List Int) (a0_3 : Int) : Option (Bool) := if (l0_0.length : Int) > 24 then (spec_GoodHeap.j0 k true l0_0 l0_1 l0_2 a0_3) else (if (l0_1.length : Int) = 6 then ((spec_l1In.f a0_3 0 1000).bind fun t165 => (spec_GoodHeap.j0 k (!t165) l0_0 l0_1 l0_2 a0_3)) else (spec_GoodHeap.j0 k true l0_0 l0_1 l0_2 a0_3))
theorem spec_GoodHeap.mono_l : ∀ k, (∀ y0 y1 y2 y3 y4, LeO (spec_GoodHeap.j0 k y0 y1 y2 y3 y4) (spec_GoodHeap.j0 (k + 1) y0 y1 y2 y3 y4)) ∧ (∀ y0 y1 y2 y3 y4 y5 y6, LeO (spec_GoodHeap.l0 k y0 y1 y2 y3 y4 y5 y6) (spec_GoodHeap.l0 (k + 1) y0 y1 y2 y3 y4 y5 y6)) ∧ (∀ y0 y1 y2 y3 y4 y5 y6 y7 y8 y9 y10, LeO (spec_GoodHeap.j2 k y0 y1 y2 y3 y4 y5 y6 y7 y8 y9 y10) (spec_GoodHeap.j2 (k + 1) y0 y1 y2 y3 y4 y5 y6 y7 y8 y9 y10)) ∧ (∀ y0 y1 y2 y3 y4 y5 y6 y7 y8 y9 y10 y11 y12, LeO (spec_GoodHeap.l1 k y0 y1 y2 y3 y4 y5 y6 y7 y8 y9 y10 y11 y12) (spec_GoodHeap.l1 (k + 1) y0 y1 y2 y3 y4 y5 y6 y7 y8 y9 y10 y11 y12)) ∧ (∀ y0 y1 y2 y3 y4 y5 y6, LeO (spec_GoodHeap.l2 k y0 y1 y2 y3 y4 y5 y6) (spec_GoodHeap.l2 (k + 1) y0 y1 y2 y3 y4 y5 y6)) ∧ (∀ y0 y1 y2 y3 y4 y5 y6, LeO (spec_GoodHeap.l3 k y0 y1 y2 y3 y4 y5 y6) (spec_GoodHeap.l3 (k + 1) y0 y1 y2 y3 y4 y5 y6))
 | 0 => ⟨fun _ _ _ _ _ r h => by simp [spec_GoodHeap.j0] at h, fun _ _ _ _ _ _ _ r h => by simp [spec_GoodHeap.l0] at h, fun _ _ _ _ _ _ _ _ _ _ _ r h => by simp [spec_GoodHeap.j2] at h, fun _ _ _ _ _ _ _ _ _ _ _ _ _ r h => by simp [spec_GoodHeap.l1] at h, fun _ _ _ _ _ _ _ r h => by simp [spec_GoodHeap.l2] at h, fun _ _ _ _ _ _ _ r h => by simp [spec_GoodHeap.l3] at h⟩
 | k + 1 => by
  obtain ⟨ih0, ih1, ih2, ih3, ih4, ih5⟩ := spec_GoodHeap.mono_l k
  refine ⟨?_, ?_, ?_, ?_, ?_, ?_⟩
  ·intro y0 y1 y2 y3 y4
   unfold spec_GoodHeap.j0
   repeat' first
   | with_reducible apply ih0
   | with_reducible apply ih1
   | with_reducible apply ih2
   | with_reducible apply ih3
   | with_reducible apply ih4
   | with_reducible apply ih5
   | with_reducible apply spec_l14At.mono
   | with_reducible apply spec_l14Link.mono
   | with_reducible apply spec_l14Young.mono
   | with_reducible apply spec_l1Has.mono
   | (with_reducible exact LeO.refl _)
   | (with_reducible exact LeO.none _)
   | (with_reducible refine LeO.ite ?_ ?_)
   | (with_reducible refine LeO.bind ?_ (fun _ => ?_))
   | apply ih0
   | apply ih1
   | apply ih2
   | apply ih3
   | apply ih4
   | apply ih5
   | apply spec_l14At.mono
   | apply spec_l14Link.mono
   | apply spec_l14Young.mono
   | apply spec_l1Has.mono
   | exact LeO.none _
   | refine LeO.ite ?_ ?_
   | refine LeO.bind ?_ (fun _ => ?_)
  ·intro y0 y1 y2 y3 y4 y5 y6
   unfold spec_GoodHeap.l0
   repeat' first
   | with_reducible apply ih0
   | with_reducible apply ih1
   | with_reducible apply ih2
   | with_reducible apply ih3
   | with_reducible apply ih4
   | with_reducible apply ih5
   | with_reducible apply spec_l14At.mono
   | with_reducible apply spec_l14Link.mono
   | with_reducible apply spec_l14Young.mono
   | with_reducible apply spec_l1Has.mono
   | (with_reducible exact LeO.refl _)
   | (with_reducible exact LeO.none _)
   | (with_reducible refine LeO.ite ?_ ?_)
   | (with_reducible refine LeO.bind ?_ (fun _ => ?_))
   | apply ih0
   | apply ih1
   | apply ih2
   | apply ih3
   | apply ih4
   | apply ih5
   | apply spec_l14At.mono
   | apply spec_l14Link.mono
   | apply spec_l14Young.mono
   | apply spec_l1Has.mono
   | exact LeO.none _
   | refine LeO.ite ?_ ?_
   | refine LeO.bind ?_ (fun _ => ?_)
  ·intro y0 y1 y2 y3 y4 y5 y6 y7 y8 y9 y10
   unfold spec_GoodHeap.j2
   repeat' first
   | with_reducible apply ih0
   | with_reducible apply ih1
   | with_reducible apply ih2
   | with_reducible apply ih3
   | with_reducible apply ih4
   | with_reducible apply ih5
   | with_reducible apply spec_l14At.mono
   | with_reducible apply spec_l14Link.mono
   | with_reducible apply spec_l14Young.mono
   | with_reducible apply spec_l1Has.mono
   | (with_reducible exact LeO.refl _)
   | (with_reducible exact LeO.none _)
   | (with_reducible refine LeO.ite ?_ ?_)
   | (with_reducible refine LeO.bind ?_ (fun _ => ?_))
   | apply ih0
   | apply ih1
   | apply ih2
   | apply ih3
   | apply ih4
   | apply ih5
   | apply spec_l14At.mono
   | apply spec_l14Link.mono
   | apply spec_l14Young.mono
   | apply spec_l1Has.mono
   | exact LeO.none _
   | refine LeO.ite ?_ ?_
   | refine LeO.bind ?_ (fun _ => ?_)
  ·intro y0 y1 y2 y3 y4 y5 y6 y7 y8 y9 y10 y11 y12
   unfold spec_GoodHeap.l1
   repeat' first
   | with_reducible apply ih0
   | with_reducible apply ih1
   | with_reducible apply ih2
   | with_reducible apply ih3
   | with_reducible apply ih4
   | with_reducible apply ih5
   | with_reducible apply spec_l14At.mono
   | with_reducible apply spec_l14Link.mono
   | with_reducible apply spec_l14Young.mono
   | with_reducible apply spec_l1Has.mono
   | (with_reducible exact LeO.refl _)
   | (with_reducible exact LeO.none _)
   | (with_reducible refine LeO.ite ?_ ?_)
   | (with_reducible refine LeO.bind ?_ (fun _ => ?_))
   | apply ih0
   | apply ih1
   | apply ih2
   | apply ih3
   | apply ih4
   | apply ih5
   | apply spec_l14At.mono
   | apply spec_l14Link.mono
   | apply spec_l14Young.mono
   | apply spec_l1Has.mono
   | exact LeO.none _
   | refine LeO.ite ?_ ?_
   | refine LeO.bind ?_ (fun _ => ?_)
  ·intro y0 y1 y2 y3 y4 y5 y6
   unfold spec_GoodHeap.l2
   repeat' first
   | with_reducible apply ih0
   | with_reducible apply ih1
   | with_reducible apply ih2
   | with_reducible apply ih3
   | with_reducible apply ih4
   | with_reducible apply ih5
   | with_reducible apply spec_l14At.mono
   | with_reducible apply spec_l14Link.mono
   | with_reducible apply spec_l14Young.mono
   | with_reducible apply spec_l1Has.mono
   | (with_reducible exact LeO.refl _)
   | (with_reducible exact LeO.none _)
   | (with_reducible refine LeO.ite ?_ ?_)
   | (with_reducible refine LeO.bind ?_ (fun _ => ?_))
   | apply ih0
   | apply ih1
   | apply ih2
   | apply ih3
   | apply ih4
   | apply ih5
   | apply spec_l14At.mono
   | apply spec_l14Link.mono
   | apply spec_l14Young.mono
   | apply spec_l1Has.mono
   | exact LeO.none _
   | refine LeO.ite ?_ ?_
   | refine LeO.bind ?_ (fun _ => ?_)
  ·intro y0 y1 y2 y3 y4 y5 y6
   unfold spec_GoodHeap.l3
   repeat' first
   | with_reducible apply ih0
   | with_reducible apply ih1
   | with_reducible apply ih2
   | with_reducible apply ih3
   | with_reducible apply ih4
   | with_reducible apply ih5
   | with_reducible apply spec_l14At.mono
   | with_reducible apply spec_l14Link.mono
   | with_reducible apply spec_l14Young.mono
   | with_reducible apply spec_l1Has.mono
   | (with_reducible exact LeO.refl _)
   | (with_reducible exact LeO.none _)
   | (with_reducible refine LeO.ite ?_ ?_)
   | (with_reducible refine LeO.bind ?_ (fun _ => ?_))
   | apply ih0
   | apply ih1
   | apply ih2
   | apply ih3
   | apply ih4
   | apply ih5
   | apply spec_l14At.mono
   | apply spec_l14Link.mono
   | apply spec_l14Young.mono
   | apply spec_l1Has.mono
   | exact LeO.none _
   | refine LeO.ite ?_ ?_
   | refine LeO.bind ?_ (fun _ => ?_)
theorem spec_GoodHeap.mono : ∀ a0 a1 a2 a3 k, LeO (spec_GoodHeap.f k a0 a1 a2 a3) (spec_GoodHeap.f (k + 1) a0 a1 a2 a3) := by
 intro a0 a1 a2 a3 k
 obtain ⟨ih0, ih1, ih2, ih3, ih4, ih5⟩ := spec_GoodHeap.mono_l k
 unfold spec_GoodHeap.f
 repeat' first
   | with_reducible apply ih0
   | with_reducible apply ih1
   | with_reducible apply ih2
   | with_reducible apply ih3
   | with_reducible apply ih4
   | with_reducible apply ih5
   | with_reducible apply spec_l14At.mono
   | with_reducible apply spec_l14Link.mono
   | with_reducible apply spec_l14Young.mono
   | with_reducible apply spec_l1Has.mono
   | (with_reducible exact LeO.refl _)
   | (with_reducible exact LeO.none _)
   | (with_reducible refine LeO.ite ?_ ?_)
   | (with_reducible refine LeO.bind ?_ (fun _ => ?_))
   | apply ih0
   | apply ih1
   | apply ih2
   | apply ih3
   | apply ih4
   | apply ih5
   | apply spec_l14At.mono
   | apply spec_l14Link.mono
   | apply spec_l14Young.mono
   | apply spec_l1Has.mono
   | exact LeO.none _
   | refine LeO.ite ?_ ?_
   | refine LeO.bind ?_ (fun _ => ?_)
set_option maxHeartbeats 8000000 in
set_option maxRecDepth 100000 in
theorem spec_GoodHeap.calls (k : Nat) (A0_0 : Option Addr) (c0_0 : Nat) (l0_0 : List (S45)) (A0_1 : Option Addr) (c0_1 : Nat) (l0_1 : List Int) (A0_2 : Option Addr) (c0_2 : Nat) (l0_2 : List Int) (a0_3 : Int) (r : Bool) (w : World) (hr0_0 : Kd.C k45 w A0_0 l0_0.length l0_0) (hc0_0 : l0_0.length ≤ c0_0) (hr0_1 : Kd.C (Kd.int .i64) w A0_1 l0_1.length l0_1) (hc0_1 : l0_1.length ≤ c0_1) (hr0_2 : Kd.C (Kd.int .i64) w A0_2 l0_2.length l0_2) (hc0_2 : l0_2.length ≤ c0_2) (h : spec_GoodHeap.f k l0_0 l0_1 l0_2 a0_3 = some r) :
  Calls Try.prog 15 #[.agg #[.slice A0_0 l0_0.length c0_0, .slice A0_1 l0_1.length c0_1, .slice A0_2 l0_2.length c0_2, .int .i64 a0_3]] w fun e w' => e = .returned (.bool r) ∧ Below w.heap.size w w' := by
 have hu25 := Try.underlying25
 have hu45 := Try.underlying45
 have HR0_0 := Aside0.mk hr0_0
 have HC0_0 := Aside0.mk hc0_0
 clear hr0_0 hc0_0
 have HR0_1 := Aside0.mk hr0_1
 have HC0_1 := Aside0.mk hc0_1
 clear hr0_1 hc0_1
 have HR0_2 := Aside0.mk hr0_2
 have HC0_2 := Aside0.mk hc0_2
 clear hr0_2 hc0_2
 have HB := Aside0.mk (Below.refl w.heap.size w)
 have H : (if (l0_0.length : Int) > 24 then (spec_GoodHeap.j0 k true l0_0 l0_1 l0_2 a0_3) else (if (l0_1.length : Int) = 6 then ((spec_l1In.f a0_3 0 1000).bind fun t165 => (spec_GoodHeap.j0 k (!t165) l0_0 l0_1 l0_2 a0_3)) else (spec_GoodHeap.j0 k true l0_0 l0_1 l0_2 a0_3))) = some r := h
 clear h
 have HC2 := Aside0.mk H
 clear H
 go_enter Try.func15, Try.ntmps15
 go_upto_region 1 with (first | ((with_reducible refine gate_dst (N := 1) rfl ?_); (try (refine gate_guard (by rfl) ?_; dsimp only)); refine bxe 1 #[.slice A0_0 l0_0.length c0_0, .slice A0_1 l0_1.length c0_1, .slice A0_2 l0_2.length c0_2, .int .i64 a0_3] 25 ?_; intro gb164 hg w3 hbox hb; have n0_ := Aside0.mk (below_step lB hb); have n1_ := Aside0.mk (hbox); have n2_ := lG w hg; have n3_ := lG w hg; clear HB; have HB := n0_; have BK164 := n1_; have GW164 := n2_; have GE164 := n3_; clear n0_ n1_ n2_ n3_; clear hb hbox hg))
 repeat (go_quiet (fail); go_upto_region 1 with (first | ((with_reducible refine gate_dst (N := 1) rfl ?_); (try (refine gate_guard (by rfl) ?_; dsimp only)); refine bxe 1 #[.slice A0_0 l0_0.length c0_0, .slice A0_1 l0_1.length c0_1, .slice A0_2 l0_2.length c0_2, .int .i64 a0_3] 25 ?_; intro gb164 hg w3 hbox hb; have n0_ := Aside0.mk (below_step lB hb); have n1_ := Aside0.mk (hbox); have n2_ := lG w hg; have n3_ := lG w hg; clear HB; have HB := n0_; have BK164 := n1_; have GW164 := n2_; have GE164 := n3_; clear n0_ n1_ n2_ n3_; clear hb hbox hg)))
 (try simp only [Act.put, List.setIfInBounds_toArray, List.set_cons_zero, List.set_cons_succ])
 go_cut [27] (fun v27 wc => ∃ (kq : Nat) (x27_1 : Bool), v27 = .bool x27_1 ∧ Aside0 (spec_GoodHeap.j0 kq x27_1 l0_0 l0_1 l0_2 a0_3 = some r) ∧ Aside0 (kq ≤ k) ∧ Aside0 (wc.heap[gb164]? = some (.cells #[(.slice A0_0 l0_0.length c0_0), (.slice A0_1 l0_1.length c0_1), (.slice A0_2 l0_2.length c0_2), .int .i64 a0_3] 25 (0, 0))) ∧ Aside0 (Below w.heap.size w wc))
 case first =>
  have H := HC2.out
  clear HC2
  by_cases c4 : (l0_0.length : Int) > 24
  ·rw [if_pos c4] at H
   have c4b0 : decide (24 < (l0_0.length : Int)) = true := decide_eq_true c4
   have c4b1 : decide (24 < l0_0.length) = true := decide_eq_true (by omega)
   clear c4
   (first | rw [c4b0] | (simp only [i64_w, i32_w]; rw [c4b0]) | skip)
   have H' := Aside0.mk H
   clear H
   obtain ⟨hcz5_0, hfz5_0, hcz5_1, hfz5_1, hcz5_2, hfz5_2, hcz5_3, hfz5_3⟩ := bk4 BK164.out
   go_wp2
   repeat (go_quiet (fail); try go_wp2)
   go_meet
   case rel => exact ⟨_, (true), lF, H', ⟨lN⟩, ⟨lK BK164.out⟩, ⟨lB⟩⟩
  ·rw [if_neg c4] at H
   have c4b0 : decide (24 < (l0_0.length : Int)) = false := decide_eq_false c4
   have c4b1 : decide (24 < l0_0.length) = false := decide_eq_false (by omega)
   clear c4
   (first | rw [c4b0] | (simp only [i64_w, i32_w]; rw [c4b0]) | skip)
   by_cases c6 : (l0_1.length : Int) = 6
   ·rw [if_pos c6] at H
    have c6b0 : ((l0_1.length : Int) == 6) = true := beq_iff_eq.mpr c6
    have c6b1 : ((l0_1.length : Int) != 6) = false := bne_eq_false_iff_eq.mpr c6
    clear c6
    replace H := lO H
    obtain ⟨t165, A7, H⟩ := H
    have H' := Aside0.mk H
    clear H
    obtain ⟨hcz8_0, hfz8_0, hcz8_1, hfz8_1, hcz8_2, hfz8_2, hcz8_3, hfz8_3⟩ := bk4 BK164.out
    go_wp2_with (first | (go_at_call 35; (with_reducible refine (spec_l1In.calls a0_3 0 1000 t165 _ A7.out).mono ?_); rintro e w' ⟨rfl, ⟨nd, rfl⟩⟩; (try first | exact ⟨rfl, _, World.drewN_drewN _ _ _⟩ | exact ⟨rfl, _, Eq.trans (World.drewN_drewN _ _ _) (congrArg (World.drewN _) (Nat.add_assoc _ _ _))⟩)))
    repeat (go_quiet (first | (go_at_call 35; (with_reducible refine (spec_l1In.calls a0_3 0 1000 t165 _ A7.out).mono ?_); rintro e w' ⟨rfl, ⟨nd, rfl⟩⟩; (try first | exact ⟨rfl, _, World.drewN_drewN _ _ _⟩ | exact ⟨rfl, _, Eq.trans (World.drewN_drewN _ _ _) (congrArg (World.drewN _) (Nat.add_assoc _ _ _))⟩))); try go_wp2_with (first | (go_at_call 35; (with_reducible refine (spec_l1In.calls a0_3 0 1000 t165 _ A7.out).mono ?_); rintro e w' ⟨rfl, ⟨nd, rfl⟩⟩; (try first | exact ⟨rfl, _, World.drewN_drewN _ _ _⟩ | exact ⟨rfl, _, Eq.trans (World.drewN_drewN _ _ _) (congrArg (World.drewN _) (Nat.add_assoc _ _ _))⟩))))
    go_meet
    case rel => exact ⟨_, (!t165), lF, H', ⟨lN⟩, ⟨lK BK164.out⟩, ⟨lB⟩⟩
   ·rw [if_neg c6] at H
    have c6b0 : ((l0_1.length : Int) == 6) = false := beq_eq_false_iff_ne.mpr c6
    have c6b1 : ((l0_1.length : Int) != 6) = true := bne_iff_ne.mpr c6
    have H' := Aside0.mk H
    clear H
    obtain ⟨hcz9_0, hfz9_0, hcz9_1, hfz9_1, hcz9_2, hfz9_2, hcz9_3, hfz9_3⟩ := bk4 BK164.out
    go_wp2
    repeat (go_quiet (fail); try go_wp2)
    go_meet
    case rel => exact ⟨_, (true), lF, H', ⟨lN⟩, ⟨lK BK164.out⟩, ⟨lB⟩⟩
 case rest =>
  clear HC2
  try clear c1
  try clear p2
  try clear c4
  try clear c4b0
  try clear c4b1
  try clear c6
  try clear c6b0
  try clear c6b1
  try clear hcz5_0 hcz5_1 hcz5_2 hcz5_3
  try clear hcz8_0 hcz8_1 hcz8_2 hcz8_3
  try clear hcz9_0 hcz9_1 hcz9_2 hcz9_3
  try clear hfz5_0 hfz5_1 hfz5_2 hfz5_3
  try clear hfz8_0 hfz8_1 hfz8_2 hfz8_3
  try clear hfz9_0 hfz9_1 hfz9_2 hfz9_3
  obtain ⟨kq, x27_1, rfl, HA, HJ1, BK164, HB⟩ := hcut
  cases kq with
  | zero => exact absurd HA.out (by simp [spec_GoodHeap.j0])
  | succ kj1 =>
   have H := HA.out
   clear HA
   simp only [spec_GoodHeap.j0] at H
   by_cases c10 : x27_1 = true
   ·subst c10
    rw [if_pos rfl] at H
    obtain rfl := Option.some.inj H
    go_wp2
    repeat (go_quiet (fail); try go_wp2)
    go_ret
    exact ⟨lE, lB⟩
   ·replace c10 := Bool.eq_false_iff.mpr c10
    subst c10
    rw [if_neg (show ¬ (false = true) by decide)] at H
    have H' := Aside0.mk H
    clear H
    obtain ⟨hcz11_0, hfz11_0, hcz11_1, hfz11_1, hcz11_2, hfz11_2, hcz11_3, hfz11_3⟩ := bk4 BK164.out
    go_wp2
    repeat (go_quiet (fail); try go_wp2)
    go_loopg [31] kj1 (fun kq v31 w' => ∃ (x31_2 : Int), v31 = .int .i64 x31_2 ∧ Aside0 (spec_GoodHeap.l0 kq l0_0 (l0_0.length : Int) x31_2 l0_0 l0_1 l0_2 a0_3 = some r) ∧ Aside0 (kq ≤ kj1) ∧ Aside0 (w'.heap[gb164]? = some (.cells #[(.slice A0_0 l0_0.length c0_0), (.slice A0_1 l0_1.length c0_1), (.slice A0_2 l0_2.length c0_2), .int .i64 a0_3] 25 (0, 0))) ∧ Aside0 (Below w.heap.size w w'))
    case atStart => exact ⟨(0), lF, H', ⟨Nat.le_refl _⟩, ⟨lK BK164.out⟩, ⟨lB⟩⟩
    case round =>
     clear H'
     try clear c1
     try clear p2
     try clear c4
     try clear c4b0
     try clear c4b1
     try clear c6
     try clear c6b0
     try clear c6b1
     try clear c10
     try clear hcz11_0 hcz11_1 hcz11_2 hcz11_3
     try clear hcz5_0 hcz5_1 hcz5_2 hcz5_3
     try clear hcz8_0 hcz8_1 hcz8_2 hcz8_3
     try clear hcz9_0 hcz9_1 hcz9_2 hcz9_3
     try clear hfz11_0 hfz11_1 hfz11_2 hfz11_3
     try clear hfz5_0 hfz5_1 hfz5_2 hfz5_3
     try clear hfz8_0 hfz8_1 hfz8_2 hfz8_3
     try clear hfz9_0 hfz9_1 hfz9_2 hfz9_3
     try clear p2
     obtain ⟨x31_2, rfl, HA, HK2, BK164, HB⟩ := hrel
     cases gk with
     | zero => exact absurd HA.out (by simp [spec_GoodHeap.l0])
     | succ k2 =>
      have H := HA.out
      clear HA
      simp only [spec_GoodHeap.l0] at H
      by_cases c12 : x31_2 < (l0_0.length : Int)
      ·rw [if_pos c12] at H
       have c12b0 : decide (x31_2 < (l0_0.length : Int)) = true := decide_eq_true c12
       clear c12
       by_cases c13 : 0 ≤ x31_2
       ·rw [if_pos c13] at H
        have c13b0 : decide (0 ≤ x31_2) = true := decide_eq_true c13
        clear c13
        by_cases c14 : x31_2 < (l0_0.length : Int)
        ·rw [if_pos c14] at H
         have c14b0 : decide (x31_2 < (l0_0.length : Int)) = true := decide_eq_true c14
         clear c14
         have HC15 := Aside0.mk H
         clear H
         have p166 : 0 ≤ (x31_2 : Int) := lD
         have q166 : x31_2 < (l0_0.length : Int) := lD
         obtain ⟨ad166, A166_2, c166_2, e166, hx166_0, hx166_1, hx166_2, hl166_2, hi166_2⟩ := at_T45 HR0_0.out x31_2 p166 q166
         cases e166
         replace hx166_0 := pw_cell_below HB.out hx166_0
         replace hx166_1 := pw_cell_below HB.out hx166_1
         replace hx166_2 := pw_cell_below HB.out hx166_2
         have HR166_2 := Aside0.mk hi166_2
         have HC166_2 := Aside0.mk hl166_2
         clear hi166_2 hl166_2
         replace p166 := eq_true p166
         replace q166 := eq_true q166
         go_upto_region 6 with (first | ((with_reducible refine gate_dst (N := 4) rfl ?_); (try (refine gate_guard (by rfl) ?_; dsimp only)); refine bxe 4 #[.int .i64 0, .bool false, .slice none 0 0] 45 ?_; intro gb167 hg w16 hbox hb; have n0_ := Aside0.mk (blk_below (lK BK164.out) hb); have n1_ := Aside0.mk (below_step lB hb); have n2_ := Aside0.mk (hbox); have n3_ := lG w hg; have n4_ := lG w hg; have n5_ := Aside0.mk ((by rw [hg]; exact Nat.ne_of_lt (blk_lt (lK BK164.out)) : gb164 ≠ gb167)); have n6_ := Aside0.mk ((by rw [hg]; exact Nat.ne_of_gt (blk_lt (lK BK164.out)) : gb167 ≠ gb164)); clear BK164; clear HB; have BK164 := n0_; have HB := n1_; have BK167 := n2_; have GW167 := n3_; have GE167 := n4_; have NB164_167 := n5_; have NB167_164 := n6_; clear n0_ n1_ n2_ n3_ n4_ n5_ n6_; clear hb hbox hg; have hnb17 := NB167_164.out; have hnc17 := NB164_167.out; obtain ⟨hcz18_0, hfz18_0, hcz18_1, hfz18_1, hcz18_2, hfz18_2⟩ := bk3 BK167.out))
         repeat (go_quiet (fail); go_upto_region 6 with (first | ((with_reducible refine gate_dst (N := 4) rfl ?_); (try (refine gate_guard (by rfl) ?_; dsimp only)); refine bxe 4 #[.int .i64 0, .bool false, .slice none 0 0] 45 ?_; intro gb167 hg w16 hbox hb; have n0_ := Aside0.mk (blk_below (lK BK164.out) hb); have n1_ := Aside0.mk (below_step lB hb); have n2_ := Aside0.mk (hbox); have n3_ := lG w hg; have n4_ := lG w hg; have n5_ := Aside0.mk ((by rw [hg]; exact Nat.ne_of_lt (blk_lt (lK BK164.out)) : gb164 ≠ gb167)); have n6_ := Aside0.mk ((by rw [hg]; exact Nat.ne_of_gt (blk_lt (lK BK164.out)) : gb167 ≠ gb164)); clear BK164; clear HB; have BK164 := n0_; have HB := n1_; have BK167 := n2_; have GW167 := n3_; have GE167 := n4_; have NB164_167 := n5_; have NB167_164 := n6_; clear n0_ n1_ n2_ n3_ n4_ n5_ n6_; clear hb hbox hg; have hnb17 := NB167_164.out; have hnc17 := NB164_167.out; obtain ⟨hcz18_0, hfz18_0, hcz18_1, hfz18_1, hcz18_2, hfz18_2⟩ := bk3 BK167.out)))
         (try simp only [Act.put, List.setIfInBounds_toArray, List.set_cons_zero, List.set_cons_succ])
         go_cut [67] (fun v67 wc => ∃ (kq : Nat) (x67_14 : Bool), v67 = .bool x67_14 ∧ Aside0 (spec_GoodHeap.j2 kq l0_0 (l0_0.length : Int) x31_2 x67_14 l0_0 l0_1 l0_2 a0_3 ((rd_T45 l0_0 x31_2).f0) ((rd_T45 l0_0 x31_2).f1) ((rd_T45 l0_0 x31_2).f2) = some r) ∧ Aside0 (kq ≤ k2) ∧ Aside0 (wc.heap[gb164]? = some (.cells #[(.slice (some ad166) l0_0.length c0_0), (.slice A0_1 l0_1.length c0_1), (.slice A0_2 l0_2.length c0_2), .int .i64 a0_3] 25 (0, 0))) ∧ Aside0 (wc.heap[gb167]? = some (.cells #[.int .i64 ((rd_T45 l0_0 x31_2).f0), .bool ((rd_T45 l0_0 x31_2).f1), (.slice A166_2 ((rd_T45 l0_0 x31_2).f2).length c166_2)] 45 (0, 0))) ∧ Aside0 (Below w.heap.size w wc))
         case first =>
          have H := HC15.out
          clear HC15
          by_cases c19 : ((rd_T45 l0_0 x31_2).f0) < 0
          ·rw [if_pos c19] at H
           have c19b0 : decide (((rd_T45 l0_0 x31_2).f0) < 0) = true := decide_eq_true c19
           clear c19
           (first | rw [c19b0] | (simp only [i64_w, i32_w]; rw [c19b0]) | skip)
           have H' := Aside0.mk H
           clear H
           have hnb20 := NB167_164.out
           have hnc20 := NB164_167.out
           obtain ⟨hcz21_0, hfz21_0, hcz21_1, hfz21_1, hcz21_2, hfz21_2⟩ := bk3 BK167.out
           go_wp2
           repeat (go_quiet (fail); try go_wp2)
           go_meet
           case rel => exact ⟨_, (true), lF, H', ⟨by have := HJ1.out; have := HK2.out; first | omega | exact Nat.le_refl _⟩, ⟨lJ BK164.out⟩, ⟨by (with_reducible repeat first | apply bN | apply bD | apply bA); refine blk_put (cs := #[.int .i64 ((rd_T45 l0_0 x31_2).f0), .bool ((rd_T45 l0_0 x31_2).f1), .slice none 0 0]) ?_ 2 _ rfl; (with_reducible repeat first | apply bN | apply bD | apply bA); refine blk_put (cs := #[.int .i64 ((rd_T45 l0_0 x31_2).f0), .bool false, .slice none 0 0]) ?_ 1 _ rfl; (with_reducible repeat first | apply bN | apply bD | apply bA); refine blk_put (cs := #[.int .i64 0, .bool false, .slice none 0 0]) ?_ 0 _ rfl; (with_reducible repeat first | apply bN | apply bD | apply bA); exact BK167.out⟩, ⟨lB⟩⟩
          ·rw [if_neg c19] at H
           have c19b0 : decide (((rd_T45 l0_0 x31_2).f0) < 0) = false := decide_eq_false c19
           clear c19
           (first | rw [c19b0] | (simp only [i64_w, i32_w]; rw [c19b0]) | skip)
           by_cases c22 : ((rd_T45 l0_0 x31_2).f0) ≥ a0_3
           ·rw [if_pos c22] at H
            have c22b0 : decide (a0_3 ≤ ((rd_T45 l0_0 x31_2).f0)) = true := decide_eq_true c22
            clear c22
            have H' := Aside0.mk H
            clear H
            have hnb23 := NB167_164.out
            have hnc23 := NB164_167.out
            obtain ⟨hcz24_0, hfz24_0, hcz24_1, hfz24_1, hcz24_2, hfz24_2⟩ := bk3 BK167.out
            obtain ⟨hcz25_0, hfz25_0, hcz25_1, hfz25_1, hcz25_2, hfz25_2, hcz25_3, hfz25_3⟩ := bk4 BK164.out
            go_wp2
            repeat (go_quiet (fail); try go_wp2)
            go_meet
            case rel => exact ⟨_, (true), lF, H', ⟨by have := HJ1.out; have := HK2.out; first | omega | exact Nat.le_refl _⟩, ⟨lJ BK164.out⟩, ⟨by (with_reducible repeat first | apply bN | apply bD | apply bA); refine blk_put (cs := #[.int .i64 ((rd_T45 l0_0 x31_2).f0), .bool ((rd_T45 l0_0 x31_2).f1), .slice none 0 0]) ?_ 2 _ rfl; (with_reducible repeat first | apply bN | apply bD | apply bA); refine blk_put (cs := #[.int .i64 ((rd_T45 l0_0 x31_2).f0), .bool false, .slice none 0 0]) ?_ 1 _ rfl; (with_reducible repeat first | apply bN | apply bD | apply bA); refine blk_put (cs := #[.int .i64 0, .bool false, .slice none 0 0]) ?_ 0 _ rfl; (with_reducible repeat first | apply bN | apply bD | apply bA); exact BK167.out⟩, ⟨lB⟩⟩
           ·rw [if_neg c22] at H
            have c22b0 : decide (a0_3 ≤ ((rd_T45 l0_0 x31_2).f0)) = false := decide_eq_false c22
            clear c22
            by_cases c26 : x31_2 > 0
            ·rw [if_pos c26] at H
             have c26b0 : decide (0 < x31_2) = true := decide_eq_true c26
             clear c26
             obtain ⟨ji27, hji27⟩ : ∃ j_ : Int, (wrap64 (x31_2 - 1)) = j_ := ⟨_, rfl⟩
             replace H : (if 0 ≤ (ji27) then (if (ji27) < (l0_0.length : Int) then (if ((rd_T45 l0_0 (ji27)).f0) ≥ ((rd_T45 l0_0 x31_2).f0) then (spec_GoodHeap.j2 k2 l0_0 (l0_0.length : Int) x31_2 true l0_0 l0_1 l0_2 a0_3 ((rd_T45 l0_0 x31_2).f0) ((rd_T45 l0_0 x31_2).f1) ((rd_T45 l0_0 x31_2).f2)) else (spec_GoodHeap.j2 k2 l0_0 (l0_0.length : Int) x31_2 ((((rd_T45 l0_0 x31_2).f2).length : Int) != 2) l0_0 l0_1 l0_2 a0_3 ((rd_T45 l0_0 x31_2).f0) ((rd_T45 l0_0 x31_2).f1) ((rd_T45 l0_0 x31_2).f2))) else (none)) else (none)) = some r := by first | (rw [hji27] at H; exact H) | (simp only [hji27] at H ⊢; exact H)
             have hji27w : (IntKind.i64.wrap (x31_2 - 1)) = ji27 := (i64_w _).trans hji27
             by_cases c28 : 0 ≤ (ji27)
             ·rw [if_pos c28] at H
              have c28b0 : decide (0 ≤ (ji27)) = true := decide_eq_true c28
              clear c28
              by_cases c29 : (ji27) < (l0_0.length : Int)
              ·rw [if_pos c29] at H
               have c29b0 : decide ((ji27) < (l0_0.length : Int)) = true := decide_eq_true c29
               clear c29
               by_cases c30 : ((rd_T45 l0_0 (ji27)).f0) ≥ ((rd_T45 l0_0 x31_2).f0)
               ·rw [if_pos c30] at H
                have c30b0 : decide (((rd_T45 l0_0 x31_2).f0) ≤ ((rd_T45 l0_0 (ji27)).f0)) = true := decide_eq_true c30
                clear c30
                have H' := Aside0.mk H
                clear H
                have hnb31 := NB167_164.out
                have hnc31 := NB164_167.out
                obtain ⟨hcz32_0, hfz32_0, hcz32_1, hfz32_1, hcz32_2, hfz32_2⟩ := bk3 BK167.out
                obtain ⟨hcz33_0, hfz33_0, hcz33_1, hfz33_1, hcz33_2, hfz33_2, hcz33_3, hfz33_3⟩ := bk4 BK164.out
                have p168 : 0 ≤ ((ji27) : Int) := lD
                have q168 : (ji27) < (l0_0.length : Int) := lD
                obtain ⟨ad168, A168_2, c168_2, e168, hx168_0, hx168_1, hx168_2, hl168_2, hi168_2⟩ := at_T45 HR0_0.out (ji27) p168 q168
                obtain rfl : ad166 = ad168 := (by injection e168)
                have hn168_0 : ad166.block ≠ gb167 := Nat.ne_of_lt (Nat.lt_of_lt_of_le (by have := World.block_lt_of_cell? _ _ hx168_0; first | rwa [add_block] at this | exact this) GW167.out)
                have hn168_1 : ad166.block ≠ gb167 := Nat.ne_of_lt (Nat.lt_of_lt_of_le (by have := World.block_lt_of_cell? _ _ hx168_0; first | rwa [add_block] at this | exact this) GW167.out)
                have hn168_2 : ad166.block ≠ gb167 := Nat.ne_of_lt (Nat.lt_of_lt_of_le (by have := World.block_lt_of_cell? _ _ hx168_0; first | rwa [add_block] at this | exact this) GW167.out)
                replace hx168_0 := pw_cell_below HB.out hx168_0
                replace hx168_1 := pw_cell_below HB.out hx168_1
                replace hx168_2 := pw_cell_below HB.out hx168_2
                have HR168_2 := Aside0.mk hi168_2
                have HC168_2 := Aside0.mk hl168_2
                clear hi168_2 hl168_2
                replace hx168_0 := (cell_far (p := ⟨gb167, 0, none⟩) (by first | (rw [add_block]; exact hn168_0) | (show (Addr.add _ _).block ≠ _; rw [add_block]; exact hn168_0) | exact hn168_0) (.int .i64 ((rd_T45 l0_0 x31_2).f0))).trans hx168_0
                replace hx168_1 := (cell_far (p := ⟨gb167, 0, none⟩) (by first | (rw [add_block]; exact hn168_0) | (show (Addr.add _ _).block ≠ _; rw [add_block]; exact hn168_0) | exact hn168_0) (.int .i64 ((rd_T45 l0_0 x31_2).f0))).trans hx168_1
                replace hx168_2 := (cell_far (p := ⟨gb167, 0, none⟩) (by first | (rw [add_block]; exact hn168_0) | (show (Addr.add _ _).block ≠ _; rw [add_block]; exact hn168_0) | exact hn168_0) (.int .i64 ((rd_T45 l0_0 x31_2).f0))).trans hx168_2
                replace hx168_0 := (cell_far (p := ⟨gb167, 1, none⟩) (by first | (rw [add_block]; exact hn168_1) | (show (Addr.add _ _).block ≠ _; rw [add_block]; exact hn168_1) | exact hn168_1) (.bool ((rd_T45 l0_0 x31_2).f1))).trans hx168_0
                replace hx168_1 := (cell_far (p := ⟨gb167, 1, none⟩) (by first | (rw [add_block]; exact hn168_1) | (show (Addr.add _ _).block ≠ _; rw [add_block]; exact hn168_1) | exact hn168_1) (.bool ((rd_T45 l0_0 x31_2).f1))).trans hx168_1
                replace hx168_2 := (cell_far (p := ⟨gb167, 1, none⟩) (by first | (rw [add_block]; exact hn168_1) | (show (Addr.add _ _).block ≠ _; rw [add_block]; exact hn168_1) | exact hn168_1) (.bool ((rd_T45 l0_0 x31_2).f1))).trans hx168_2
                replace hx168_0 := (cell_far (p := ⟨gb167, 2, none⟩) (by first | (rw [add_block]; exact hn168_2) | (show (Addr.add _ _).block ≠ _; rw [add_block]; exact hn168_2) | exact hn168_2) (.slice A166_2 ((rd_T45 l0_0 x31_2).f2).length c166_2)).trans hx168_0
                replace hx168_1 := (cell_far (p := ⟨gb167, 2, none⟩) (by first | (rw [add_block]; exact hn168_2) | (show (Addr.add _ _).block ≠ _; rw [add_block]; exact hn168_2) | exact hn168_2) (.slice A166_2 ((rd_T45 l0_0 x31_2).f2).length c166_2)).trans hx168_1
                replace hx168_2 := (cell_far (p := ⟨gb167, 2, none⟩) (by first | (rw [add_block]; exact hn168_2) | (show (Addr.add _ _).block ≠ _; rw [add_block]; exact hn168_2) | exact hn168_2) (.slice A166_2 ((rd_T45 l0_0 x31_2).f2).length c166_2)).trans hx168_2
                (try have hy168_0 := fun (n_ : Nat) => (show (((((w16.drewN n_).setCell ⟨gb167, 0, none⟩ (.int .i64 ((rd_T45 l0_0 x31_2).f0))).setCell ⟨gb167, 1, none⟩ (.bool ((rd_T45 l0_0 x31_2).f1))).setCell ⟨gb167, 2, none⟩ (.slice A166_2 ((rd_T45 l0_0 x31_2).f2).length c166_2))).cell? _ = some _ from hx168_0))
                (try have hy168_1 := fun (n_ : Nat) => (show (((((w16.drewN n_).setCell ⟨gb167, 0, none⟩ (.int .i64 ((rd_T45 l0_0 x31_2).f0))).setCell ⟨gb167, 1, none⟩ (.bool ((rd_T45 l0_0 x31_2).f1))).setCell ⟨gb167, 2, none⟩ (.slice A166_2 ((rd_T45 l0_0 x31_2).f2).length c166_2))).cell? _ = some _ from hx168_1))
                (try have hy168_2 := fun (n_ : Nat) => (show (((((w16.drewN n_).setCell ⟨gb167, 0, none⟩ (.int .i64 ((rd_T45 l0_0 x31_2).f0))).setCell ⟨gb167, 1, none⟩ (.bool ((rd_T45 l0_0 x31_2).f1))).setCell ⟨gb167, 2, none⟩ (.slice A166_2 ((rd_T45 l0_0 x31_2).f2).length c166_2))).cell? _ = some _ from hx168_2))
                clear hn168_0
                clear hn168_1
                clear hn168_2
                replace p168 := eq_true p168
                replace q168 := eq_true q168
                go_wp2
                repeat (go_quiet (fail); try go_wp2)
                go_meet
                case rel => exact ⟨_, (true), lF, H', ⟨by have := HJ1.out; have := HK2.out; first | omega | exact Nat.le_refl _⟩, ⟨lJ BK164.out⟩, ⟨by (with_reducible repeat first | apply bN | apply bD | apply bA); refine blk_put (cs := #[.int .i64 ((rd_T45 l0_0 x31_2).f0), .bool ((rd_T45 l0_0 x31_2).f1), .slice none 0 0]) ?_ 2 _ rfl; (with_reducible repeat first | apply bN | apply bD | apply bA); refine blk_put (cs := #[.int .i64 ((rd_T45 l0_0 x31_2).f0), .bool false, .slice none 0 0]) ?_ 1 _ rfl; (with_reducible repeat first | apply bN | apply bD | apply bA); refine blk_put (cs := #[.int .i64 0, .bool false, .slice none 0 0]) ?_ 0 _ rfl; (with_reducible repeat first | apply bN | apply bD | apply bA); exact BK167.out⟩, ⟨lB⟩⟩
               ·rw [if_neg c30] at H
                have c30b0 : decide (((rd_T45 l0_0 x31_2).f0) ≤ ((rd_T45 l0_0 (ji27)).f0)) = false := decide_eq_false c30
                clear c30
                have H' := Aside0.mk H
                clear H
                have hnb34 := NB167_164.out
                have hnc34 := NB164_167.out
                obtain ⟨hcz35_0, hfz35_0, hcz35_1, hfz35_1, hcz35_2, hfz35_2⟩ := bk3 BK167.out
                obtain ⟨hcz36_0, hfz36_0, hcz36_1, hfz36_1, hcz36_2, hfz36_2, hcz36_3, hfz36_3⟩ := bk4 BK164.out
                have p168 : 0 ≤ ((ji27) : Int) := lD
                have q168 : (ji27) < (l0_0.length : Int) := lD
                obtain ⟨ad168, A168_2, c168_2, e168, hx168_0, hx168_1, hx168_2, hl168_2, hi168_2⟩ := at_T45 HR0_0.out (ji27) p168 q168
                obtain rfl : ad166 = ad168 := (by injection e168)
                have hn168_0 : ad166.block ≠ gb167 := Nat.ne_of_lt (Nat.lt_of_lt_of_le (by have := World.block_lt_of_cell? _ _ hx168_0; first | rwa [add_block] at this | exact this) GW167.out)
                have hn168_1 : ad166.block ≠ gb167 := Nat.ne_of_lt (Nat.lt_of_lt_of_le (by have := World.block_lt_of_cell? _ _ hx168_0; first | rwa [add_block] at this | exact this) GW167.out)
                have hn168_2 : ad166.block ≠ gb167 := Nat.ne_of_lt (Nat.lt_of_lt_of_le (by have := World.block_lt_of_cell? _ _ hx168_0; first | rwa [add_block] at this | exact this) GW167.out)
                replace hx168_0 := pw_cell_below HB.out hx168_0
                replace hx168_1 := pw_cell_below HB.out hx168_1
                replace hx168_2 := pw_cell_below HB.out hx168_2
                have HR168_2 := Aside0.mk hi168_2
                have HC168_2 := Aside0.mk hl168_2
                clear hi168_2 hl168_2
                replace hx168_0 := (cell_far (p := ⟨gb167, 0, none⟩) (by first | (rw [add_block]; exact hn168_0) | (show (Addr.add _ _).block ≠ _; rw [add_block]; exact hn168_0) | exact hn168_0) (.int .i64 ((rd_T45 l0_0 x31_2).f0))).trans hx168_0
                replace hx168_1 := (cell_far (p := ⟨gb167, 0, none⟩) (by first | (rw [add_block]; exact hn168_0) | (show (Addr.add _ _).block ≠ _; rw [add_block]; exact hn168_0) | exact hn168_0) (.int .i64 ((rd_T45 l0_0 x31_2).f0))).trans hx168_1
                replace hx168_2 := (cell_far (p := ⟨gb167, 0, none⟩) (by first | (rw [add_block]; exact hn168_0) | (show (Addr.add _ _).block ≠ _; rw [add_block]; exact hn168_0) | exact hn168_0) (.int .i64 ((rd_T45 l0_0 x31_2).f0))).trans hx168_2
                replace hx168_0 := (cell_far (p := ⟨gb167, 1, none⟩) (by first | (rw [add_block]; exact hn168_1) | (show (Addr.add _ _).block ≠ _; rw [add_block]; exact hn168_1) | exact hn168_1) (.bool ((rd_T45 l0_0 x31_2).f1))).trans hx168_0
                replace hx168_1 := (cell_far (p := ⟨gb167, 1, none⟩) (by first | (rw [add_block]; exact hn168_1) | (show (Addr.add _ _).block ≠ _; rw [add_block]; exact hn168_1) | exact hn168_1) (.bool ((rd_T45 l0_0 x31_2).f1))).trans hx168_1
                replace hx168_2 := (cell_far (p := ⟨gb167, 1, none⟩) (by first | (rw [add_block]; exact hn168_1) | (show (Addr.add _ _).block ≠ _; rw [add_block]; exact hn168_1) | exact hn168_1) (.bool ((rd_T45 l0_0 x31_2).f1))).trans hx168_2
                replace hx168_0 := (cell_far (p := ⟨gb167, 2, none⟩) (by first | (rw [add_block]; exact hn168_2) | (show (Addr.add _ _).block ≠ _; rw [add_block]; exact hn168_2) | exact hn168_2) (.slice A166_2 ((rd_T45 l0_0 x31_2).f2).length c166_2)).trans hx168_0
                replace hx168_1 := (cell_far (p := ⟨gb167, 2, none⟩) (by first | (rw [add_block]; exact hn168_2) | (show (Addr.add _ _).block ≠ _; rw [add_block]; exact hn168_2) | exact hn168_2) (.slice A166_2 ((rd_T45 l0_0 x31_2).f2).length c166_2)).trans hx168_1
                replace hx168_2 := (cell_far (p := ⟨gb167, 2, none⟩) (by first | (rw [add_block]; exact hn168_2) | (show (Addr.add _ _).block ≠ _; rw [add_block]; exact hn168_2) | exact hn168_2) (.slice A166_2 ((rd_T45 l0_0 x31_2).f2).length c166_2)).trans hx168_2
                (try have hy168_0 := fun (n_ : Nat) => (show (((((w16.drewN n_).setCell ⟨gb167, 0, none⟩ (.int .i64 ((rd_T45 l0_0 x31_2).f0))).setCell ⟨gb167, 1, none⟩ (.bool ((rd_T45 l0_0 x31_2).f1))).setCell ⟨gb167, 2, none⟩ (.slice A166_2 ((rd_T45 l0_0 x31_2).f2).length c166_2))).cell? _ = some _ from hx168_0))
                (try have hy168_1 := fun (n_ : Nat) => (show (((((w16.drewN n_).setCell ⟨gb167, 0, none⟩ (.int .i64 ((rd_T45 l0_0 x31_2).f0))).setCell ⟨gb167, 1, none⟩ (.bool ((rd_T45 l0_0 x31_2).f1))).setCell ⟨gb167, 2, none⟩ (.slice A166_2 ((rd_T45 l0_0 x31_2).f2).length c166_2))).cell? _ = some _ from hx168_1))
                (try have hy168_2 := fun (n_ : Nat) => (show (((((w16.drewN n_).setCell ⟨gb167, 0, none⟩ (.int .i64 ((rd_T45 l0_0 x31_2).f0))).setCell ⟨gb167, 1, none⟩ (.bool ((rd_T45 l0_0 x31_2).f1))).setCell ⟨gb167, 2, none⟩ (.slice A166_2 ((rd_T45 l0_0 x31_2).f2).length c166_2))).cell? _ = some _ from hx168_2))
                clear hn168_0
                clear hn168_1
                clear hn168_2
                replace p168 := eq_true p168
                replace q168 := eq_true q168
                go_wp2
                repeat (go_quiet (fail); try go_wp2)
                go_meet
                case rel => exact ⟨_, (((((rd_T45 l0_0 x31_2).f2).length : Int) != 2)), lF, H', ⟨by have := HJ1.out; have := HK2.out; first | omega | exact Nat.le_refl _⟩, ⟨lJ BK164.out⟩, ⟨by (with_reducible repeat first | apply bN | apply bD | apply bA); refine blk_put (cs := #[.int .i64 ((rd_T45 l0_0 x31_2).f0), .bool ((rd_T45 l0_0 x31_2).f1), .slice none 0 0]) ?_ 2 _ rfl; (with_reducible repeat first | apply bN | apply bD | apply bA); refine blk_put (cs := #[.int .i64 ((rd_T45 l0_0 x31_2).f0), .bool false, .slice none 0 0]) ?_ 1 _ rfl; (with_reducible repeat first | apply bN | apply bD | apply bA); refine blk_put (cs := #[.int .i64 0, .bool false, .slice none 0 0]) ?_ 0 _ rfl; (with_reducible repeat first | apply bN | apply bD | apply bA); exact BK167.out⟩, ⟨lB⟩⟩
              ·rw [if_neg c29] at H
               exact absurd H (by simp)
             ·rw [if_neg c28] at H
              exact absurd H (by simp)
            ·rw [if_neg c26] at H
             have c26b0 : decide (0 < x31_2) = false := decide_eq_false c26
             clear c26
             have H' := Aside0.mk H
             clear H
             have hnb37 := NB167_164.out
             have hnc37 := NB164_167.out
             obtain ⟨hcz38_0, hfz38_0, hcz38_1, hfz38_1, hcz38_2, hfz38_2⟩ := bk3 BK167.out
             obtain ⟨hcz39_0, hfz39_0, hcz39_1, hfz39_1, hcz39_2, hfz39_2, hcz39_3, hfz39_3⟩ := bk4 BK164.out
             go_wp2
             repeat (go_quiet (fail); try go_wp2)
             go_meet
             case rel => exact ⟨_, (((((rd_T45 l0_0 x31_2).f2).length : Int) != 2)), lF, H', ⟨by have := HJ1.out; have := HK2.out; first | omega | exact Nat.le_refl _⟩, ⟨lJ BK164.out⟩, ⟨by (with_reducible repeat first | apply bN | apply bD | apply bA); refine blk_put (cs := #[.int .i64 ((rd_T45 l0_0 x31_2).f0), .bool ((rd_T45 l0_0 x31_2).f1), .slice none 0 0]) ?_ 2 _ rfl; (with_reducible repeat first | apply bN | apply bD | apply bA); refine blk_put (cs := #[.int .i64 ((rd_T45 l0_0 x31_2).f0), .bool false, .slice none 0 0]) ?_ 1 _ rfl; (with_reducible repeat first | apply bN | apply bD | apply bA); refine blk_put (cs := #[.int .i64 0, .bool false, .slice none 0 0]) ?_ 0 _ rfl; (with_reducible repeat first | apply bN | apply bD | apply bA); exact BK167.out⟩, ⟨lB⟩⟩
         case rest =>
          clear HC15
          try clear c1
          try clear p1
          try clear q1
          try clear hx1
          try clear c2
          try clear p2
          try clear c3
          try clear c4
          try clear c4b0
          try clear c4b1
          try clear c6
          try clear c6b0
          try clear c6b1
          try clear p6
          try clear c10
          try clear c12
          try clear c12b0
          try clear c13
          try clear c13b0
          try clear c14
          try clear c14b0
          try clear c15
          try clear c16
          try clear p16
          try clear q16
          try clear hx16
          try clear c17
          try clear c19
          try clear c19b0
          try clear c20
          try clear c22
          try clear c22b0
          try clear c23
          try clear c26
          try clear c26b0
          try clear c28
          try clear c28b0
          try clear c29
          try clear c29b0
          try clear c30
          try clear c30b0
          try clear c31
          try clear c34
          try clear c37
          try clear hcz11_0 hcz11_1 hcz11_2 hcz11_3
          try clear hcz18_0 hcz18_1 hcz18_2
          try clear hcz21_0 hcz21_1 hcz21_2
          try clear hcz24_0 hcz24_1 hcz24_2
          try clear hcz25_0 hcz25_1 hcz25_2 hcz25_3
          try clear hcz32_0 hcz32_1 hcz32_2
          try clear hcz33_0 hcz33_1 hcz33_2 hcz33_3
          try clear hcz35_0 hcz35_1 hcz35_2
          try clear hcz36_0 hcz36_1 hcz36_2 hcz36_3
          try clear hcz38_0 hcz38_1 hcz38_2
          try clear hcz39_0 hcz39_1 hcz39_2 hcz39_3
          try clear hcz5_0 hcz5_1 hcz5_2 hcz5_3
          try clear hcz8_0 hcz8_1 hcz8_2 hcz8_3
          try clear hcz9_0 hcz9_1 hcz9_2 hcz9_3
          try clear hfz11_0 hfz11_1 hfz11_2 hfz11_3
          try clear hfz18_0 hfz18_1 hfz18_2
          try clear hfz21_0 hfz21_1 hfz21_2
          try clear hfz24_0 hfz24_1 hfz24_2
          try clear hfz25_0 hfz25_1 hfz25_2 hfz25_3
          try clear hfz32_0 hfz32_1 hfz32_2
          try clear hfz33_0 hfz33_1 hfz33_2 hfz33_3
          try clear hfz35_0 hfz35_1 hfz35_2
          try clear hfz36_0 hfz36_1 hfz36_2 hfz36_3
          try clear hfz38_0 hfz38_1 hfz38_2
          try clear hfz39_0 hfz39_1 hfz39_2 hfz39_3
          try clear hfz5_0 hfz5_1 hfz5_2 hfz5_3
          try clear hfz8_0 hfz8_1 hfz8_2 hfz8_3
          try clear hfz9_0 hfz9_1 hfz9_2 hfz9_3
          try clear hx166_0
          try clear hx166_1
          try clear hx166_2
          try clear hx168_0
          try clear hx168_1
          try clear hx168_2
          try clear p166
          try clear p168
          try clear p2
          try clear q166
          try clear q168
          obtain ⟨kq, x67_14, rfl, HA, HJ14, BK164, BK167, HB⟩ := hcut
          cases kq with
          | zero => exact absurd HA.out (by simp [spec_GoodHeap.j2])
          | succ kj14 =>
           have H := HA.out
           clear HA
           simp only [spec_GoodHeap.j2] at H
           by_cases c40 : x67_14 = true
           ·subst c40
            rw [if_pos rfl] at H
            obtain rfl := Option.some.inj H
            go_wp2
            repeat (go_quiet (fail); try go_wp2)
            go_ret
            exact ⟨lE, lB⟩
           ·replace c40 := Bool.eq_false_iff.mpr c40
            subst c40
            rw [if_neg (show ¬ (false = true) by decide)] at H
            have H' := Aside0.mk H
            clear H
            have hnb41 := NB167_164.out
            have hnc41 := NB164_167.out
            obtain ⟨hcz42_0, hfz42_0, hcz42_1, hfz42_1, hcz42_2, hfz42_2⟩ := bk3 BK167.out
            go_wp2
            repeat (go_quiet (fail); try go_wp2)
            go_loopg [71] kj14 (fun kq v71 w' => ∃ (x71_4 : Int), v71 = .int .i64 x71_4 ∧ Aside0 (spec_GoodHeap.l1 kq l0_0 (l0_0.length : Int) x31_2 ((rd_T45 l0_0 x31_2).f2) (((rd_T45 l0_0 x31_2).f2).length : Int) x71_4 l0_0 l0_1 l0_2 a0_3 ((rd_T45 l0_0 x31_2).f0) ((rd_T45 l0_0 x31_2).f1) ((rd_T45 l0_0 x31_2).f2) = some r) ∧ Aside0 (kq ≤ kj14) ∧ Aside0 (w'.heap[gb164]? = some (.cells #[(.slice (some ad166) l0_0.length c0_0), (.slice A0_1 l0_1.length c0_1), (.slice A0_2 l0_2.length c0_2), .int .i64 a0_3] 25 (0, 0))) ∧ Aside0 (w'.heap[gb167]? = some (.cells #[.int .i64 ((rd_T45 l0_0 x31_2).f0), .bool ((rd_T45 l0_0 x31_2).f1), (.slice A166_2 ((rd_T45 l0_0 x31_2).f2).length c166_2)] 45 (0, 0))) ∧ Aside0 (Below w.heap.size w w'))
            case atStart => exact ⟨(0), lF, H', ⟨Nat.le_refl _⟩, ⟨lK BK164.out⟩, ⟨lK BK167.out⟩, ⟨lB⟩⟩
            case round =>
             clear H'
             try clear c1
             try clear p1
             try clear q1
             try clear hx1
             try clear c2
             try clear p2
             try clear c3
             try clear c4
             try clear c4b0
             try clear c4b1
             try clear c6
             try clear c6b0
             try clear c6b1
             try clear p6
             try clear c10
             try clear c12
             try clear c12b0
             try clear c13
             try clear c13b0
             try clear c14
             try clear c14b0
             try clear c15
             try clear c16
             try clear p16
             try clear q16
             try clear hx16
             try clear c17
             try clear c19
             try clear c19b0
             try clear c20
             try clear c22
             try clear c22b0
             try clear c23
             try clear c26
             try clear c26b0
             try clear c28
             try clear c28b0
             try clear c29
             try clear c29b0
             try clear c30
             try clear c30b0
             try clear c31
             try clear c34
             try clear c37
             try clear c40
             try clear c41
             try clear hcz11_0 hcz11_1 hcz11_2 hcz11_3
             try clear hcz18_0 hcz18_1 hcz18_2
             try clear hcz21_0 hcz21_1 hcz21_2
             try clear hcz24_0 hcz24_1 hcz24_2
             try clear hcz25_0 hcz25_1 hcz25_2 hcz25_3
             try clear hcz32_0 hcz32_1 hcz32_2
             try clear hcz33_0 hcz33_1 hcz33_2 hcz33_3
             try clear hcz35_0 hcz35_1 hcz35_2
             try clear hcz36_0 hcz36_1 hcz36_2 hcz36_3
             try clear hcz38_0 hcz38_1 hcz38_2
             try clear hcz39_0 hcz39_1 hcz39_2 hcz39_3
             try clear hcz42_0 hcz42_1 hcz42_2
             try clear hcz5_0 hcz5_1 hcz5_2 hcz5_3
             try clear hcz8_0 hcz8_1 hcz8_2 hcz8_3
             try clear hcz9_0 hcz9_1 hcz9_2 hcz9_3
             try clear hfz11_0 hfz11_1 hfz11_2 hfz11_3
             try clear hfz18_0 hfz18_1 hfz18_2
             try clear hfz21_0 hfz21_1 hfz21_2
             try clear hfz24_0 hfz24_1 hfz24_2
             try clear hfz25_0 hfz25_1 hfz25_2 hfz25_3
             try clear hfz32_0 hfz32_1 hfz32_2
             try clear hfz33_0 hfz33_1 hfz33_2 hfz33_3
             try clear hfz35_0 hfz35_1 hfz35_2
             try clear hfz36_0 hfz36_1 hfz36_2 hfz36_3
             try clear hfz38_0 hfz38_1 hfz38_2
             try clear hfz39_0 hfz39_1 hfz39_2 hfz39_3
             try clear hfz42_0 hfz42_1 hfz42_2
             try clear hfz5_0 hfz5_1 hfz5_2 hfz5_3
             try clear hfz8_0 hfz8_1 hfz8_2 hfz8_3
             try clear hfz9_0 hfz9_1 hfz9_2 hfz9_3
             try clear hx166_0
             try clear hx166_1
             try clear hx166_2
             try clear hx168_0
             try clear hx168_1
             try clear hx168_2
             try clear p1
             try clear p16
             try clear p166
             try clear p168
             try clear p2
             try clear p6
             try clear q1
             try clear q16
             try clear q166
             try clear q168
             obtain ⟨x71_4, rfl, HA, HK4, BK164, BK167, HB⟩ := hrel
             cases gk with
             | zero => exact absurd HA.out (by simp [spec_GoodHeap.l1])
             | succ k4 =>
              have H := HA.out
              clear HA
              simp only [spec_GoodHeap.l1] at H
              by_cases c43 : x71_4 < (((rd_T45 l0_0 x31_2).f2).length : Int)
              ·rw [if_pos c43] at H
               have c43b0 : decide (x71_4 < (((rd_T45 l0_0 x31_2).f2).length : Int)) = true := decide_eq_true c43
               clear c43
               by_cases c44 : 0 ≤ x71_4
               ·rw [if_pos c44] at H
                have c44b0 : decide (0 ≤ x71_4) = true := decide_eq_true c44
                clear c44
                by_cases c45 : x71_4 < (((rd_T45 l0_0 x31_2).f2).length : Int)
                ·rw [if_pos c45] at H
                 have c45b0 : decide (x71_4 < (((rd_T45 l0_0 x31_2).f2).length : Int)) = true := decide_eq_true c45
                 clear c45
                 replace H := lO H
                 obtain ⟨t170, A46, H⟩ := H
                 by_cases c47 : t170 = true
                 ·subst c47
                  rw [if_pos rfl] at H
                  by_cases c48 : ((rd_T45 l0_0 x31_2).f1) = true
                  ·rw [if_pos c48] at H
                   have c48b0 : ((rd_T45 l0_0 x31_2).f1) = true := c48
                   clear c48
                   replace H := lO H
                   obtain ⟨t171, A49, H⟩ := H
                   by_cases c50 : t171 = true
                   ·subst c50
                    rw [if_pos rfl] at H
                    replace H := lO H
                    obtain ⟨t172, A51, H⟩ := H
                    by_cases c52 : t172 = true
                    ·subst c52
                     rw [if_pos rfl] at H
                     have H' := Aside0.mk H
                     clear H
                     have p169 : 0 ≤ (x71_4 : Int) := lD
                     have q169 : x71_4 < (((rd_T45 l0_0 x31_2).f2).length : Int) := lD
                     obtain ⟨ad169, e169, hx169_0⟩ := Kd.at_int HR166_2.out x71_4 p169 q169
                     cases e169
                     replace hx169_0 := pw_cell_below HB.out hx169_0
                     replace p169 := eq_true p169
                     replace q169 := eq_true q169
                     have hnb53 := NB164_167.out
                     have hnc53 := NB167_164.out
                     obtain ⟨hcz54_0, hfz54_0, hcz54_1, hfz54_1, hcz54_2, hfz54_2, hcz54_3, hfz54_3⟩ := bk4 BK164.out
                     go_wp2_with (first | (go_at_call 36; (with_reducible refine (spec_l14Link.calls k4 _ _ l0_0 _ _ l0_1 _ _ l0_2 a0_3 (rd ((rd_T45 l0_0 x31_2).f2) x71_4) true _ ?side1 ?side2 ?side3 ?side4 ?side5 ?side6 A46.out).mono ?_); (case side1 => exact lC (Kd.C_below HR0_0.out HB.out)); (case side2 => exact HC0_0.out); (case side3 => exact lC (Kd.C_below HR0_1.out HB.out)); (case side4 => exact HC0_1.out); (case side5 => exact lC (Kd.C_below HR0_2.out HB.out)); (case side6 => exact HC0_2.out); rintro e w55 ⟨rfl, hb⟩; have n0_ := Aside0.mk (blk_below (lK BK164.out) hb); have n1_ := Aside0.mk (blk_below (lK BK167.out) hb); have n2_ := Aside0.mk (below_step lB hb); clear BK164; clear BK167; clear HB; have BK164 := n0_; have BK167 := n1_; have HB := n2_; clear n0_ n1_ n2_; (try clear hb); (try clear hb2); (try clear hk); (try clear hi); obtain ⟨hcz56_0, hfz56_0, hcz56_1, hfz56_1, hcz56_2, hfz56_2⟩ := bk3 BK167.out; obtain ⟨hcz57_0, hfz57_0, hcz57_1, hfz57_1, hcz57_2, hfz57_2, hcz57_3, hfz57_3⟩ := bk4 BK164.out) | (go_at_call 37; (with_reducible refine (spec_l14Young.calls k4 _ _ l0_0 _ _ l0_1 _ _ l0_2 a0_3 (rd ((rd_T45 l0_0 x31_2).f2) x71_4) true _ ?side1 ?side2 ?side3 ?side4 ?side5 ?side6 A49.out).mono ?_); (case side1 => exact lC (Kd.C_below HR0_0.out HB.out)); (case side2 => exact HC0_0.out); (case side3 => exact lC (Kd.C_below HR0_1.out HB.out)); (case side4 => exact HC0_1.out); (case side5 => exact lC (Kd.C_below HR0_2.out HB.out)); (case side6 => exact HC0_2.out); rintro e w58 ⟨rfl, hb⟩; have n0_ := Aside0.mk (blk_below (lK BK164.out) hb); have n1_ := Aside0.mk (blk_below (lK BK167.out) hb); have n2_ := Aside0.mk (below_step lB hb); clear BK164; clear BK167; clear HB; have BK164 := n0_; have BK167 := n1_; have HB := n2_; clear n0_ n1_ n2_; (try clear hb); (try clear hb2); (try clear hk); (try clear hi); obtain ⟨hcz59_0, hfz59_0, hcz59_1, hfz59_1, hcz59_2, hfz59_2, hcz59_3, hfz59_3⟩ := bk4 BK164.out; obtain ⟨hcz60_0, hfz60_0, hcz60_1, hfz60_1, hcz60_2, hfz60_2⟩ := bk3 BK167.out) | (go_at_call 38; (with_reducible refine (spec_l1Has.calls k4 _ _ l0_2 ((rd_T45 l0_0 x31_2).f0) true _ ?side1 ?side2 A51.out).mono ?_); (case side1 => exact lC (Kd.C_below HR0_2.out HB.out)); (case side2 => exact HC0_2.out); rintro e w' ⟨rfl, ⟨nd, rfl⟩⟩; (try first | exact ⟨rfl, _, World.drewN_drewN _ _ _⟩ | exact ⟨rfl, _, Eq.trans (World.drewN_drewN _ _ _) (congrArg (World.drewN _) (Nat.add_assoc _ _ _))⟩)))
                     repeat (go_quiet (first | (go_at_call 38; (with_reducible refine (spec_l1Has.calls k4 _ _ l0_2 ((rd_T45 l0_0 x31_2).f0) true _ ?side1 ?side2 A51.out).mono ?_); (case side1 => exact lC (Kd.C_below HR0_2.out HB.out)); (case side2 => exact HC0_2.out); rintro e w' ⟨rfl, ⟨nd, rfl⟩⟩; (try first | exact ⟨rfl, _, World.drewN_drewN _ _ _⟩ | exact ⟨rfl, _, Eq.trans (World.drewN_drewN _ _ _) (congrArg (World.drewN _) (Nat.add_assoc _ _ _))⟩))); try go_wp2_with (first | (go_at_call 36; (with_reducible refine (spec_l14Link.calls k4 _ _ l0_0 _ _ l0_1 _ _ l0_2 a0_3 (rd ((rd_T45 l0_0 x31_2).f2) x71_4) true _ ?side1 ?side2 ?side3 ?side4 ?side5 ?side6 A46.out).mono ?_); (case side1 => exact lC (Kd.C_below HR0_0.out HB.out)); (case side2 => exact HC0_0.out); (case side3 => exact lC (Kd.C_below HR0_1.out HB.out)); (case side4 => exact HC0_1.out); (case side5 => exact lC (Kd.C_below HR0_2.out HB.out)); (case side6 => exact HC0_2.out); rintro e w55 ⟨rfl, hb⟩; have n0_ := Aside0.mk (blk_below (lK BK164.out) hb); have n1_ := Aside0.mk (blk_below (lK BK167.out) hb); have n2_ := Aside0.mk (below_step lB hb); clear BK164; clear BK167; clear HB; have BK164 := n0_; have BK167 := n1_; have HB := n2_; clear n0_ n1_ n2_; (try clear hb); (try clear hb2); (try clear hk); (try clear hi); obtain ⟨hcz56_0, hfz56_0, hcz56_1, hfz56_1, hcz56_2, hfz56_2⟩ := bk3 BK167.out; obtain ⟨hcz57_0, hfz57_0, hcz57_1, hfz57_1, hcz57_2, hfz57_2, hcz57_3, hfz57_3⟩ := bk4 BK164.out) | (go_at_call 37; (with_reducible refine (spec_l14Young.calls k4 _ _ l0_0 _ _ l0_1 _ _ l0_2 a0_3 (rd ((rd_T45 l0_0 x31_2).f2) x71_4) true _ ?side1 ?side2 ?side3 ?side4 ?side5 ?side6 A49.out).mono ?_); (case side1 => exact lC (Kd.C_below HR0_0.out HB.out)); (case side2 => exact HC0_0.out); (case side3 => exact lC (Kd.C_below HR0_1.out HB.out)); (case side4 => exact HC0_1.out); (case side5 => exact lC (Kd.C_below HR0_2.out HB.out)); (case side6 => exact HC0_2.out); rintro e w58 ⟨rfl, hb⟩; have n0_ := Aside0.mk (blk_below (lK BK164.out) hb); have n1_ := Aside0.mk (blk_below (lK BK167.out) hb); have n2_ := Aside0.mk (below_step lB hb); clear BK164; clear BK167; clear HB; have BK164 := n0_; have BK167 := n1_; have HB := n2_; clear n0_ n1_ n2_; (try clear hb); (try clear hb2); (try clear hk); (try clear hi); obtain ⟨hcz59_0, hfz59_0, hcz59_1, hfz59_1, hcz59_2, hfz59_2, hcz59_3, hfz59_3⟩ := bk4 BK164.out; obtain ⟨hcz60_0, hfz60_0, hcz60_1, hfz60_1, hcz60_2, hfz60_2⟩ := bk3 BK167.out) | (go_at_call 38; (with_reducible refine (spec_l1Has.calls k4 _ _ l0_2 ((rd_T45 l0_0 x31_2).f0) true _ ?side1 ?side2 A51.out).mono ?_); (case side1 => exact lC (Kd.C_below HR0_2.out HB.out)); (case side2 => exact HC0_2.out); rintro e w' ⟨rfl, ⟨nd, rfl⟩⟩; (try first | exact ⟨rfl, _, World.drewN_drewN _ _ _⟩ | exact ⟨rfl, _, Eq.trans (World.drewN_drewN _ _ _) (congrArg (World.drewN _) (Nat.add_assoc _ _ _))⟩))))
                     go_roundg k4
                     case measure => have := HJ1.out; have := HK2.out; have := HJ14.out; have := HK4.out; omega
                     case rel => exact ⟨(wrap64 (x71_4 + 1)), lF, H', ⟨by have := HJ1.out; have := HK2.out; have := HJ14.out; have := HK4.out; omega⟩, ⟨lK BK164.out⟩, ⟨lK BK167.out⟩, ⟨lB⟩⟩
                    ·replace c52 := Bool.eq_false_iff.mpr c52
                     subst c52
                     rw [if_neg (show ¬ (false = true) by decide)] at H
                     obtain rfl := Option.some.inj H
                     have p169 : 0 ≤ (x71_4 : Int) := lD
                     have q169 : x71_4 < (((rd_T45 l0_0 x31_2).f2).length : Int) := lD
                     obtain ⟨ad169, e169, hx169_0⟩ := Kd.at_int HR166_2.out x71_4 p169 q169
                     cases e169
                     replace hx169_0 := pw_cell_below HB.out hx169_0
                     replace p169 := eq_true p169
                     replace q169 := eq_true q169
                     have hnb61 := NB164_167.out
                     have hnc61 := NB167_164.out
                     obtain ⟨hcz62_0, hfz62_0, hcz62_1, hfz62_1, hcz62_2, hfz62_2, hcz62_3, hfz62_3⟩ := bk4 BK164.out
                     go_wp2_with (first | (go_at_call 36; (with_reducible refine (spec_l14Link.calls k4 _ _ l0_0 _ _ l0_1 _ _ l0_2 a0_3 (rd ((rd_T45 l0_0 x31_2).f2) x71_4) true _ ?side1 ?side2 ?side3 ?side4 ?side5 ?side6 A46.out).mono ?_); (case side1 => exact lC (Kd.C_below HR0_0.out HB.out)); (case side2 => exact HC0_0.out); (case side3 => exact lC (Kd.C_below HR0_1.out HB.out)); (case side4 => exact HC0_1.out); (case side5 => exact lC (Kd.C_below HR0_2.out HB.out)); (case side6 => exact HC0_2.out); rintro e w63 ⟨rfl, hb⟩; have n0_ := Aside0.mk (blk_below (lK BK164.out) hb); have n1_ := Aside0.mk (blk_below (lK BK167.out) hb); have n2_ := Aside0.mk (below_step lB hb); clear BK164; clear BK167; clear HB; have BK164 := n0_; have BK167 := n1_; have HB := n2_; clear n0_ n1_ n2_; (try clear hb); (try clear hb2); (try clear hk); (try clear hi); obtain ⟨hcz64_0, hfz64_0, hcz64_1, hfz64_1, hcz64_2, hfz64_2⟩ := bk3 BK167.out; obtain ⟨hcz65_0, hfz65_0, hcz65_1, hfz65_1, hcz65_2, hfz65_2, hcz65_3, hfz65_3⟩ := bk4 BK164.out) | (go_at_call 37; (with_reducible refine (spec_l14Young.calls k4 _ _ l0_0 _ _ l0_1 _ _ l0_2 a0_3 (rd ((rd_T45 l0_0 x31_2).f2) x71_4) true _ ?side1 ?side2 ?side3 ?side4 ?side5 ?side6 A49.out).mono ?_); (case side1 => exact lC (Kd.C_below HR0_0.out HB.out)); (case side2 => exact HC0_0.out); (case side3 => exact lC (Kd.C_below HR0_1.out HB.out)); (case side4 => exact HC0_1.out); (case side5 => exact lC (Kd.C_below HR0_2.out HB.out)); (case side6 => exact HC0_2.out); rintro e w66 ⟨rfl, hb⟩; have n0_ := Aside0.mk (blk_below (lK BK164.out) hb); have n1_ := Aside0.mk (blk_below (lK BK167.out) hb); have n2_ := Aside0.mk (below_step lB hb); clear BK164; clear BK167; clear HB; have BK164 := n0_; have BK167 := n1_; have HB := n2_; clear n0_ n1_ n2_; (try clear hb); (try clear hb2); (try clear hk); (try clear hi); obtain ⟨hcz67_0, hfz67_0, hcz67_1, hfz67_1, hcz67_2, hfz67_2, hcz67_3, hfz67_3⟩ := bk4 BK164.out; obtain ⟨hcz68_0, hfz68_0, hcz68_1, hfz68_1, hcz68_2, hfz68_2⟩ := bk3 BK167.out) | (go_at_call 38; (with_reducible refine (spec_l1Has.calls k4 _ _ l0_2 ((rd_T45 l0_0 x31_2).f0) false _ ?side1 ?side2 A51.out).mono ?_); (case side1 => exact lC (Kd.C_below HR0_2.out HB.out)); (case side2 => exact HC0_2.out); rintro e w' ⟨rfl, ⟨nd, rfl⟩⟩; (try first | exact ⟨rfl, _, World.drewN_drewN _ _ _⟩ | exact ⟨rfl, _, Eq.trans (World.drewN_drewN _ _ _) (congrArg (World.drewN _) (Nat.add_assoc _ _ _))⟩)))
                     repeat (go_quiet (first | (go_at_call 38; (with_reducible refine (spec_l1Has.calls k4 _ _ l0_2 ((rd_T45 l0_0 x31_2).f0) false _ ?side1 ?side2 A51.out).mono ?_); (case side1 => exact lC (Kd.C_below HR0_2.out HB.out)); (case side2 => exact HC0_2.out); rintro e w' ⟨rfl, ⟨nd, rfl⟩⟩; (try first | exact ⟨rfl, _, World.drewN_drewN _ _ _⟩ | exact ⟨rfl, _, Eq.trans (World.drewN_drewN _ _ _) (congrArg (World.drewN _) (Nat.add_assoc _ _ _))⟩))); try go_wp2_with (first | (go_at_call 36; (with_reducible refine (spec_l14Link.calls k4 _ _ l0_0 _ _ l0_1 _ _ l0_2 a0_3 (rd ((rd_T45 l0_0 x31_2).f2) x71_4) true _ ?side1 ?side2 ?side3 ?side4 ?side5 ?side6 A46.out).mono ?_); (case side1 => exact lC (Kd.C_below HR0_0.out HB.out)); (case side2 => exact HC0_0.out); (case side3 => exact lC (Kd.C_below HR0_1.out HB.out)); (case side4 => exact HC0_1.out); (case side5 => exact lC (Kd.C_below HR0_2.out HB.out)); (case side6 => exact HC0_2.out); rintro e w63 ⟨rfl, hb⟩; have n0_ := Aside0.mk (blk_below (lK BK164.out) hb); have n1_ := Aside0.mk (blk_below (lK BK167.out) hb); have n2_ := Aside0.mk (below_step lB hb); clear BK164; clear BK167; clear HB; have BK164 := n0_; have BK167 := n1_; have HB := n2_; clear n0_ n1_ n2_; (try clear hb); (try clear hb2); (try clear hk); (try clear hi); obtain ⟨hcz64_0, hfz64_0, hcz64_1, hfz64_1, hcz64_2, hfz64_2⟩ := bk3 BK167.out; obtain ⟨hcz65_0, hfz65_0, hcz65_1, hfz65_1, hcz65_2, hfz65_2, hcz65_3, hfz65_3⟩ := bk4 BK164.out) | (go_at_call 37; (with_reducible refine (spec_l14Young.calls k4 _ _ l0_0 _ _ l0_1 _ _ l0_2 a0_3 (rd ((rd_T45 l0_0 x31_2).f2) x71_4) true _ ?side1 ?side2 ?side3 ?side4 ?side5 ?side6 A49.out).mono ?_); (case side1 => exact lC (Kd.C_below HR0_0.out HB.out)); (case side2 => exact HC0_0.out); (case side3 => exact lC (Kd.C_below HR0_1.out HB.out)); (case side4 => exact HC0_1.out); (case side5 => exact lC (Kd.C_below HR0_2.out HB.out)); (case side6 => exact HC0_2.out); rintro e w66 ⟨rfl, hb⟩; have n0_ := Aside0.mk (blk_below (lK BK164.out) hb); have n1_ := Aside0.mk (blk_below (lK BK167.out) hb); have n2_ := Aside0.mk (below_step lB hb); clear BK164; clear BK167; clear HB; have BK164 := n0_; have BK167 := n1_; have HB := n2_; clear n0_ n1_ n2_; (try clear hb); (try clear hb2); (try clear hk); (try clear hi); obtain ⟨hcz67_0, hfz67_0, hcz67_1, hfz67_1, hcz67_2, hfz67_2, hcz67_3, hfz67_3⟩ := bk4 BK164.out; obtain ⟨hcz68_0, hfz68_0, hcz68_1, hfz68_1, hcz68_2, hfz68_2⟩ := bk3 BK167.out) | (go_at_call 38; (with_reducible refine (spec_l1Has.calls k4 _ _ l0_2 ((rd_T45 l0_0 x31_2).f0) false _ ?side1 ?side2 A51.out).mono ?_); (case side1 => exact lC (Kd.C_below HR0_2.out HB.out)); (case side2 => exact HC0_2.out); rintro e w' ⟨rfl, ⟨nd, rfl⟩⟩; (try first | exact ⟨rfl, _, World.drewN_drewN _ _ _⟩ | exact ⟨rfl, _, Eq.trans (World.drewN_drewN _ _ _) (congrArg (World.drewN _) (Nat.add_assoc _ _ _))⟩))))
                     go_ret
                     exact ⟨lE, lB⟩
                   ·replace c50 := Bool.eq_false_iff.mpr c50
                    subst c50
                    rw [if_neg (show ¬ (false = true) by decide)] at H
                    have H' := Aside0.mk H
                    clear H
                    have p169 : 0 ≤ (x71_4 : Int) := lD
                    have q169 : x71_4 < (((rd_T45 l0_0 x31_2).f2).length : Int) := lD
                    obtain ⟨ad169, e169, hx169_0⟩ := Kd.at_int HR166_2.out x71_4 p169 q169
                    cases e169
                    replace hx169_0 := pw_cell_below HB.out hx169_0
                    replace p169 := eq_true p169
                    replace q169 := eq_true q169
                    have hnb69 := NB164_167.out
                    have hnc69 := NB167_164.out
                    obtain ⟨hcz70_0, hfz70_0, hcz70_1, hfz70_1, hcz70_2, hfz70_2, hcz70_3, hfz70_3⟩ := bk4 BK164.out
                    go_wp2_with (first | (go_at_call 36; (with_reducible refine (spec_l14Link.calls k4 _ _ l0_0 _ _ l0_1 _ _ l0_2 a0_3 (rd ((rd_T45 l0_0 x31_2).f2) x71_4) true _ ?side1 ?side2 ?side3 ?side4 ?side5 ?side6 A46.out).mono ?_); (case side1 => exact lC (Kd.C_below HR0_0.out HB.out)); (case side2 => exact HC0_0.out); (case side3 => exact lC (Kd.C_below HR0_1.out HB.out)); (case side4 => exact HC0_1.out); (case side5 => exact lC (Kd.C_below HR0_2.out HB.out)); (case side6 => exact HC0_2.out); rintro e w71 ⟨rfl, hb⟩; have n0_ := Aside0.mk (blk_below (lK BK164.out) hb); have n1_ := Aside0.mk (blk_below (lK BK167.out) hb); have n2_ := Aside0.mk (below_step lB hb); clear BK164; clear BK167; clear HB; have BK164 := n0_; have BK167 := n1_; have HB := n2_; clear n0_ n1_ n2_; (try clear hb); (try clear hb2); (try clear hk); (try clear hi); obtain ⟨hcz72_0, hfz72_0, hcz72_1, hfz72_1, hcz72_2, hfz72_2⟩ := bk3 BK167.out; obtain ⟨hcz73_0, hfz73_0, hcz73_1, hfz73_1, hcz73_2, hfz73_2, hcz73_3, hfz73_3⟩ := bk4 BK164.out) | (go_at_call 37; (with_reducible refine (spec_l14Young.calls k4 _ _ l0_0 _ _ l0_1 _ _ l0_2 a0_3 (rd ((rd_T45 l0_0 x31_2).f2) x71_4) false _ ?side1 ?side2 ?side3 ?side4 ?side5 ?side6 A49.out).mono ?_); (case side1 => exact lC (Kd.C_below HR0_0.out HB.out)); (case side2 => exact HC0_0.out); (case side3 => exact lC (Kd.C_below HR0_1.out HB.out)); (case side4 => exact HC0_1.out); (case side5 => exact lC (Kd.C_below HR0_2.out HB.out)); (case side6 => exact HC0_2.out); rintro e w74 ⟨rfl, hb⟩; have n0_ := Aside0.mk (blk_below (lK BK164.out) hb); have n1_ := Aside0.mk (blk_below (lK BK167.out) hb); have n2_ := Aside0.mk (below_step lB hb); clear BK164; clear BK167; clear HB; have BK164 := n0_; have BK167 := n1_; have HB := n2_; clear n0_ n1_ n2_; (try clear hb); (try clear hb2); (try clear hk); (try clear hi)))
                    repeat (go_quiet (fail); try go_wp2_with (first | (go_at_call 36; (with_reducible refine (spec_l14Link.calls k4 _ _ l0_0 _ _ l0_1 _ _ l0_2 a0_3 (rd ((rd_T45 l0_0 x31_2).f2) x71_4) true _ ?side1 ?side2 ?side3 ?side4 ?side5 ?side6 A46.out).mono ?_); (case side1 => exact lC (Kd.C_below HR0_0.out HB.out)); (case side2 => exact HC0_0.out); (case side3 => exact lC (Kd.C_below HR0_1.out HB.out)); (case side4 => exact HC0_1.out); (case side5 => exact lC (Kd.C_below HR0_2.out HB.out)); (case side6 => exact HC0_2.out); rintro e w71 ⟨rfl, hb⟩; have n0_ := Aside0.mk (blk_below (lK BK164.out) hb); have n1_ := Aside0.mk (blk_below (lK BK167.out) hb); have n2_ := Aside0.mk (below_step lB hb); clear BK164; clear BK167; clear HB; have BK164 := n0_; have BK167 := n1_; have HB := n2_; clear n0_ n1_ n2_; (try clear hb); (try clear hb2); (try clear hk); (try clear hi); obtain ⟨hcz72_0, hfz72_0, hcz72_1, hfz72_1, hcz72_2, hfz72_2⟩ := bk3 BK167.out; obtain ⟨hcz73_0, hfz73_0, hcz73_1, hfz73_1, hcz73_2, hfz73_2, hcz73_3, hfz73_3⟩ := bk4 BK164.out) | (go_at_call 37; (with_reducible refine (spec_l14Young.calls k4 _ _ l0_0 _ _ l0_1 _ _ l0_2 a0_3 (rd ((rd_T45 l0_0 x31_2).f2) x71_4) false _ ?side1 ?side2 ?side3 ?side4 ?side5 ?side6 A49.out).mono ?_); (case side1 => exact lC (Kd.C_below HR0_0.out HB.out)); (case side2 => exact HC0_0.out); (case side3 => exact lC (Kd.C_below HR0_1.out HB.out)); (case side4 => exact HC0_1.out); (case side5 => exact lC (Kd.C_below HR0_2.out HB.out)); (case side6 => exact HC0_2.out); rintro e w74 ⟨rfl, hb⟩; have n0_ := Aside0.mk (blk_below (lK BK164.out) hb); have n1_ := Aside0.mk (blk_below (lK BK167.out) hb); have n2_ := Aside0.mk (below_step lB hb); clear BK164; clear BK167; clear HB; have BK164 := n0_; have BK167 := n1_; have HB := n2_; clear n0_ n1_ n2_; (try clear hb); (try clear hb2); (try clear hk); (try clear hi))))
                    go_roundg k4
                    case measure => have := HJ1.out; have := HK2.out; have := HJ14.out; have := HK4.out; omega
                    case rel => exact ⟨(wrap64 (x71_4 + 1)), lF, H', ⟨by have := HJ1.out; have := HK2.out; have := HJ14.out; have := HK4.out; omega⟩, ⟨lK BK164.out⟩, ⟨lK BK167.out⟩, ⟨lB⟩⟩
                  ·rw [if_neg c48] at H
                   have c48b0 : ((rd_T45 l0_0 x31_2).f1) = false := by simpa using c48
                   clear c48
                   have H' := Aside0.mk H
                   clear H
                   have p169 : 0 ≤ (x71_4 : Int) := lD
                   have q169 : x71_4 < (((rd_T45 l0_0 x31_2).f2).length : Int) := lD
                   obtain ⟨ad169, e169, hx169_0⟩ := Kd.at_int HR166_2.out x71_4 p169 q169
                   cases e169
                   replace hx169_0 := pw_cell_below HB.out hx169_0
                   replace p169 := eq_true p169
                   replace q169 := eq_true q169
                   have hnb75 := NB164_167.out
                   have hnc75 := NB167_164.out
                   obtain ⟨hcz76_0, hfz76_0, hcz76_1, hfz76_1, hcz76_2, hfz76_2, hcz76_3, hfz76_3⟩ := bk4 BK164.out
                   go_wp2_with (first | (go_at_call 36; (with_reducible refine (spec_l14Link.calls k4 _ _ l0_0 _ _ l0_1 _ _ l0_2 a0_3 (rd ((rd_T45 l0_0 x31_2).f2) x71_4) true _ ?side1 ?side2 ?side3 ?side4 ?side5 ?side6 A46.out).mono ?_); (case side1 => exact lC (Kd.C_below HR0_0.out HB.out)); (case side2 => exact HC0_0.out); (case side3 => exact lC (Kd.C_below HR0_1.out HB.out)); (case side4 => exact HC0_1.out); (case side5 => exact lC (Kd.C_below HR0_2.out HB.out)); (case side6 => exact HC0_2.out); rintro e w77 ⟨rfl, hb⟩; have n0_ := Aside0.mk (blk_below (lK BK164.out) hb); have n1_ := Aside0.mk (blk_below (lK BK167.out) hb); have n2_ := Aside0.mk (below_step lB hb); clear BK164; clear BK167; clear HB; have BK164 := n0_; have BK167 := n1_; have HB := n2_; clear n0_ n1_ n2_; (try clear hb); (try clear hb2); (try clear hk); (try clear hi); obtain ⟨hcz78_0, hfz78_0, hcz78_1, hfz78_1, hcz78_2, hfz78_2⟩ := bk3 BK167.out))
                   repeat (go_quiet (fail); try go_wp2_with (first | (go_at_call 36; (with_reducible refine (spec_l14Link.calls k4 _ _ l0_0 _ _ l0_1 _ _ l0_2 a0_3 (rd ((rd_T45 l0_0 x31_2).f2) x71_4) true _ ?side1 ?side2 ?side3 ?side4 ?side5 ?side6 A46.out).mono ?_); (case side1 => exact lC (Kd.C_below HR0_0.out HB.out)); (case side2 => exact HC0_0.out); (case side3 => exact lC (Kd.C_below HR0_1.out HB.out)); (case side4 => exact HC0_1.out); (case side5 => exact lC (Kd.C_below HR0_2.out HB.out)); (case side6 => exact HC0_2.out); rintro e w77 ⟨rfl, hb⟩; have n0_ := Aside0.mk (blk_below (lK BK164.out) hb); have n1_ := Aside0.mk (blk_below (lK BK167.out) hb); have n2_ := Aside0.mk (below_step lB hb); clear BK164; clear BK167; clear HB; have BK164 := n0_; have BK167 := n1_; have HB := n2_; clear n0_ n1_ n2_; (try clear hb); (try clear hb2); (try clear hk); (try clear hi); obtain ⟨hcz78_0, hfz78_0, hcz78_1, hfz78_1, hcz78_2, hfz78_2⟩ := bk3 BK167.out)))
                   go_roundg k4
                   case measure => have := HJ1.out; have := HK2.out; have := HJ14.out; have := HK4.out; omega
                   case rel => exact ⟨(wrap64 (x71_4 + 1)), lF, H', ⟨by have := HJ1.out; have := HK2.out; have := HJ14.out; have := HK4.out; omega⟩, ⟨lK BK164.out⟩, ⟨lK BK167.out⟩, ⟨lB⟩⟩
                 ·replace c47 := Bool.eq_false_iff.mpr c47
                  subst c47
                  rw [if_neg (show ¬ (false = true) by decide)] at H
                  obtain rfl := Option.some.inj H
                  have p169 : 0 ≤ (x71_4 : Int) := lD
                  have q169 : x71_4 < (((rd_T45 l0_0 x31_2).f2).length : Int) := lD
                  obtain ⟨ad169, e169, hx169_0⟩ := Kd.at_int HR166_2.out x71_4 p169 q169
                  cases e169
                  replace hx169_0 := pw_cell_below HB.out hx169_0
                  replace p169 := eq_true p169
                  replace q169 := eq_true q169
                  have hnb79 := NB164_167.out
                  have hnc79 := NB167_164.out
                  obtain ⟨hcz80_0, hfz80_0, hcz80_1, hfz80_1, hcz80_2, hfz80_2, hcz80_3, hfz80_3⟩ := bk4 BK164.out
                  go_wp2_with (first | (go_at_call 36; (with_reducible refine (spec_l14Link.calls k4 _ _ l0_0 _ _ l0_1 _ _ l0_2 a0_3 (rd ((rd_T45 l0_0 x31_2).f2) x71_4) false _ ?side1 ?side2 ?side3 ?side4 ?side5 ?side6 A46.out).mono ?_); (case side1 => exact lC (Kd.C_below HR0_0.out HB.out)); (case side2 => exact HC0_0.out); (case side3 => exact lC (Kd.C_below HR0_1.out HB.out)); (case side4 => exact HC0_1.out); (case side5 => exact lC (Kd.C_below HR0_2.out HB.out)); (case side6 => exact HC0_2.out); rintro e w81 ⟨rfl, hb⟩; have n0_ := Aside0.mk (blk_below (lK BK164.out) hb); have n1_ := Aside0.mk (blk_below (lK BK167.out) hb); have n2_ := Aside0.mk (below_step lB hb); clear BK164; clear BK167; clear HB; have BK164 := n0_; have BK167 := n1_; have HB := n2_; clear n0_ n1_ n2_; (try clear hb); (try clear hb2); (try clear hk); (try clear hi)))
                  repeat (go_quiet (fail); try go_wp2_with (first | (go_at_call 36; (with_reducible refine (spec_l14Link.calls k4 _ _ l0_0 _ _ l0_1 _ _ l0_2 a0_3 (rd ((rd_T45 l0_0 x31_2).f2) x71_4) false _ ?side1 ?side2 ?side3 ?side4 ?side5 ?side6 A46.out).mono ?_); (case side1 => exact lC (Kd.C_below HR0_0.out HB.out)); (case side2 => exact HC0_0.out); (case side3 => exact lC (Kd.C_below HR0_1.out HB.out)); (case side4 => exact HC0_1.out); (case side5 => exact lC (Kd.C_below HR0_2.out HB.out)); (case side6 => exact HC0_2.out); rintro e w81 ⟨rfl, hb⟩; have n0_ := Aside0.mk (blk_below (lK BK164.out) hb); have n1_ := Aside0.mk (blk_below (lK BK167.out) hb); have n2_ := Aside0.mk (below_step lB hb); clear BK164; clear BK167; clear HB; have BK164 := n0_; have BK167 := n1_; have HB := n2_; clear n0_ n1_ n2_; (try clear hb); (try clear hb2); (try clear hk); (try clear hi))))
                  go_ret
                  exact ⟨lE, lB⟩
                ·rw [if_neg c45] at H
                 exact absurd H (by simp)
               ·rw [if_neg c44] at H
                exact absurd H (by simp)
              ·rw [if_neg c43] at H
               have c43b0 : decide (x71_4 < (((rd_T45 l0_0 x31_2).f2).length : Int)) = false := decide_eq_false c43
               clear c43
               have H' := Aside0.mk H
               clear H
               go_wp2
               repeat (go_quiet (fail); try go_wp2)
               go_roundg k4
               case measure => have := HJ1.out; have := HK2.out; have := HJ14.out; have := HK4.out; omega
               case rel => exact ⟨(wrap64 (x31_2 + 1)), lF, H', ⟨by have := HJ1.out; have := HK2.out; have := HJ14.out; have := HK4.out; omega⟩, ⟨lK BK164.out⟩, ⟨lB⟩⟩
        ·rw [if_neg c14] at H
         exact absurd H (by simp)
       ·rw [if_neg c13] at H
        exact absurd H (by simp)
      ·rw [if_neg c12] at H
       have c12b0 : decide (x31_2 < (l0_0.length : Int)) = false := decide_eq_false c12
       clear c12
       have H' := Aside0.mk H
       clear H
       obtain ⟨hcz82_0, hfz82_0, hcz82_1, hfz82_1, hcz82_2, hfz82_2, hcz82_3, hfz82_3⟩ := bk4 BK164.out
       go_wp2
       repeat (go_quiet (fail); try go_wp2)
       go_loopg [101] k2 (fun kq v101 w' => ∃ (x101_3 : Int), v101 = .int .i64 x101_3 ∧ Aside0 (spec_GoodHeap.l2 kq l0_1 (l0_1.length : Int) x101_3 l0_0 l0_1 l0_2 a0_3 = some r) ∧ Aside0 (kq ≤ k2) ∧ Aside0 (w'.heap[gb164]? = some (.cells #[(.slice A0_0 l0_0.length c0_0), (.slice A0_1 l0_1.length c0_1), (.slice A0_2 l0_2.length c0_2), .int .i64 a0_3] 25 (0, 0))) ∧ Aside0 (Below w.heap.size w w'))
       case atStart => exact ⟨(0), lF, H', ⟨Nat.le_refl _⟩, ⟨lK BK164.out⟩, ⟨lB⟩⟩
       case round =>
        clear H'
        try clear c1
        try clear p1
        try clear q1
        try clear hx1
        try clear c2
        try clear p2
        try clear c3
        try clear c4
        try clear c4b0
        try clear c4b1
        try clear c5
        try clear c6
        try clear c6b0
        try clear c6b1
        try clear p6
        try clear c7
        try clear c10
        try clear c12
        try clear c12b0
        try clear c13
        try clear c13b0
        try clear c14
        try clear c14b0
        try clear c15
        try clear c16
        try clear p16
        try clear q16
        try clear hx16
        try clear c17
        try clear c19
        try clear c19b0
        try clear c20
        try clear c22
        try clear c22b0
        try clear c23
        try clear c26
        try clear c26b0
        try clear c28
        try clear c28b0
        try clear c29
        try clear c29b0
        try clear c30
        try clear c30b0
        try clear c31
        try clear c34
        try clear c37
        try clear c40
        try clear c41
        try clear c43
        try clear c43b0
        try clear c44
        try clear c44b0
        try clear c45
        try clear c45b0
        try clear c47
        try clear c48
        try clear c48b0
        try clear c50
        try clear c52
        try clear c53
        try clear c61
        try clear p64
        try clear c69
        try clear c75
        try clear c79
        try clear hcz11_0 hcz11_1 hcz11_2 hcz11_3
        try clear hcz18_0 hcz18_1 hcz18_2
        try clear hcz21_0 hcz21_1 hcz21_2
        try clear hcz24_0 hcz24_1 hcz24_2
        try clear hcz25_0 hcz25_1 hcz25_2 hcz25_3
        try clear hcz32_0 hcz32_1 hcz32_2
        try clear hcz33_0 hcz33_1 hcz33_2 hcz33_3
        try clear hcz35_0 hcz35_1 hcz35_2
        try clear hcz36_0 hcz36_1 hcz36_2 hcz36_3
        try clear hcz38_0 hcz38_1 hcz38_2
        try clear hcz39_0 hcz39_1 hcz39_2 hcz39_3
        try clear hcz42_0 hcz42_1 hcz42_2
        try clear hcz54_0 hcz54_1 hcz54_2 hcz54_3
        try clear hcz56_0 hcz56_1 hcz56_2
        try clear hcz57_0 hcz57_1 hcz57_2 hcz57_3
        try clear hcz59_0 hcz59_1 hcz59_2 hcz59_3
        try clear hcz5_0 hcz5_1 hcz5_2 hcz5_3
        try clear hcz60_0 hcz60_1 hcz60_2
        try clear hcz62_0 hcz62_1 hcz62_2 hcz62_3
        try clear hcz64_0 hcz64_1 hcz64_2
        try clear hcz65_0 hcz65_1 hcz65_2 hcz65_3
        try clear hcz67_0 hcz67_1 hcz67_2 hcz67_3
        try clear hcz68_0 hcz68_1 hcz68_2
        try clear hcz70_0 hcz70_1 hcz70_2 hcz70_3
        try clear hcz72_0 hcz72_1 hcz72_2
        try clear hcz73_0 hcz73_1 hcz73_2 hcz73_3
        try clear hcz76_0 hcz76_1 hcz76_2 hcz76_3
        try clear hcz78_0 hcz78_1 hcz78_2
        try clear hcz80_0 hcz80_1 hcz80_2 hcz80_3
        try clear hcz82_0 hcz82_1 hcz82_2 hcz82_3
        try clear hcz8_0 hcz8_1 hcz8_2 hcz8_3
        try clear hcz9_0 hcz9_1 hcz9_2 hcz9_3
        try clear hfz11_0 hfz11_1 hfz11_2 hfz11_3
        try clear hfz18_0 hfz18_1 hfz18_2
        try clear hfz21_0 hfz21_1 hfz21_2
        try clear hfz24_0 hfz24_1 hfz24_2
        try clear hfz25_0 hfz25_1 hfz25_2 hfz25_3
        try clear hfz32_0 hfz32_1 hfz32_2
        try clear hfz33_0 hfz33_1 hfz33_2 hfz33_3
        try clear hfz35_0 hfz35_1 hfz35_2
        try clear hfz36_0 hfz36_1 hfz36_2 hfz36_3
        try clear hfz38_0 hfz38_1 hfz38_2
        try clear hfz39_0 hfz39_1 hfz39_2 hfz39_3
        try clear hfz42_0 hfz42_1 hfz42_2
        try clear hfz54_0 hfz54_1 hfz54_2 hfz54_3
        try clear hfz56_0 hfz56_1 hfz56_2
        try clear hfz57_0 hfz57_1 hfz57_2 hfz57_3
        try clear hfz59_0 hfz59_1 hfz59_2 hfz59_3
        try clear hfz5_0 hfz5_1 hfz5_2 hfz5_3
        try clear hfz60_0 hfz60_1 hfz60_2
        try clear hfz62_0 hfz62_1 hfz62_2 hfz62_3
        try clear hfz64_0 hfz64_1 hfz64_2
        try clear hfz65_0 hfz65_1 hfz65_2 hfz65_3
        try clear hfz67_0 hfz67_1 hfz67_2 hfz67_3
        try clear hfz68_0 hfz68_1 hfz68_2
        try clear hfz70_0 hfz70_1 hfz70_2 hfz70_3
        try clear hfz72_0 hfz72_1 hfz72_2
        try clear hfz73_0 hfz73_1 hfz73_2 hfz73_3
        try clear hfz76_0 hfz76_1 hfz76_2 hfz76_3
        try clear hfz78_0 hfz78_1 hfz78_2
        try clear hfz80_0 hfz80_1 hfz80_2 hfz80_3
        try clear hfz82_0 hfz82_1 hfz82_2 hfz82_3
        try clear hfz8_0 hfz8_1 hfz8_2 hfz8_3
        try clear hfz9_0 hfz9_1 hfz9_2 hfz9_3
        try clear hx166_0
        try clear hx166_1
        try clear hx166_2
        try clear hx168_0
        try clear hx168_1
        try clear hx168_2
        try clear hx169_0
        try clear p1
        try clear p16
        try clear p166
        try clear p168
        try clear p169
        try clear p2
        try clear p6
        try clear q1
        try clear q16
        try clear q166
        try clear q168
        try clear q169
        obtain ⟨x101_3, rfl, HA, HK3, BK164, HB⟩ := hrel
        cases gk with
        | zero => exact absurd HA.out (by simp [spec_GoodHeap.l2])
        | succ k3 =>
         have H := HA.out
         clear HA
         simp only [spec_GoodHeap.l2] at H
         by_cases c83 : x101_3 < (l0_1.length : Int)
         ·rw [if_pos c83] at H
          have c83b0 : decide (x101_3 < (l0_1.length : Int)) = true := decide_eq_true c83
          clear c83
          by_cases c84 : 0 ≤ x101_3
          ·rw [if_pos c84] at H
           have c84b0 : decide (0 ≤ x101_3) = true := decide_eq_true c84
           clear c84
           by_cases c85 : x101_3 < (l0_1.length : Int)
           ·rw [if_pos c85] at H
            have c85b0 : decide (x101_3 < (l0_1.length : Int)) = true := decide_eq_true c85
            clear c85
            replace H := lO H
            obtain ⟨t174, A86, H⟩ := H
            by_cases c87 : t174 = true
            ·subst c87
             rw [if_pos rfl] at H
             have H' := Aside0.mk H
             clear H
             have p173 : 0 ≤ (x101_3 : Int) := lD
             have q173 : x101_3 < (l0_1.length : Int) := lD
             obtain ⟨ad173, e173, hx173_0⟩ := Kd.at_int HR0_1.out x101_3 p173 q173
             cases e173
             replace hx173_0 := pw_cell_below HB.out hx173_0
             replace p173 := eq_true p173
             replace q173 := eq_true q173
             obtain ⟨hcz88_0, hfz88_0, hcz88_1, hfz88_1, hcz88_2, hfz88_2, hcz88_3, hfz88_3⟩ := bk4 BK164.out
             go_wp2_with (first | (go_at_call 36; (with_reducible refine (spec_l14Link.calls k3 _ _ l0_0 _ _ l0_1 _ _ l0_2 a0_3 (rd l0_1 x101_3) true _ ?side1 ?side2 ?side3 ?side4 ?side5 ?side6 A86.out).mono ?_); (case side1 => exact lC (Kd.C_below HR0_0.out HB.out)); (case side2 => exact HC0_0.out); (case side3 => exact lC (Kd.C_below HR0_1.out HB.out)); (case side4 => exact HC0_1.out); (case side5 => exact lC (Kd.C_below HR0_2.out HB.out)); (case side6 => exact HC0_2.out); rintro e w89 ⟨rfl, hb⟩; have n0_ := Aside0.mk (blk_below (lK BK164.out) hb); have n1_ := Aside0.mk (below_step lB hb); clear BK164; clear HB; have BK164 := n0_; have HB := n1_; clear n0_ n1_; (try clear hb); (try clear hb2); (try clear hk); (try clear hi)))
             repeat (go_quiet (fail); try go_wp2_with (first | (go_at_call 36; (with_reducible refine (spec_l14Link.calls k3 _ _ l0_0 _ _ l0_1 _ _ l0_2 a0_3 (rd l0_1 x101_3) true _ ?side1 ?side2 ?side3 ?side4 ?side5 ?side6 A86.out).mono ?_); (case side1 => exact lC (Kd.C_below HR0_0.out HB.out)); (case side2 => exact HC0_0.out); (case side3 => exact lC (Kd.C_below HR0_1.out HB.out)); (case side4 => exact HC0_1.out); (case side5 => exact lC (Kd.C_below HR0_2.out HB.out)); (case side6 => exact HC0_2.out); rintro e w89 ⟨rfl, hb⟩; have n0_ := Aside0.mk (blk_below (lK BK164.out) hb); have n1_ := Aside0.mk (below_step lB hb); clear BK164; clear HB; have BK164 := n0_; have HB := n1_; clear n0_ n1_; (try clear hb); (try clear hb2); (try clear hk); (try clear hi))))
             go_roundg k3
             case measure => have := HJ1.out; have := HK2.out; have := HK3.out; omega
             case rel => exact ⟨(wrap64 (x101_3 + 1)), lF, H', ⟨by have := HJ1.out; have := HK2.out; have := HK3.out; omega⟩, ⟨lK BK164.out⟩, ⟨lB⟩⟩
            ·replace c87 := Bool.eq_false_iff.mpr c87
             subst c87
             rw [if_neg (show ¬ (false = true) by decide)] at H
             obtain rfl := Option.some.inj H
             have p173 : 0 ≤ (x101_3 : Int) := lD
             have q173 : x101_3 < (l0_1.length : Int) := lD
             obtain ⟨ad173, e173, hx173_0⟩ := Kd.at_int HR0_1.out x101_3 p173 q173
             cases e173
             replace hx173_0 := pw_cell_below HB.out hx173_0
             replace p173 := eq_true p173
             replace q173 := eq_true q173
             obtain ⟨hcz90_0, hfz90_0, hcz90_1, hfz90_1, hcz90_2, hfz90_2, hcz90_3, hfz90_3⟩ := bk4 BK164.out
             go_wp2_with (first | (go_at_call 36; (with_reducible refine (spec_l14Link.calls k3 _ _ l0_0 _ _ l0_1 _ _ l0_2 a0_3 (rd l0_1 x101_3) false _ ?side1 ?side2 ?side3 ?side4 ?side5 ?side6 A86.out).mono ?_); (case side1 => exact lC (Kd.C_below HR0_0.out HB.out)); (case side2 => exact HC0_0.out); (case side3 => exact lC (Kd.C_below HR0_1.out HB.out)); (case side4 => exact HC0_1.out); (case side5 => exact lC (Kd.C_below HR0_2.out HB.out)); (case side6 => exact HC0_2.out); rintro e w91 ⟨rfl, hb⟩; have n0_ := Aside0.mk (blk_below (lK BK164.out) hb); have n1_ := Aside0.mk (below_step lB hb); clear BK164; clear HB; have BK164 := n0_; have HB := n1_; clear n0_ n1_; (try clear hb); (try clear hb2); (try clear hk); (try clear hi)))
             repeat (go_quiet (fail); try go_wp2_with (first | (go_at_call 36; (with_reducible refine (spec_l14Link.calls k3 _ _ l0_0 _ _ l0_1 _ _ l0_2 a0_3 (rd l0_1 x101_3) false _ ?side1 ?side2 ?side3 ?side4 ?side5 ?side6 A86.out).mono ?_); (case side1 => exact lC (Kd.C_below HR0_0.out HB.out)); (case side2 => exact HC0_0.out); (case side3 => exact lC (Kd.C_below HR0_1.out HB.out)); (case side4 => exact HC0_1.out); (case side5 => exact lC (Kd.C_below HR0_2.out HB.out)); (case side6 => exact HC0_2.out); rintro e w91 ⟨rfl, hb⟩; have n0_ := Aside0.mk (blk_below (lK BK164.out) hb); have n1_ := Aside0.mk (below_step lB hb); clear BK164; clear HB; have BK164 := n0_; have HB := n1_; clear n0_ n1_; (try clear hb); (try clear hb2); (try clear hk); (try clear hi))))
             go_ret
             exact ⟨lE, lB⟩
           ·rw [if_neg c85] at H
            exact absurd H (by simp)
          ·rw [if_neg c84] at H
           exact absurd H (by simp)
         ·rw [if_neg c83] at H
          have c83b0 : decide (x101_3 < (l0_1.length : Int)) = false := decide_eq_false c83
          clear c83
          have H' := Aside0.mk H
          clear H
          obtain ⟨hcz92_0, hfz92_0, hcz92_1, hfz92_1, hcz92_2, hfz92_2, hcz92_3, hfz92_3⟩ := bk4 BK164.out
          go_wp2
          repeat (go_quiet (fail); try go_wp2)
          go_loopg [113] k3 (fun kq v113 w' => ∃ (x113_4 : Int), v113 = .int .i64 x113_4 ∧ Aside0 (spec_GoodHeap.l3 kq l0_2 (l0_2.length : Int) x113_4 l0_0 l0_1 l0_2 a0_3 = some r) ∧ Aside0 (kq ≤ k3) ∧ Aside0 (w'.heap[gb164]? = some (.cells #[(.slice A0_0 l0_0.length c0_0), (.slice A0_1 l0_1.length c0_1), (.slice A0_2 l0_2.length c0_2), .int .i64 a0_3] 25 (0, 0))) ∧ Aside0 (Below w.heap.size w w'))
          case atStart => exact ⟨(0), lF, H', ⟨Nat.le_refl _⟩, ⟨lK BK164.out⟩, ⟨lB⟩⟩
          case round =>
           clear H'
           try clear c1
           try clear p1
           try clear q1
           try clear hx1
           try clear c2
           try clear p2
           try clear c3
           try clear c4
           try clear c4b0
           try clear c4b1
           try clear c5
           try clear c6
           try clear c6b0
           try clear c6b1
           try clear p6
           try clear c7
           try clear c8
           try clear c10
           try clear c12
           try clear c12b0
           try clear c13
           try clear c13b0
           try clear c14
           try clear c14b0
           try clear c15
           try clear c16
           try clear p16
           try clear q16
           try clear hx16
           try clear c17
           try clear p17
           try clear q17
           try clear hx17
           try clear c19
           try clear c19b0
           try clear c20
           try clear c22
           try clear c22b0
           try clear c23
           try clear c26
           try clear c26b0
           try clear c28
           try clear c28b0
           try clear c29
           try clear c29b0
           try clear c30
           try clear c30b0
           try clear c31
           try clear c34
           try clear c37
           try clear c40
           try clear c41
           try clear c43
           try clear c43b0
           try clear c44
           try clear c44b0
           try clear c45
           try clear c45b0
           try clear c47
           try clear c48
           try clear c48b0
           try clear c50
           try clear c52
           try clear c53
           try clear c61
           try clear p64
           try clear c69
           try clear c75
           try clear c79
           try clear c83
           try clear c83b0
           try clear c84
           try clear c84b0
           try clear c85
           try clear c85b0
           try clear c87
           try clear hcz11_0 hcz11_1 hcz11_2 hcz11_3
           try clear hcz18_0 hcz18_1 hcz18_2
           try clear hcz21_0 hcz21_1 hcz21_2
           try clear hcz24_0 hcz24_1 hcz24_2
           try clear hcz25_0 hcz25_1 hcz25_2 hcz25_3
           try clear hcz32_0 hcz32_1 hcz32_2
           try clear hcz33_0 hcz33_1 hcz33_2 hcz33_3
           try clear hcz35_0 hcz35_1 hcz35_2
           try clear hcz36_0 hcz36_1 hcz36_2 hcz36_3
           try clear hcz38_0 hcz38_1 hcz38_2
           try clear hcz39_0 hcz39_1 hcz39_2 hcz39_3
           try clear hcz42_0 hcz42_1 hcz42_2
           try clear hcz54_0 hcz54_1 hcz54_2 hcz54_3
           try clear hcz56_0 hcz56_1 hcz56_2
           try clear hcz57_0 hcz57_1 hcz57_2 hcz57_3
           try clear hcz59_0 hcz59_1 hcz59_2 hcz59_3
           try clear hcz5_0 hcz5_1 hcz5_2 hcz5_3
           try clear hcz60_0 hcz60_1 hcz60_2
           try clear hcz62_0 hcz62_1 hcz62_2 hcz62_3
           try clear hcz64_0 hcz64_1 hcz64_2
           try clear hcz65_0 hcz65_1 hcz65_2 hcz65_3
           try clear hcz67_0 hcz67_1 hcz67_2 hcz67_3
           try clear hcz68_0 hcz68_1 hcz68_2
           try clear hcz70_0 hcz70_1 hcz70_2 hcz70_3
           try clear hcz72_0 hcz72_1 hcz72_2
           try clear hcz73_0 hcz73_1 hcz73_2 hcz73_3
           try clear hcz76_0 hcz76_1 hcz76_2 hcz76_3
           try clear hcz78_0 hcz78_1 hcz78_2
           try clear hcz80_0 hcz80_1 hcz80_2 hcz80_3
           try clear hcz82_0 hcz82_1 hcz82_2 hcz82_3
           try clear hcz88_0 hcz88_1 hcz88_2 hcz88_3
           try clear hcz8_0 hcz8_1 hcz8_2 hcz8_3
           try clear hcz90_0 hcz90_1 hcz90_2 hcz90_3
           try clear hcz92_0 hcz92_1 hcz92_2 hcz92_3
           try clear hcz9_0 hcz9_1 hcz9_2 hcz9_3
           try clear hfz11_0 hfz11_1 hfz11_2 hfz11_3
           try clear hfz18_0 hfz18_1 hfz18_2
           try clear hfz21_0 hfz21_1 hfz21_2
           try clear hfz24_0 hfz24_1 hfz24_2
           try clear hfz25_0 hfz25_1 hfz25_2 hfz25_3
           try clear hfz32_0 hfz32_1 hfz32_2
           try clear hfz33_0 hfz33_1 hfz33_2 hfz33_3
           try clear hfz35_0 hfz35_1 hfz35_2
           try clear hfz36_0 hfz36_1 hfz36_2 hfz36_3
           try clear hfz38_0 hfz38_1 hfz38_2
           try clear hfz39_0 hfz39_1 hfz39_2 hfz39_3
           try clear hfz42_0 hfz42_1 hfz42_2
           try clear hfz54_0 hfz54_1 hfz54_2 hfz54_3
           try clear hfz56_0 hfz56_1 hfz56_2
           try clear hfz57_0 hfz57_1 hfz57_2 hfz57_3
           try clear hfz59_0 hfz59_1 hfz59_2 hfz59_3
           try clear hfz5_0 hfz5_1 hfz5_2 hfz5_3
           try clear hfz60_0 hfz60_1 hfz60_2
           try clear hfz62_0 hfz62_1 hfz62_2 hfz62_3
           try clear hfz64_0 hfz64_1 hfz64_2
           try clear hfz65_0 hfz65_1 hfz65_2 hfz65_3
           try clear hfz67_0 hfz67_1 hfz67_2 hfz67_3
           try clear hfz68_0 hfz68_1 hfz68_2
           try clear hfz70_0 hfz70_1 hfz70_2 hfz70_3
           try clear hfz72_0 hfz72_1 hfz72_2
           try clear hfz73_0 hfz73_1 hfz73_2 hfz73_3
           try clear hfz76_0 hfz76_1 hfz76_2 hfz76_3
           try clear hfz78_0 hfz78_1 hfz78_2
           try clear hfz80_0 hfz80_1 hfz80_2 hfz80_3
           try clear hfz82_0 hfz82_1 hfz82_2 hfz82_3
           try clear hfz88_0 hfz88_1 hfz88_2 hfz88_3
           try clear hfz8_0 hfz8_1 hfz8_2 hfz8_3
           try clear hfz90_0 hfz90_1 hfz90_2 hfz90_3
           try clear hfz92_0 hfz92_1 hfz92_2 hfz92_3
           try clear hfz9_0 hfz9_1 hfz9_2 hfz9_3
           try clear hx166_0
           try clear hx166_1
           try clear hx166_2
           try clear hx168_0
           try clear hx168_1
           try clear hx168_2
           try clear hx169_0
           try clear hx173_0
           try clear p1
           try clear p16
           try clear p166
           try clear p168
           try clear p169
           try clear p173
           try clear p2
           try clear p6
           try clear p64
           try clear q1
           try clear q16
           try clear q166
           try clear q168
           try clear q169
           try clear q173
           obtain ⟨x113_4, rfl, HA, HK4, BK164, HB⟩ := hrel
           cases gk with
           | zero => exact absurd HA.out (by simp [spec_GoodHeap.l3])
           | succ k4 =>
            have H := HA.out
            clear HA
            simp only [spec_GoodHeap.l3] at H
            by_cases c93 : x113_4 < (l0_2.length : Int)
            ·rw [if_pos c93] at H
             have c93b0 : decide (x113_4 < (l0_2.length : Int)) = true := decide_eq_true c93
             clear c93
             by_cases c94 : 0 ≤ x113_4
             ·rw [if_pos c94] at H
              have c94b0 : decide (0 ≤ x113_4) = true := decide_eq_true c94
              clear c94
              by_cases c95 : x113_4 < (l0_2.length : Int)
              ·rw [if_pos c95] at H
               have c95b0 : decide (x113_4 < (l0_2.length : Int)) = true := decide_eq_true c95
               clear c95
               replace H := lO H
               obtain ⟨t176, A96, H⟩ := H
               by_cases c97 : t176 < 0
               ·rw [if_pos c97] at H
                have c97b0 : decide (t176 < 0) = true := decide_eq_true c97
                clear c97
                obtain rfl := Option.some.inj H
                have p175 : 0 ≤ (x113_4 : Int) := lD
                have q175 : x113_4 < (l0_2.length : Int) := lD
                obtain ⟨ad175, e175, hx175_0⟩ := Kd.at_int HR0_2.out x113_4 p175 q175
                cases e175
                replace hx175_0 := pw_cell_below HB.out hx175_0
                replace p175 := eq_true p175
                replace q175 := eq_true q175
                obtain ⟨hcz98_0, hfz98_0, hcz98_1, hfz98_1, hcz98_2, hfz98_2, hcz98_3, hfz98_3⟩ := bk4 BK164.out
                go_wp2_with (first | (go_at_call 39; (with_reducible refine (spec_l14At.calls k4 _ _ l0_0 _ _ l0_1 _ _ l0_2 a0_3 (rd l0_2 x113_4) t176 _ ?side1 ?side2 ?side3 ?side4 ?side5 ?side6 A96.out).mono ?_); (case side1 => exact lC (Kd.C_below HR0_0.out HB.out)); (case side2 => exact HC0_0.out); (case side3 => exact lC (Kd.C_below HR0_1.out HB.out)); (case side4 => exact HC0_1.out); (case side5 => exact lC (Kd.C_below HR0_2.out HB.out)); (case side6 => exact HC0_2.out); rintro e w99 ⟨rfl, hb⟩; have n0_ := Aside0.mk (blk_below (lK BK164.out) hb); have n1_ := Aside0.mk (below_step lB hb); clear BK164; clear HB; have BK164 := n0_; have HB := n1_; clear n0_ n1_; (try clear hb); (try clear hb2); (try clear hk); (try clear hi)))
                repeat (go_quiet (fail); try go_wp2_with (first | (go_at_call 39; (with_reducible refine (spec_l14At.calls k4 _ _ l0_0 _ _ l0_1 _ _ l0_2 a0_3 (rd l0_2 x113_4) t176 _ ?side1 ?side2 ?side3 ?side4 ?side5 ?side6 A96.out).mono ?_); (case side1 => exact lC (Kd.C_below HR0_0.out HB.out)); (case side2 => exact HC0_0.out); (case side3 => exact lC (Kd.C_below HR0_1.out HB.out)); (case side4 => exact HC0_1.out); (case side5 => exact lC (Kd.C_below HR0_2.out HB.out)); (case side6 => exact HC0_2.out); rintro e w99 ⟨rfl, hb⟩; have n0_ := Aside0.mk (blk_below (lK BK164.out) hb); have n1_ := Aside0.mk (below_step lB hb); clear BK164; clear HB; have BK164 := n0_; have HB := n1_; clear n0_ n1_; (try clear hb); (try clear hb2); (try clear hk); (try clear hi))))
                go_ret
                exact ⟨lE, lB⟩
               ·rw [if_neg c97] at H
                have c97b0 : decide (t176 < 0) = false := decide_eq_false c97
                clear c97
                by_cases c100 : 0 ≤ t176
                ·rw [if_pos c100] at H
                 have c100b0 : decide (0 ≤ t176) = true := decide_eq_true c100
                 clear c100
                 by_cases c101 : t176 < (l0_0.length : Int)
                 ·rw [if_pos c101] at H
                  have c101b0 : decide (t176 < (l0_0.length : Int)) = true := decide_eq_true c101
                  clear c101
                  obtain ⟨bq102, hbq102⟩ : ∃ b_ : Bool, b_ = ((rd_T45 l0_0 t176).f1) := ⟨_, rfl⟩
                  replace H : (if (bq102 = true) then (if x113_4 > 0 then (if 0 ≤ (wrap64 (x113_4 - 1)) then (if (wrap64 (x113_4 - 1)) < (l0_2.length : Int) then (if (rd l0_2 (wrap64 (x113_4 - 1))) ≥ (rd l0_2 x113_4) then (some false) else (spec_GoodHeap.l3 k4 l0_2 (l0_2.length : Int) (wrap64 (x113_4 + 1)) l0_0 l0_1 l0_2 a0_3)) else (none)) else (none)) else (spec_GoodHeap.l3 k4 l0_2 (l0_2.length : Int) (wrap64 (x113_4 + 1)) l0_0 l0_1 l0_2 a0_3)) else (some false)) = some r := by rw [← hbq102] at H; exact H
                  have Nbq102 := Aside0.mk hbq102
                  clear hbq102
                  (try rw [← Nbq102.out])
                  by_cases c103 : (bq102 = true)
                  ·subst c103
                   rw [if_pos rfl] at H
                   by_cases c104 : x113_4 > 0
                   ·rw [if_pos c104] at H
                    have c104b0 : decide (0 < x113_4) = true := decide_eq_true c104
                    clear c104
                    obtain ⟨ji105, hji105⟩ : ∃ j_ : Int, (wrap64 (x113_4 - 1)) = j_ := ⟨_, rfl⟩
                    replace H : (if 0 ≤ (ji105) then (if (ji105) < (l0_2.length : Int) then (if (rd l0_2 (ji105)) ≥ (rd l0_2 x113_4) then (some false) else (spec_GoodHeap.l3 k4 l0_2 (l0_2.length : Int) (wrap64 (x113_4 + 1)) l0_0 l0_1 l0_2 a0_3)) else (none)) else (none)) = some r := by first | (rw [hji105] at H; exact H) | (simp only [hji105] at H ⊢; exact H)
                    (try rw [hji105] at A96)
                    have hji105w : (IntKind.i64.wrap (x113_4 - 1)) = ji105 := (i64_w _).trans hji105
                    by_cases c106 : 0 ≤ (ji105)
                    ·rw [if_pos c106] at H
                     have c106b0 : decide (0 ≤ (ji105)) = true := decide_eq_true c106
                     clear c106
                     by_cases c107 : (ji105) < (l0_2.length : Int)
                     ·rw [if_pos c107] at H
                      have c107b0 : decide ((ji105) < (l0_2.length : Int)) = true := decide_eq_true c107
                      clear c107
                      by_cases c108 : (rd l0_2 (ji105)) ≥ (rd l0_2 x113_4)
                      ·rw [if_pos c108] at H
                       have c108b0 : decide ((rd l0_2 x113_4) ≤ (rd l0_2 (ji105))) = true := decide_eq_true c108
                       clear c108
                       obtain rfl := Option.some.inj H
                       have p175 : 0 ≤ (x113_4 : Int) := lD
                       have q175 : x113_4 < (l0_2.length : Int) := lD
                       obtain ⟨ad175, e175, hx175_0⟩ := Kd.at_int HR0_2.out x113_4 p175 q175
                       cases e175
                       replace hx175_0 := pw_cell_below HB.out hx175_0
                       replace p175 := eq_true p175
                       replace q175 := eq_true q175
                       obtain ⟨hcz109_0, hfz109_0, hcz109_1, hfz109_1, hcz109_2, hfz109_2, hcz109_3, hfz109_3⟩ := bk4 BK164.out
                       go_wp2_with (first | (go_at_call 39; (with_reducible refine (spec_l14At.calls k4 _ _ l0_0 _ _ l0_1 _ _ l0_2 a0_3 (rd l0_2 x113_4) t176 _ ?side1 ?side2 ?side3 ?side4 ?side5 ?side6 A96.out).mono ?_); (case side1 => exact lC (Kd.C_below HR0_0.out HB.out)); (case side2 => exact HC0_0.out); (case side3 => exact lC (Kd.C_below HR0_1.out HB.out)); (case side4 => exact HC0_1.out); (case side5 => exact lC (Kd.C_below HR0_2.out HB.out)); (case side6 => exact HC0_2.out); rintro e w110 ⟨rfl, hb⟩; have n0_ := Aside0.mk (blk_below (lK BK164.out) hb); have n1_ := Aside0.mk (below_step lB hb); clear BK164; clear HB; have BK164 := n0_; have HB := n1_; clear n0_ n1_; (try clear hb); (try clear hb2); (try clear hk); (try clear hi); obtain ⟨hcz111_0, hfz111_0, hcz111_1, hfz111_1, hcz111_2, hfz111_2, hcz111_3, hfz111_3⟩ := bk4 BK164.out; have p177 : 0 ≤ (t176 : Int) := lD; have q177 : t176 < (l0_0.length : Int) := lD; obtain ⟨ad177, A177_2, c177_2, e177, hx177_0, hx177_1, hx177_2, hl177_2, hi177_2⟩ := at_T45 HR0_0.out t176 p177 q177; (try rw [← Nbq102.out] at hx177_1); cases e177; replace hx177_0 := pw_cell_below HB.out hx177_0; replace hx177_1 := pw_cell_below HB.out hx177_1; replace hx177_2 := pw_cell_below HB.out hx177_2; have HR177_2 := Aside0.mk hi177_2; have HC177_2 := Aside0.mk hl177_2; clear hi177_2 hl177_2; replace p177 := eq_true p177; replace q177 := eq_true q177; have p178 : 0 ≤ ((ji105) : Int) := lD; have q178 : (ji105) < (l0_2.length : Int) := lD; obtain ⟨ad178, e178, hx178_0⟩ := Kd.at_int HR0_2.out (ji105) p178 q178; obtain rfl : ad175 = ad178 := (by injection e178); replace hx178_0 := pw_cell_below HB.out hx178_0; replace p178 := eq_true p178; replace q178 := eq_true q178))
                       repeat (go_quiet (fail); try go_wp2_with (first | (go_at_call 39; (with_reducible refine (spec_l14At.calls k4 _ _ l0_0 _ _ l0_1 _ _ l0_2 a0_3 (rd l0_2 x113_4) t176 _ ?side1 ?side2 ?side3 ?side4 ?side5 ?side6 A96.out).mono ?_); (case side1 => exact lC (Kd.C_below HR0_0.out HB.out)); (case side2 => exact HC0_0.out); (case side3 => exact lC (Kd.C_below HR0_1.out HB.out)); (case side4 => exact HC0_1.out); (case side5 => exact lC (Kd.C_below HR0_2.out HB.out)); (case side6 => exact HC0_2.out); rintro e w110 ⟨rfl, hb⟩; have n0_ := Aside0.mk (blk_below (lK BK164.out) hb); have n1_ := Aside0.mk (below_step lB hb); clear BK164; clear HB; have BK164 := n0_; have HB := n1_; clear n0_ n1_; (try clear hb); (try clear hb2); (try clear hk); (try clear hi); obtain ⟨hcz111_0, hfz111_0, hcz111_1, hfz111_1, hcz111_2, hfz111_2, hcz111_3, hfz111_3⟩ := bk4 BK164.out; have p177 : 0 ≤ (t176 : Int) := lD; have q177 : t176 < (l0_0.length : Int) := lD; obtain ⟨ad177, A177_2, c177_2, e177, hx177_0, hx177_1, hx177_2, hl177_2, hi177_2⟩ := at_T45 HR0_0.out t176 p177 q177; (try rw [← Nbq102.out] at hx177_1); cases e177; replace hx177_0 := pw_cell_below HB.out hx177_0; replace hx177_1 := pw_cell_below HB.out hx177_1; replace hx177_2 := pw_cell_below HB.out hx177_2; have HR177_2 := Aside0.mk hi177_2; have HC177_2 := Aside0.mk hl177_2; clear hi177_2 hl177_2; replace p177 := eq_true p177; replace q177 := eq_true q177; have p178 : 0 ≤ ((ji105) : Int) := lD; have q178 : (ji105) < (l0_2.length : Int) := lD; obtain ⟨ad178, e178, hx178_0⟩ := Kd.at_int HR0_2.out (ji105) p178 q178; obtain rfl : ad175 = ad178 := (by injection e178); replace hx178_0 := pw_cell_below HB.out hx178_0; replace p178 := eq_true p178; replace q178 := eq_true q178)))
                       go_ret
                       exact ⟨by first | rfl | (simp [errW_none, errW_some] <;> rfl) | (simp only [← hji105]; first | rfl | (simp [errW_none, errW_some] <;> rfl)) | (simp [*, errW_none, errW_some] <;> rfl), lB⟩
                      ·rw [if_neg c108] at H
                       have c108b0 : decide ((rd l0_2 x113_4) ≤ (rd l0_2 (ji105))) = false := decide_eq_false c108
                       clear c108
                       have H' := Aside0.mk H
                       clear H
                       have p175 : 0 ≤ (x113_4 : Int) := lD
                       have q175 : x113_4 < (l0_2.length : Int) := lD
                       obtain ⟨ad175, e175, hx175_0⟩ := Kd.at_int HR0_2.out x113_4 p175 q175
                       cases e175
                       replace hx175_0 := pw_cell_below HB.out hx175_0
                       replace p175 := eq_true p175
                       replace q175 := eq_true q175
                       obtain ⟨hcz112_0, hfz112_0, hcz112_1, hfz112_1, hcz112_2, hfz112_2, hcz112_3, hfz112_3⟩ := bk4 BK164.out
                       go_wp2_with (first | (go_at_call 39; (with_reducible refine (spec_l14At.calls k4 _ _ l0_0 _ _ l0_1 _ _ l0_2 a0_3 (rd l0_2 x113_4) t176 _ ?side1 ?side2 ?side3 ?side4 ?side5 ?side6 A96.out).mono ?_); (case side1 => exact lC (Kd.C_below HR0_0.out HB.out)); (case side2 => exact HC0_0.out); (case side3 => exact lC (Kd.C_below HR0_1.out HB.out)); (case side4 => exact HC0_1.out); (case side5 => exact lC (Kd.C_below HR0_2.out HB.out)); (case side6 => exact HC0_2.out); rintro e w113 ⟨rfl, hb⟩; have n0_ := Aside0.mk (blk_below (lK BK164.out) hb); have n1_ := Aside0.mk (below_step lB hb); clear BK164; clear HB; have BK164 := n0_; have HB := n1_; clear n0_ n1_; (try clear hb); (try clear hb2); (try clear hk); (try clear hi); obtain ⟨hcz114_0, hfz114_0, hcz114_1, hfz114_1, hcz114_2, hfz114_2, hcz114_3, hfz114_3⟩ := bk4 BK164.out; have p177 : 0 ≤ (t176 : Int) := lD; have q177 : t176 < (l0_0.length : Int) := lD; obtain ⟨ad177, A177_2, c177_2, e177, hx177_0, hx177_1, hx177_2, hl177_2, hi177_2⟩ := at_T45 HR0_0.out t176 p177 q177; (try rw [← Nbq102.out] at hx177_1); cases e177; replace hx177_0 := pw_cell_below HB.out hx177_0; replace hx177_1 := pw_cell_below HB.out hx177_1; replace hx177_2 := pw_cell_below HB.out hx177_2; have HR177_2 := Aside0.mk hi177_2; have HC177_2 := Aside0.mk hl177_2; clear hi177_2 hl177_2; replace p177 := eq_true p177; replace q177 := eq_true q177; have p178 : 0 ≤ ((ji105) : Int) := lD; have q178 : (ji105) < (l0_2.length : Int) := lD; obtain ⟨ad178, e178, hx178_0⟩ := Kd.at_int HR0_2.out (ji105) p178 q178; obtain rfl : ad175 = ad178 := (by injection e178); replace hx178_0 := pw_cell_below HB.out hx178_0; replace p178 := eq_true p178; replace q178 := eq_true q178))
                       repeat (go_quiet (fail); try go_wp2_with (first | (go_at_call 39; (with_reducible refine (spec_l14At.calls k4 _ _ l0_0 _ _ l0_1 _ _ l0_2 a0_3 (rd l0_2 x113_4) t176 _ ?side1 ?side2 ?side3 ?side4 ?side5 ?side6 A96.out).mono ?_); (case side1 => exact lC (Kd.C_below HR0_0.out HB.out)); (case side2 => exact HC0_0.out); (case side3 => exact lC (Kd.C_below HR0_1.out HB.out)); (case side4 => exact HC0_1.out); (case side5 => exact lC (Kd.C_below HR0_2.out HB.out)); (case side6 => exact HC0_2.out); rintro e w113 ⟨rfl, hb⟩; have n0_ := Aside0.mk (blk_below (lK BK164.out) hb); have n1_ := Aside0.mk (below_step lB hb); clear BK164; clear HB; have BK164 := n0_; have HB := n1_; clear n0_ n1_; (try clear hb); (try clear hb2); (try clear hk); (try clear hi); obtain ⟨hcz114_0, hfz114_0, hcz114_1, hfz114_1, hcz114_2, hfz114_2, hcz114_3, hfz114_3⟩ := bk4 BK164.out; have p177 : 0 ≤ (t176 : Int) := lD; have q177 : t176 < (l0_0.length : Int) := lD; obtain ⟨ad177, A177_2, c177_2, e177, hx177_0, hx177_1, hx177_2, hl177_2, hi177_2⟩ := at_T45 HR0_0.out t176 p177 q177; (try rw [← Nbq102.out] at hx177_1); cases e177; replace hx177_0 := pw_cell_below HB.out hx177_0; replace hx177_1 := pw_cell_below HB.out hx177_1; replace hx177_2 := pw_cell_below HB.out hx177_2; have HR177_2 := Aside0.mk hi177_2; have HC177_2 := Aside0.mk hl177_2; clear hi177_2 hl177_2; replace p177 := eq_true p177; replace q177 := eq_true q177; have p178 : 0 ≤ ((ji105) : Int) := lD; have q178 : (ji105) < (l0_2.length : Int) := lD; obtain ⟨ad178, e178, hx178_0⟩ := Kd.at_int HR0_2.out (ji105) p178 q178; obtain rfl : ad175 = ad178 := (by injection e178); replace hx178_0 := pw_cell_below HB.out hx178_0; replace p178 := eq_true p178; replace q178 := eq_true q178)))
                       go_roundg k4
                       case measure => have := HJ1.out; have := HK2.out; have := HK3.out; have := HK4.out; omega
                       case rel => exact ⟨(wrap64 (x113_4 + 1)), lF, H', ⟨by have := HJ1.out; have := HK2.out; have := HK3.out; have := HK4.out; omega⟩, ⟨lK BK164.out⟩, ⟨lB⟩⟩
                     ·rw [if_neg c107] at H
                      exact absurd H (by simp)
                    ·rw [if_neg c106] at H
                     exact absurd H (by simp)
                   ·rw [if_neg c104] at H
                    have c104b0 : decide (0 < x113_4) = false := decide_eq_false c104
                    clear c104
                    have H' := Aside0.mk H
                    clear H
                    have p175 : 0 ≤ (x113_4 : Int) := lD
                    have q175 : x113_4 < (l0_2.length : Int) := lD
                    obtain ⟨ad175, e175, hx175_0⟩ := Kd.at_int HR0_2.out x113_4 p175 q175
                    cases e175
                    replace hx175_0 := pw_cell_below HB.out hx175_0
                    replace p175 := eq_true p175
                    replace q175 := eq_true q175
                    obtain ⟨hcz115_0, hfz115_0, hcz115_1, hfz115_1, hcz115_2, hfz115_2, hcz115_3, hfz115_3⟩ := bk4 BK164.out
                    go_wp2_with (first | (go_at_call 39; (with_reducible refine (spec_l14At.calls k4 _ _ l0_0 _ _ l0_1 _ _ l0_2 a0_3 (rd l0_2 x113_4) t176 _ ?side1 ?side2 ?side3 ?side4 ?side5 ?side6 A96.out).mono ?_); (case side1 => exact lC (Kd.C_below HR0_0.out HB.out)); (case side2 => exact HC0_0.out); (case side3 => exact lC (Kd.C_below HR0_1.out HB.out)); (case side4 => exact HC0_1.out); (case side5 => exact lC (Kd.C_below HR0_2.out HB.out)); (case side6 => exact HC0_2.out); rintro e w116 ⟨rfl, hb⟩; have n0_ := Aside0.mk (blk_below (lK BK164.out) hb); have n1_ := Aside0.mk (below_step lB hb); clear BK164; clear HB; have BK164 := n0_; have HB := n1_; clear n0_ n1_; (try clear hb); (try clear hb2); (try clear hk); (try clear hi); obtain ⟨hcz117_0, hfz117_0, hcz117_1, hfz117_1, hcz117_2, hfz117_2, hcz117_3, hfz117_3⟩ := bk4 BK164.out; have p177 : 0 ≤ (t176 : Int) := lD; have q177 : t176 < (l0_0.length : Int) := lD; obtain ⟨ad177, A177_2, c177_2, e177, hx177_0, hx177_1, hx177_2, hl177_2, hi177_2⟩ := at_T45 HR0_0.out t176 p177 q177; (try rw [← Nbq102.out] at hx177_1); cases e177; replace hx177_0 := pw_cell_below HB.out hx177_0; replace hx177_1 := pw_cell_below HB.out hx177_1; replace hx177_2 := pw_cell_below HB.out hx177_2; have HR177_2 := Aside0.mk hi177_2; have HC177_2 := Aside0.mk hl177_2; clear hi177_2 hl177_2; replace p177 := eq_true p177; replace q177 := eq_true q177))
                    repeat (go_quiet (fail); try go_wp2_with (first | (go_at_call 39; (with_reducible refine (spec_l14At.calls k4 _ _ l0_0 _ _ l0_1 _ _ l0_2 a0_3 (rd l0_2 x113_4) t176 _ ?side1 ?side2 ?side3 ?side4 ?side5 ?side6 A96.out).mono ?_); (case side1 => exact lC (Kd.C_below HR0_0.out HB.out)); (case side2 => exact HC0_0.out); (case side3 => exact lC (Kd.C_below HR0_1.out HB.out)); (case side4 => exact HC0_1.out); (case side5 => exact lC (Kd.C_below HR0_2.out HB.out)); (case side6 => exact HC0_2.out); rintro e w116 ⟨rfl, hb⟩; have n0_ := Aside0.mk (blk_below (lK BK164.out) hb); have n1_ := Aside0.mk (below_step lB hb); clear BK164; clear HB; have BK164 := n0_; have HB := n1_; clear n0_ n1_; (try clear hb); (try clear hb2); (try clear hk); (try clear hi); obtain ⟨hcz117_0, hfz117_0, hcz117_1, hfz117_1, hcz117_2, hfz117_2, hcz117_3, hfz117_3⟩ := bk4 BK164.out; have p177 : 0 ≤ (t176 : Int) := lD; have q177 : t176 < (l0_0.length : Int) := lD; obtain ⟨ad177, A177_2, c177_2, e177, hx177_0, hx177_1, hx177_2, hl177_2, hi177_2⟩ := at_T45 HR0_0.out t176 p177 q177; (try rw [← Nbq102.out] at hx177_1); cases e177; replace hx177_0 := pw_cell_below HB.out hx177_0; replace hx177_1 := pw_cell_below HB.out hx177_1; replace hx177_2 := pw_cell_below HB.out hx177_2; have HR177_2 := Aside0.mk hi177_2; have HC177_2 := Aside0.mk hl177_2; clear hi177_2 hl177_2; replace p177 := eq_true p177; replace q177 := eq_true q177)))
                    go_roundg k4
                    case measure => have := HJ1.out; have := HK2.out; have := HK3.out; have := HK4.out; omega
                    case rel => exact ⟨(wrap64 (x113_4 + 1)), lF, H', ⟨by have := HJ1.out; have := HK2.out; have := HK3.out; have := HK4.out; omega⟩, ⟨lK BK164.out⟩, ⟨lB⟩⟩
                  ·replace c103 := Bool.eq_false_iff.mpr c103
                   subst c103
                   rw [if_neg (show ¬ (false = true) by decide)] at H
                   obtain rfl := Option.some.inj H
                   have p175 : 0 ≤ (x113_4 : Int) := lD
                   have q175 : x113_4 < (l0_2.length : Int) := lD
                   obtain ⟨ad175, e175, hx175_0⟩ := Kd.at_int HR0_2.out x113_4 p175 q175
                   cases e175
                   replace hx175_0 := pw_cell_below HB.out hx175_0
                   replace p175 := eq_true p175
                   replace q175 := eq_true q175
                   obtain ⟨hcz118_0, hfz118_0, hcz118_1, hfz118_1, hcz118_2, hfz118_2, hcz118_3, hfz118_3⟩ := bk4 BK164.out
                   go_wp2_with (first | (go_at_call 39; (with_reducible refine (spec_l14At.calls k4 _ _ l0_0 _ _ l0_1 _ _ l0_2 a0_3 (rd l0_2 x113_4) t176 _ ?side1 ?side2 ?side3 ?side4 ?side5 ?side6 A96.out).mono ?_); (case side1 => exact lC (Kd.C_below HR0_0.out HB.out)); (case side2 => exact HC0_0.out); (case side3 => exact lC (Kd.C_below HR0_1.out HB.out)); (case side4 => exact HC0_1.out); (case side5 => exact lC (Kd.C_below HR0_2.out HB.out)); (case side6 => exact HC0_2.out); rintro e w119 ⟨rfl, hb⟩; have n0_ := Aside0.mk (blk_below (lK BK164.out) hb); have n1_ := Aside0.mk (below_step lB hb); clear BK164; clear HB; have BK164 := n0_; have HB := n1_; clear n0_ n1_; (try clear hb); (try clear hb2); (try clear hk); (try clear hi); obtain ⟨hcz120_0, hfz120_0, hcz120_1, hfz120_1, hcz120_2, hfz120_2, hcz120_3, hfz120_3⟩ := bk4 BK164.out; have p177 : 0 ≤ (t176 : Int) := lD; have q177 : t176 < (l0_0.length : Int) := lD; obtain ⟨ad177, A177_2, c177_2, e177, hx177_0, hx177_1, hx177_2, hl177_2, hi177_2⟩ := at_T45 HR0_0.out t176 p177 q177; (try rw [← Nbq102.out] at hx177_1); cases e177; replace hx177_0 := pw_cell_below HB.out hx177_0; replace hx177_1 := pw_cell_below HB.out hx177_1; replace hx177_2 := pw_cell_below HB.out hx177_2; have HR177_2 := Aside0.mk hi177_2; have HC177_2 := Aside0.mk hl177_2; clear hi177_2 hl177_2; replace p177 := eq_true p177; replace q177 := eq_true q177))
                   repeat (go_quiet (fail); try go_wp2_with (first | (go_at_call 39; (with_reducible refine (spec_l14At.calls k4 _ _ l0_0 _ _ l0_1 _ _ l0_2 a0_3 (rd l0_2 x113_4) t176 _ ?side1 ?side2 ?side3 ?side4 ?side5 ?side6 A96.out).mono ?_); (case side1 => exact lC (Kd.C_below HR0_0.out HB.out)); (case side2 => exact HC0_0.out); (case side3 => exact lC (Kd.C_below HR0_1.out HB.out)); (case side4 => exact HC0_1.out); (case side5 => exact lC (Kd.C_below HR0_2.out HB.out)); (case side6 => exact HC0_2.out); rintro e w119 ⟨rfl, hb⟩; have n0_ := Aside0.mk (blk_below (lK BK164.out) hb); have n1_ := Aside0.mk (below_step lB hb); clear BK164; clear HB; have BK164 := n0_; have HB := n1_; clear n0_ n1_; (try clear hb); (try clear hb2); (try clear hk); (try clear hi); obtain ⟨hcz120_0, hfz120_0, hcz120_1, hfz120_1, hcz120_2, hfz120_2, hcz120_3, hfz120_3⟩ := bk4 BK164.out; have p177 : 0 ≤ (t176 : Int) := lD; have q177 : t176 < (l0_0.length : Int) := lD; obtain ⟨ad177, A177_2, c177_2, e177, hx177_0, hx177_1, hx177_2, hl177_2, hi177_2⟩ := at_T45 HR0_0.out t176 p177 q177; (try rw [← Nbq102.out] at hx177_1); cases e177; replace hx177_0 := pw_cell_below HB.out hx177_0; replace hx177_1 := pw_cell_below HB.out hx177_1; replace hx177_2 := pw_cell_below HB.out hx177_2; have HR177_2 := Aside0.mk hi177_2; have HC177_2 := Aside0.mk hl177_2; clear hi177_2 hl177_2; replace p177 := eq_true p177; replace q177 := eq_true q177)))
                   go_ret
                   exact ⟨lE, lB⟩
                 ·rw [if_neg c101] at H
                  exact absurd H (by simp)
                ·rw [if_neg c100] at H
                 exact absurd H (by simp)
              ·rw [if_neg c95] at H
               exact absurd H (by simp)
             ·rw [if_neg c94] at H
              exact absurd H (by simp)
            ·rw [if_neg c93] at H
             have c93b0 : decide (x113_4 < (l0_2.length : Int)) = false := decide_eq_false c93
             clear c93
             obtain rfl := Option.some.inj H
             go_wp2
             repeat (go_quiet (fail); try go_wp2)
             go_ret
             exact ⟨lE, lB⟩

end Go.Proofs.Ytnocadhibajaoaa.Q
