-- Written by the program wip/tools/pr.py of this claim's session, over the kit's print.py.
import Derived.Test.YtnocadhibajaoaaQx0
import Derived.Test.YtnocadhibajaoaaQx2
import Derived.Test.YtnocadhibajaoaaQx3
import Derived.Test.YtnocadhibajaoaaQx4
namespace Go.Proofs.Ytnocadhibajaoaa.Q
open Go.RowKit Go.Proofs.YtnocadhibajaoaaW.PrintWords Go.Proofs.YtnocadhibajaoaaW.PrintLast Go.Proofs.YtnocadhibajaoaaW.PrintMore
attribute [local go_sem] max2_int min2_int max_two min_two max_three min_three max_four min_four   -- for this text's walks alone
set_option linter.unusedVariables false
set_option linter.unusedSimpArgs false

/-! ### spec_SameShape: function 23 -/
mutual
def spec_SameShape.j0 : Nat → Bool → List (S45) → List Int → List Int → Int → List (S45) → List Int → List Int → Int → Option (Bool × Bool)
 | 0, _, _, _, _, _, _, _, _, _ => none
 | k + 1, x20, x203000, x203001, x203002, x203003, x204000, x204001, x204002, x204003 => if x20 = true then (some (false, false)) else ((spec_l14Reach.f k x203000 x203001 x203002 x203003 x203001 false).bind fun t206 => ((spec_l14Reach.f k x204000 x204001 x204002 x204003 x204001 false).bind fun t209 => (if (t206.length : Int) = (t209.length : Int) then (spec_SameShape.l0 k t206 t209 (x203001.length : Int) 0 x203000 x203001 x203002 x203003 x204000 x204001 x204002 x204003) else (some (false, true)))))
def spec_SameShape.l0 : Nat → List Int → List Int → Int → Int → List (S45) → List Int → List Int → Int → List (S45) → List Int → List Int → Int → Option (Bool × Bool)
 | 0, _, _, _, _, _, _, _, _, _, _, _, _ => none
 | k + 1, x6, x7, x36, x37, x203000, x203001, x203002, x203003, x204000, x204001, x204002, x204003 => if x37 < x36 then (if 0 ≤ x37 then (if x37 < (x203001.length : Int) then ((spec_l14Number.f k x6 (rd x203001 x37)).bind fun t213 => (if x37 < (x204001.length : Int) then ((spec_l14Number.f k x7 (rd x204001 x37)).bind fun t215 => (if t213 = t215 then (spec_SameShape.l0 k x6 x7 x36 (wrap64 (x37 + 1)) x203000 x203001 x203002 x203003 x204000 x204001 x204002 x204003) else (some (false, true)))) else (none))) else (none)) else (none)) else (spec_SameShape.l1 k x6 x7 (x6.length : Int) 0 x203000 x203001 x203002 x203003 x204000 x204001 x204002 x204003)
def spec_SameShape.l1 : Nat → List Int → List Int → Int → Int → List (S45) → List Int → List Int → Int → List (S45) → List Int → List Int → Int → Option (Bool × Bool)
 | 0, _, _, _, _, _, _, _, _, _, _, _, _ => none
 | k + 1, x6, x7, x57, x58, x203000, x203001, x203002, x203003, x204000, x204001, x204002, x204003 => if x58 < x57 then (if 0 ≤ x58 then (if x58 < (x6.length : Int) then ((spec_l14At.f k x203000 x203001 x203002 x203003 (rd x6 x58)).bind fun t217 => (if 0 ≤ t217 then (if t217 < (x203000.length : Int) then (if x58 < (x7.length : Int) then ((spec_l14At.f k x204000 x204001 x204002 x204003 (rd x7 x58)).bind fun t221 => (if 0 ≤ t221 then (if t221 < (x204000.length : Int) then (spec_SameShape.l2 k x6 x7 x57 x58 (((rd_T45 x203000 t217).f2).length : Int) 0 x203000 x203001 x203002 x203003 x204000 x204001 x204002 x204003 ((rd_T45 x203000 t217).f0) ((rd_T45 x203000 t217).f1) ((rd_T45 x203000 t217).f2) ((rd_T45 x204000 t221).f0) ((rd_T45 x204000 t221).f1) ((rd_T45 x204000 t221).f2)) else (none)) else (none))) else (none)) else (none)) else (none))) else (none)) else (none)) else (some (true, true))
def spec_SameShape.l2 : Nat → List Int → List Int → Int → Int → Int → Int → List (S45) → List Int → List Int → Int → List (S45) → List Int → List Int → Int → Int → Bool → List Int → Int → Bool → List Int → Option (Bool × Bool)
 | 0, _, _, _, _, _, _, _, _, _, _, _, _, _, _, _, _, _, _, _, _ => none
 | k + 1, x6, x7, x57, x58, x83, x84, x203000, x203001, x203002, x203003, x204000, x204001, x204002, x204003, x220000, x220001, x220002, x224000, x224001, x224002 => if x84 < x83 then (if 0 ≤ x84 then (if x84 < (x220002.length : Int) then ((spec_l14Number.f k x6 (rd x220002 x84)).bind fun t225 => (if x84 < (x224002.length : Int) then ((spec_l14Number.f k x7 (rd x224002 x84)).bind fun t227 => (if t225 = t227 then (spec_SameShape.l2 k x6 x7 x57 x58 x83 (wrap64 (x84 + 1)) x203000 x203001 x203002 x203003 x204000 x204001 x204002 x204003 x220000 x220001 x220002 x224000 x224001 x224002) else (some (false, true)))) else (none))) else (none)) else (none)) else (spec_SameShape.l1 k x6 x7 x57 (wrap64 (x58 + 1)) x203000 x203001 x203002 x203003 x204000 x204001 x204002 x204003)
end
def spec_SameShape.f (k : Nat) (l0_0 : List (S45)) (l0_1 : List Int) (l0_2 : List Int) (a0_3 : Int) (l1_0 : List (S45)) (l1_1 : List Int) (l1_2 : List Int) (a1_3 : Int) : Option (Bool × Bool) := (spec_GoodHeap.f k l0_0 l0_1 l0_2 a0_3).bind fun t204 => (if t204 = true then ((spec_GoodHeap.f k l1_0 l1_1 l1_2 a1_3).bind fun t205 => (spec_SameShape.j0 k (!t205) l0_0 l0_1 l0_2 a0_3 l1_0 l1_1 l1_2 a1_3)) else (spec_SameShape.j0 k true l0_0 l0_1 l0_2 a0_3 l1_0 l1_1 l1_2 a1_3))
theorem spec_SameShape.mono_l : ∀ k, (∀ y0 y1 y2 y3 y4 y5 y6 y7 y8, LeO (spec_SameShape.j0 k y0 y1 y2 y3 y4 y5 y6 y7 y8) (spec_SameShape.j0 (k + 1) y0 y1 y2 y3 y4 y5 y6 y7 y8)) ∧ (∀ y0 y1 y2 y3 y4 y5 y6 y7 y8 y9 y10 y11, LeO (spec_SameShape.l0 k y0 y1 y2 y3 y4 y5 y6 y7 y8 y9 y10 y11) (spec_SameShape.l0 (k + 1) y0 y1 y2 y3 y4 y5 y6 y7 y8 y9 y10 y11)) ∧ (∀ y0 y1 y2 y3 y4 y5 y6 y7 y8 y9 y10 y11, LeO (spec_SameShape.l1 k y0 y1 y2 y3 y4 y5 y6 y7 y8 y9 y10 y11) (spec_SameShape.l1 (k + 1) y0 y1 y2 y3 y4 y5 y6 y7 y8 y9 y10 y11)) ∧ (∀ y0 y1 y2 y3 y4 y5 y6 y7 y8 y9 y10 y11 y12 y13 y14 y15 y16 y17 y18 y19, LeO (spec_SameShape.l2 k y0 y1 y2 y3 y4 y5 y6 y7 y8 y9 y10 y11 y12 y13 y14 y15 y16 y17 y18 y19) (spec_SameShape.l2 (k + 1) y0 y1 y2 y3 y4 y5 y6 y7 y8 y9 y10 y11 y12 y13 y14 y15 y16 y17 y18 y19))
 | 0 => ⟨fun _ _ _ _ _ _ _ _ _ r h => by simp [spec_SameShape.j0] at h, fun _ _ _ _ _ _ _ _ _ _ _ _ r h => by simp [spec_SameShape.l0] at h, fun _ _ _ _ _ _ _ _ _ _ _ _ r h => by simp [spec_SameShape.l1] at h, fun _ _ _ _ _ _ _ _ _ _ _ _ _ _ _ _ _ _ _ _ r h => by simp [spec_SameShape.l2] at h⟩
 | k + 1 => by
  obtain ⟨ih0, ih1, ih2, ih3⟩ := spec_SameShape.mono_l k
  refine ⟨?_, ?_, ?_, ?_⟩
  ·intro y0 y1 y2 y3 y4 y5 y6 y7 y8
   unfold spec_SameShape.j0
   repeat' first
   | with_reducible apply ih0
   | with_reducible apply ih1
   | with_reducible apply ih2
   | with_reducible apply ih3
   | with_reducible apply spec_GoodHeap.mono
   | with_reducible apply spec_l14At.mono
   | with_reducible apply spec_l14Number.mono
   | with_reducible apply spec_l14Reach.mono
   | (with_reducible exact LeO.refl _)
   | (with_reducible exact LeO.none _)
   | (with_reducible refine LeO.ite ?_ ?_)
   | (with_reducible refine LeO.bind ?_ (fun _ => ?_))
   | apply ih0
   | apply ih1
   | apply ih2
   | apply ih3
   | apply spec_GoodHeap.mono
   | apply spec_l14At.mono
   | apply spec_l14Number.mono
   | apply spec_l14Reach.mono
   | exact LeO.none _
   | refine LeO.ite ?_ ?_
   | refine LeO.bind ?_ (fun _ => ?_)
  ·intro y0 y1 y2 y3 y4 y5 y6 y7 y8 y9 y10 y11
   unfold spec_SameShape.l0
   repeat' first
   | with_reducible apply ih0
   | with_reducible apply ih1
   | with_reducible apply ih2
   | with_reducible apply ih3
   | with_reducible apply spec_GoodHeap.mono
   | with_reducible apply spec_l14At.mono
   | with_reducible apply spec_l14Number.mono
   | with_reducible apply spec_l14Reach.mono
   | (with_reducible exact LeO.refl _)
   | (with_reducible exact LeO.none _)
   | (with_reducible refine LeO.ite ?_ ?_)
   | (with_reducible refine LeO.bind ?_ (fun _ => ?_))
   | apply ih0
   | apply ih1
   | apply ih2
   | apply ih3
   | apply spec_GoodHeap.mono
   | apply spec_l14At.mono
   | apply spec_l14Number.mono
   | apply spec_l14Reach.mono
   | exact LeO.none _
   | refine LeO.ite ?_ ?_
   | refine LeO.bind ?_ (fun _ => ?_)
  ·intro y0 y1 y2 y3 y4 y5 y6 y7 y8 y9 y10 y11
   unfold spec_SameShape.l1
   repeat' first
   | with_reducible apply ih0
   | with_reducible apply ih1
   | with_reducible apply ih2
   | with_reducible apply ih3
   | with_reducible apply spec_GoodHeap.mono
   | with_reducible apply spec_l14At.mono
   | with_reducible apply spec_l14Number.mono
   | with_reducible apply spec_l14Reach.mono
   | (with_reducible exact LeO.refl _)
   | (with_reducible exact LeO.none _)
   | (with_reducible refine LeO.ite ?_ ?_)
   | (with_reducible refine LeO.bind ?_ (fun _ => ?_))
   | apply ih0
   | apply ih1
   | apply ih2
   | apply ih3
   | apply spec_GoodHeap.mono
   | apply spec_l14At.mono
   | apply spec_l14Number.mono
   | apply spec_l14Reach.mono
   | exact LeO.none _
   | refine LeO.ite ?_ ?_
   | refine LeO.bind ?_ (fun _ => ?_)
  ·intro y0 y1 y2 y3 y4 y5 y6 y7 y8 y9 y10 y11 y12 y13 y14 y15 y16 y17 y18 y19
   unfold spec_SameShape.l2
   repeat' first
   | with_reducible apply ih0
   | with_reducible apply ih1
   | with_reducible apply ih2
   | with_reducible apply ih3
   | with_reducible apply spec_GoodHeap.mono
   | with_reducible apply spec_l14At.mono
   | with_reducible apply spec_l14Number.mono
   | with_reducible apply spec_l14Reach.mono
   | (with_reducible exact LeO.refl _)
   | (with_reducible exact LeO.none _)
   | (with_reducible refine LeO.ite ?_ ?_)
   | (with_reducible refine LeO.bind ?_ (fun _ => ?_))
   | apply ih0
   | apply ih1
   | apply ih2
   | apply ih3
   | apply spec_GoodHeap.mono
   | apply spec_l14At.mono
   | apply spec_l14Number.mono
   | apply spec_l14Reach.mono
   | exact LeO.none _
   | refine LeO.ite ?_ ?_
   | refine LeO.bind ?_ (fun _ => ?_)
theorem spec_SameShape.mono : ∀ a0 a1 a2 a3 a4 a5 a6 a7 k, LeO (spec_SameShape.f k a0 a1 a2 a3 a4 a5 a6 a7) (spec_SameShape.f (k + 1) a0 a1 a2 a3 a4 a5 a6 a7) := by
 intro a0 a1 a2 a3 a4 a5 a6 a7 k
 obtain ⟨ih0, ih1, ih2, ih3⟩ := spec_SameShape.mono_l k
 unfold spec_SameShape.f
 repeat' first
   | with_reducible apply ih0
   | with_reducible apply ih1
   | with_reducible apply ih2
   | with_reducible apply ih3
   | with_reducible apply spec_GoodHeap.mono
   | with_reducible apply spec_l14At.mono
   | with_reducible apply spec_l14Number.mono
   | with_reducible apply spec_l14Reach.mono
   | (with_reducible exact LeO.refl _)
   | (with_reducible exact LeO.none _)
   | (with_reducible refine LeO.ite ?_ ?_)
   | (with_reducible refine LeO.bind ?_ (fun _ => ?_))
   | apply ih0
   | apply ih1
   | apply ih2
   | apply ih3
   | apply spec_GoodHeap.mono
   | apply spec_l14At.mono
   | apply spec_l14Number.mono
   | apply spec_l14Reach.mono
   | exact LeO.none _
   | refine LeO.ite ?_ ?_
   | refine LeO.bind ?_ (fun _ => ?_)
def spec_SameShape.T10 : Bool × List (List Nat × List Nat) := (true, [([], []), ([], []), ([1], [1]), ([], []), ([2, 3], [2, 3]), ([4], [4]), ([0, 5], [0, 5]), ([], []), ([], []), ([8], [8]), ([], []), ([9, 10], [9, 10]), ([11], [11]), ([7, 12, 6], [7, 12]), ([6, 13], [6, 13])])
def spec_SameShape.B10 : List Nat := [0, 0, 2, 0, 14, 30, 63, 0, 0, 256, 0, 1792, 3840, 8191, 16383]
theorem spec_SameShape.tab10 : rtab .any (opsOf Try.f23 10) = spec_SameShape.T10 := by kernel_rfl
theorem spec_SameShape.bits10 : waitsOk spec_SameShape.T10.2 spec_SameShape.B10 = true := by kernel_rfl
def spec_SameShape.T16 : Bool × List (List Nat × List Nat) := (true, [([], []), ([0], [0]), ([], []), ([], []), ([], []), ([3, 4], [3, 4]), ([5], [5]), ([2, 6], [2, 6]), ([1, 7], [1, 7]), ([8], [8]), ([], []), ([10, 9, 7, 0, 1, 2, 3, 4, 5, 6, 7, 8, 9, 10], [9, 10])])
def spec_SameShape.B16 : List Nat := [0, 1, 0, 0, 0, 24, 56, 124, 255, 511, 0, 2047]
theorem spec_SameShape.tab16 : rtab .any (opsOf Try.f23 16) = spec_SameShape.T16 := by kernel_rfl
theorem spec_SameShape.bits16 : waitsOk spec_SameShape.T16.2 spec_SameShape.B16 = true := by kernel_rfl
def spec_SameShape.T17 : Bool × List (List Nat × List Nat) := (true, [([], []), ([0], [0]), ([], []), ([], []), ([], []), ([3, 4], [3, 4]), ([5], [5]), ([2, 6], [2, 6]), ([1, 7], [1, 7]), ([8], [8]), ([], []), ([10, 9, 7, 0, 1, 2, 3, 4, 5, 6, 7, 8, 9, 10], [9, 10])])
def spec_SameShape.B17 : List Nat := [0, 1, 0, 0, 0, 24, 56, 124, 255, 511, 0, 2047]
theorem spec_SameShape.tab17 : rtab .any (opsOf Try.f23 17) = spec_SameShape.T17 := by kernel_rfl
theorem spec_SameShape.bits17 : waitsOk spec_SameShape.T17.2 spec_SameShape.B17 = true := by kernel_rfl
def spec_SameShape.T21 : Bool × List (List Nat × List Nat) := (true, [([], []), ([], []), ([1], [1]), ([], []), ([2, 3], [2, 3]), ([4], [4]), ([0, 5], [0, 5]), ([], []), ([], []), ([8], [8]), ([], []), ([9, 10], [9, 10]), ([11], [11]), ([7, 12, 6], [7, 12]), ([6, 13], [6, 13])])
def spec_SameShape.B21 : List Nat := [0, 0, 2, 0, 14, 30, 63, 0, 0, 256, 0, 1792, 3840, 8191, 16383]
theorem spec_SameShape.tab21 : rtab .any (opsOf Try.f23 21) = spec_SameShape.T21 := by kernel_rfl
theorem spec_SameShape.bits21 : waitsOk spec_SameShape.T21.2 spec_SameShape.B21 = true := by kernel_rfl
set_option maxHeartbeats 8000000 in
set_option maxRecDepth 100000 in
theorem spec_SameShape.calls (k : Nat) (A0_0 : Option Addr) (c0_0 : Nat) (l0_0 : List (S45)) (A0_1 : Option Addr) (c0_1 : Nat) (l0_1 : List Int) (A0_2 : Option Addr) (c0_2 : Nat) (l0_2 : List Int) (a0_3 : Int) (A1_0 : Option Addr) (c1_0 : Nat) (l1_0 : List (S45)) (A1_1 : Option Addr) (c1_1 : Nat) (l1_1 : List Int) (A1_2 : Option Addr) (c1_2 : Nat) (l1_2 : List Int) (a1_3 : Int) (r1 : Bool) (r2 : Bool) (w : World) (hr0_0 : Kd.C k45 w A0_0 l0_0.length l0_0) (hc0_0 : l0_0.length ≤ c0_0) (hr0_1 : Kd.C (Kd.int .i64) w A0_1 l0_1.length l0_1) (hc0_1 : l0_1.length ≤ c0_1) (hr0_2 : Kd.C (Kd.int .i64) w A0_2 l0_2.length l0_2) (hc0_2 : l0_2.length ≤ c0_2) (hr1_0 : Kd.C k45 w A1_0 l1_0.length l1_0) (hc1_0 : l1_0.length ≤ c1_0) (hr1_1 : Kd.C (Kd.int .i64) w A1_1 l1_1.length l1_1) (hc1_1 : l1_1.length ≤ c1_1) (hr1_2 : Kd.C (Kd.int .i64) w A1_2 l1_2.length l1_2) (hc1_2 : l1_2.length ≤ c1_2) (h : spec_SameShape.f k l0_0 l0_1 l0_2 a0_3 l1_0 l1_1 l1_2 a1_3 = some (r1, r2)) :
  Calls Try.prog 23 #[.agg #[.slice A0_0 l0_0.length c0_0, .slice A0_1 l0_1.length c0_1, .slice A0_2 l0_2.length c0_2, .int .i64 a0_3], .agg #[.slice A1_0 l1_0.length c1_0, .slice A1_1 l1_1.length c1_1, .slice A1_2 l1_2.length c1_2, .int .i64 a1_3]] w fun e w' => e = .returned (.tuple #[.bool r1, .bool r2]) ∧ Below w.heap.size w w' := by
 have hu25 := Try.underlying25
 have hu45 := Try.underlying45
 have HR0_0 := Aside0.mk hr0_0
 have HC0_0 := Aside0.mk hc0_0
 clear hr0_0 hc0_0
 have HR0_1 := Aside0.mk hr0_1
 have HC0_1 := Aside0.mk hc0_1
 clear hr0_1 hc0_1
 have HR0_2 := Aside0.mk hr0_2
 have HC0_2 := Aside0.mk hc0_2
 clear hr0_2 hc0_2
 have HR1_0 := Aside0.mk hr1_0
 have HC1_0 := Aside0.mk hc1_0
 clear hr1_0 hc1_0
 have HR1_1 := Aside0.mk hr1_1
 have HC1_1 := Aside0.mk hc1_1
 clear hr1_1 hc1_1
 have HR1_2 := Aside0.mk hr1_2
 have HC1_2 := Aside0.mk hc1_2
 clear hr1_2 hc1_2
 have HB := Aside0.mk (Below.refl w.heap.size w)
 have H : ((spec_GoodHeap.f k l0_0 l0_1 l0_2 a0_3).bind fun t204 => (if t204 = true then ((spec_GoodHeap.f k l1_0 l1_1 l1_2 a1_3).bind fun t205 => (spec_SameShape.j0 k (!t205) l0_0 l0_1 l0_2 a0_3 l1_0 l1_1 l1_2 a1_3)) else (spec_SameShape.j0 k true l0_0 l0_1 l0_2 a0_3 l1_0 l1_1 l1_2 a1_3))) = some (r1, r2) := h
 clear h
 have HC3 := Aside0.mk H
 clear H
 go_enter Try.func23, Try.ntmps23
 go_upto_region 1 with (first | ((with_reducible refine gate_dst (N := 2) rfl ?_); refine bxe 2 #[.slice A0_0 l0_0.length c0_0, .slice A0_1 l0_1.length c0_1, .slice A0_2 l0_2.length c0_2, .int .i64 a0_3] 25 ?_; intro gb202 hg w4 hbox hb; have n0_ := Aside0.mk (below_step lB hb); have n1_ := Aside0.mk (hbox); have n2_ := lG w hg; have n3_ := lG w hg; clear HB; have HB := n0_; have BK202 := n1_; have GW202 := n2_; have GE202 := n3_; clear n0_ n1_ n2_ n3_; clear hb hbox hg) | ((with_reducible refine gate_dst (N := 3) rfl ?_); refine bxe 3 #[.slice A1_0 l1_0.length c1_0, .slice A1_1 l1_1.length c1_1, .slice A1_2 l1_2.length c1_2, .int .i64 a1_3] 25 ?_; intro gb203 hg w5 hbox hb; have n0_ := Aside0.mk (blk_below (lK BK202.out) hb); have n1_ := Aside0.mk (below_step lB hb); have n2_ := Aside0.mk (hbox); have n3_ := lG w hg; have n4_ := lG w hg; have n5_ := Aside0.mk ((by rw [hg]; exact Nat.ne_of_lt (blk_lt (lK BK202.out)) : gb202 ≠ gb203)); have n6_ := Aside0.mk ((by rw [hg]; exact Nat.ne_of_gt (blk_lt (lK BK202.out)) : gb203 ≠ gb202)); clear BK202; clear HB; have BK202 := n0_; have HB := n1_; have BK203 := n2_; have GW203 := n3_; have GE203 := n4_; have NB202_203 := n5_; have NB203_202 := n6_; clear n0_ n1_ n2_ n3_ n4_ n5_ n6_; clear hb hbox hg))
 (try simp only [Act.put, List.setIfInBounds_toArray, List.set_cons_zero, List.set_cons_succ])
 go_cut [20] (fun v20 wc => ∃ (kq : Nat) (x20_2 : Bool), v20 = .bool x20_2 ∧ Aside0 (spec_SameShape.j0 kq x20_2 l0_0 l0_1 l0_2 a0_3 l1_0 l1_1 l1_2 a1_3 = some (r1, r2)) ∧ Aside0 (kq ≤ k) ∧ Aside0 (wc.heap[gb202]? = some (.cells #[(.slice A0_0 l0_0.length c0_0), (.slice A0_1 l0_1.length c0_1), (.slice A0_2 l0_2.length c0_2), .int .i64 a0_3] 25 (0, 0))) ∧ Aside0 (wc.heap[gb203]? = some (.cells #[(.slice A1_0 l1_0.length c1_0), (.slice A1_1 l1_1.length c1_1), (.slice A1_2 l1_2.length c1_2), .int .i64 a1_3] 25 (0, 0))) ∧ Aside0 (Below w.heap.size w wc))
 case first =>
  have H := HC3.out
  clear HC3
  replace H := lO H
  obtain ⟨t204, A6, H⟩ := H
  by_cases c7 : t204 = true
  ·subst c7
   rw [if_pos rfl] at H
   replace H := lO H
   obtain ⟨t205, A8, H⟩ := H
   have H' := Aside0.mk H
   clear H
   have hnb9 := NB202_203.out
   have hnc9 := NB203_202.out
   obtain ⟨hcz10_0, hfz10_0, hcz10_1, hfz10_1, hcz10_2, hfz10_2, hcz10_3, hfz10_3⟩ := bk4 BK202.out
   go_wp2_with (first | ((with_reducible refine gate_callee (f := 15) rfl ?_); refine gl_ (some 14) (Try.func15) #[.agg #[.slice A0_0 l0_0.length c0_0, .slice A0_1 l0_1.length c0_1, .slice A0_2 l0_2.length c0_2, .int .i64 a0_3]] ?_; (with_reducible refine (spec_GoodHeap.calls k _ _ l0_0 _ _ l0_1 _ _ l0_2 a0_3 true _ ?side1 ?side2 ?side3 ?side4 ?side5 ?side6 A6.out).mono ?_); (case side1 => exact lC (Kd.C_below HR0_0.out HB.out)); (case side2 => exact HC0_0.out); (case side3 => exact lC (Kd.C_below HR0_1.out HB.out)); (case side4 => exact HC0_1.out); (case side5 => exact lC (Kd.C_below HR0_2.out HB.out)); (case side6 => exact HC0_2.out); rintro e w11 ⟨rfl, hb⟩; refine ⟨_, rfl, ?_⟩; have n0_ := Aside0.mk (blk_below (lK BK202.out) hb); have n1_ := Aside0.mk (blk_below (lK BK203.out) hb); have n2_ := Aside0.mk (below_step lB hb); clear BK202; clear BK203; clear HB; have BK202 := n0_; have BK203 := n1_; have HB := n2_; clear n0_ n1_ n2_; (try clear hb); (try clear hb2); (try clear hk); (try clear hi); obtain ⟨hcz12_0, hfz12_0, hcz12_1, hfz12_1, hcz12_2, hfz12_2, hcz12_3, hfz12_3⟩ := bk4 BK203.out) | (go_at_call 15; (with_reducible refine (spec_GoodHeap.calls k _ _ l1_0 _ _ l1_1 _ _ l1_2 a1_3 t205 _ ?side1 ?side2 ?side3 ?side4 ?side5 ?side6 A8.out).mono ?_); (case side1 => exact lC (Kd.C_below HR1_0.out HB.out)); (case side2 => exact HC1_0.out); (case side3 => exact lC (Kd.C_below HR1_1.out HB.out)); (case side4 => exact HC1_1.out); (case side5 => exact lC (Kd.C_below HR1_2.out HB.out)); (case side6 => exact HC1_2.out); rintro e w13 ⟨rfl, hb⟩; have n0_ := Aside0.mk (blk_below (lK BK202.out) hb); have n1_ := Aside0.mk (blk_below (lK BK203.out) hb); have n2_ := Aside0.mk (below_step lB hb); clear BK202; clear BK203; clear HB; have BK202 := n0_; have BK203 := n1_; have HB := n2_; clear n0_ n1_ n2_; (try clear hb); (try clear hb2); (try clear hk); (try clear hi)))
   go_meet
   case rel => exact ⟨_, (!t205), lF, H', ⟨lN⟩, ⟨lK BK202.out⟩, ⟨lK BK203.out⟩, ⟨lB⟩⟩
  ·replace c7 := Bool.eq_false_iff.mpr c7
   subst c7
   rw [if_neg (show ¬ (false = true) by decide)] at H
   have H' := Aside0.mk H
   clear H
   have hnb14 := NB202_203.out
   have hnc14 := NB203_202.out
   obtain ⟨hcz15_0, hfz15_0, hcz15_1, hfz15_1, hcz15_2, hfz15_2, hcz15_3, hfz15_3⟩ := bk4 BK202.out
   go_wp2_with (first | ((with_reducible refine gate_callee (f := 15) rfl ?_); refine gl_ (some 14) (Try.func15) #[.agg #[.slice A0_0 l0_0.length c0_0, .slice A0_1 l0_1.length c0_1, .slice A0_2 l0_2.length c0_2, .int .i64 a0_3]] ?_; (with_reducible refine (spec_GoodHeap.calls k _ _ l0_0 _ _ l0_1 _ _ l0_2 a0_3 false _ ?side1 ?side2 ?side3 ?side4 ?side5 ?side6 A6.out).mono ?_); (case side1 => exact lC (Kd.C_below HR0_0.out HB.out)); (case side2 => exact HC0_0.out); (case side3 => exact lC (Kd.C_below HR0_1.out HB.out)); (case side4 => exact HC0_1.out); (case side5 => exact lC (Kd.C_below HR0_2.out HB.out)); (case side6 => exact HC0_2.out); rintro e w16 ⟨rfl, hb⟩; refine ⟨_, rfl, ?_⟩; have n0_ := Aside0.mk (blk_below (lK BK202.out) hb); have n1_ := Aside0.mk (blk_below (lK BK203.out) hb); have n2_ := Aside0.mk (below_step lB hb); clear BK202; clear BK203; clear HB; have BK202 := n0_; have BK203 := n1_; have HB := n2_; clear n0_ n1_ n2_; (try clear hb); (try clear hb2); (try clear hk); (try clear hi)))
   go_meet
   case rel => exact ⟨_, (true), lF, H', ⟨lN⟩, ⟨lK BK202.out⟩, ⟨lK BK203.out⟩, ⟨lB⟩⟩
 case rest =>
  clear HC3
  try clear c1
  try clear c2
  try clear p2
  try clear c7
  try clear c9
  try clear c14
  try clear c15
  try clear hcz10_0 hcz10_1 hcz10_2 hcz10_3
  try clear hcz12_0 hcz12_1 hcz12_2 hcz12_3
  try clear hcz15_0 hcz15_1 hcz15_2 hcz15_3
  try clear hfz10_0 hfz10_1 hfz10_2 hfz10_3
  try clear hfz12_0 hfz12_1 hfz12_2 hfz12_3
  try clear hfz15_0 hfz15_1 hfz15_2 hfz15_3
  obtain ⟨kq, x20_2, rfl, HA, HJ2, BK202, BK203, HB⟩ := hcut
  cases kq with
  | zero => exact absurd HA.out (by simp [spec_SameShape.j0])
  | succ kj2 =>
   have H := HA.out
   clear HA
   simp only [spec_SameShape.j0] at H
   by_cases c17 : x20_2 = true
   ·subst c17
    rw [if_pos rfl] at H
    simp only [Option.some.injEq, Prod.mk.injEq] at H
    obtain ⟨rfl, rfl⟩ := H
    go_wp2
    go_ret2
    exact ⟨lE, lB⟩
   ·replace c17 := Bool.eq_false_iff.mpr c17
    subst c17
    rw [if_neg (show ¬ (false = true) by decide)] at H
    replace H := lO H
    obtain ⟨t206, A18, H⟩ := H
    replace H := lO H
    obtain ⟨t209, A19, H⟩ := H
    by_cases c20 : (t206.length : Int) = (t209.length : Int)
    ·rw [if_pos c20] at H
     have c20b0 : ((t206.length : Int) == (t209.length : Int)) = true := beq_iff_eq.mpr c20
     have c20b1 : ((t206.length : Int) != (t209.length : Int)) = false := bne_eq_false_iff_eq.mpr c20
     have c20b2 : (t206.length == t209.length) = true := by first | simpa using c20 | (simp at c20 ⊢; omega)
     clear c20
     have H' := Aside0.mk H
     clear H
     have hnb21 := NB202_203.out
     have hnc21 := NB203_202.out
     obtain ⟨hcz22_0, hfz22_0, hcz22_1, hfz22_1, hcz22_2, hfz22_2, hcz22_3, hfz22_3⟩ := bk4 BK202.out
     go_wp2_with (first | ((with_reducible refine gate_callee (f := 43) rfl ?_); refine gl_ (some 24) (Try.func43) #[.agg #[.slice A0_0 l0_0.length c0_0, .slice A0_1 l0_1.length c0_1, .slice A0_2 l0_2.length c0_2, .int .i64 a0_3], .slice A0_1 l0_1.length c0_1, .bool false] ?_; (with_reducible refine (spec_l14Reach.calls kj2 _ _ l0_0 _ _ l0_1 _ _ l0_2 a0_3 _ _ l0_1 false t206 _ ?side1 ?side2 ?side3 ?side4 ?side5 ?side6 ?side7 ?side8 A18.out).mono ?_); (case side1 => exact lC (Kd.C_below HR0_0.out HB.out)); (case side2 => exact HC0_0.out); (case side3 => exact lC (Kd.C_below HR0_1.out HB.out)); (case side4 => exact HC0_1.out); (case side5 => exact lC (Kd.C_below HR0_2.out HB.out)); (case side6 => exact HC0_2.out); (case side7 => exact lC (Kd.C_below HR0_1.out HB.out)); (case side8 => exact HC0_1.out); rintro e w23 ⟨v207, rfl, ho0, hb⟩; refine ⟨_, rfl, ?_⟩; have n0_ := Aside0.mk (Kd.R_lower ho0 (below_size lB)); have n1_ := Aside0.mk (blk_below (lK BK202.out) hb); have n2_ := Aside0.mk (blk_below (lK BK203.out) hb); have n3_ := Aside0.mk (below_step lB hb); clear BK202; clear BK203; clear HB; have HO208 := n0_; have BK202 := n1_; have BK203 := n2_; have HB := n3_; clear n0_ n1_ n2_ n3_; (try clear hb); (try clear hb2); (try clear hk); (try clear hi); (try clear ho0); obtain ⟨hcz24_0, hfz24_0, hcz24_1, hfz24_1, hcz24_2, hfz24_2, hcz24_3, hfz24_3⟩ := bk4 BK203.out) | ((with_reducible refine gate_callee (f := 43) rfl ?_); refine gl_ (some 28) (Try.func43) #[.agg #[.slice A1_0 l1_0.length c1_0, .slice A1_1 l1_1.length c1_1, .slice A1_2 l1_2.length c1_2, .int .i64 a1_3], .slice A1_1 l1_1.length c1_1, .bool false] ?_; (with_reducible refine (spec_l14Reach.calls kj2 _ _ l1_0 _ _ l1_1 _ _ l1_2 a1_3 _ _ l1_1 false t209 _ ?side1 ?side2 ?side3 ?side4 ?side5 ?side6 ?side7 ?side8 A19.out).mono ?_); (case side1 => exact lC (Kd.C_below HR1_0.out HB.out)); (case side2 => exact HC1_0.out); (case side3 => exact lC (Kd.C_below HR1_1.out HB.out)); (case side4 => exact HC1_1.out); (case side5 => exact lC (Kd.C_below HR1_2.out HB.out)); (case side6 => exact HC1_2.out); (case side7 => exact lC (Kd.C_below HR1_1.out HB.out)); (case side8 => exact HC1_1.out); rintro e w25 ⟨v210, rfl, ho0, hb⟩; refine ⟨_, rfl, ?_⟩; have n0_ := Aside0.mk (Kd.R_elder' (lR HO208.out) (Kd.R_base ho0) hb); have n1_ := Aside0.mk (Kd.R_lower (Kd.R_new' ho0 (Kd.R_lt (lR HO208.out))) (below_size lB)); have n2_ := Aside0.mk (blk_below (lK BK202.out) hb); have n3_ := Aside0.mk (blk_below (lK BK203.out) hb); have n4_ := Aside0.mk (below_step lB hb); clear HO208; clear BK202; clear BK203; clear HB; have HO208 := n0_; have HO211 := n1_; have BK202 := n2_; have BK203 := n3_; have HB := n4_; clear n0_ n1_ n2_ n3_ n4_; (try clear hb); (try clear hb2); (try clear hk); (try clear hi); (try clear ho0); obtain ⟨Ao26, co26, eo26⟩ := Kd.R_slice HO208.out; subst eo26; obtain ⟨Ao27, co27, eo27⟩ := Kd.R_slice HO211.out; subst eo27; obtain ⟨hcz28_0, hfz28_0, hcz28_1, hfz28_1, hcz28_2, hfz28_2, hcz28_3, hfz28_3⟩ := bk4 BK202.out))
     go_loopg [37] kj2 (fun kq v37 w' => ∃ (x37_2 : Int), v37 = .int .i64 x37_2 ∧ Aside0 (spec_SameShape.l0 kq t206 t209 (l0_1.length : Int) x37_2 l0_0 l0_1 l0_2 a0_3 l1_0 l1_1 l1_2 a1_3 = some (r1, r2)) ∧ Aside0 (kq ≤ kj2) ∧ Aside0 (Kd.R (Kd.int .i64) 3 w' w.heap.size (fun k_ => some k_ ≠ ((.slice Ao27 t209.length co27) : Value).ownBlock) (.slice Ao26 t206.length co26) t206) ∧ Aside0 (Kd.R (Kd.int .i64) 3 w' w.heap.size (fun k_ => some k_ ≠ ((.slice Ao26 t206.length co26) : Value).ownBlock) (.slice Ao27 t209.length co27) t209) ∧ Aside0 (w'.heap[gb202]? = some (.cells #[(.slice A0_0 l0_0.length c0_0), (.slice A0_1 l0_1.length c0_1), (.slice A0_2 l0_2.length c0_2), .int .i64 a0_3] 25 (0, 0))) ∧ Aside0 (w'.heap[gb203]? = some (.cells #[(.slice A1_0 l1_0.length c1_0), (.slice A1_1 l1_1.length c1_1), (.slice A1_2 l1_2.length c1_2), .int .i64 a1_3] 25 (0, 0))) ∧ Aside0 (Below w.heap.size w w'))
     case atStart => exact ⟨(0), lF, H', ⟨Nat.le_refl _⟩, ⟨by (with_reducible repeat (first | apply Kd.R_alloc | apply Kd.R_drewN | apply Kd.R_drew)); exact Kd.R_mono HO208.out (fun _ hk => hk.2)⟩, ⟨by (with_reducible repeat (first | apply Kd.R_alloc | apply Kd.R_drewN | apply Kd.R_drew)); exact Kd.R_mono HO211.out (fun _ hk => hk.2)⟩, ⟨lK BK202.out⟩, ⟨lK BK203.out⟩, ⟨lB⟩⟩
     case round =>
      clear H'
      try clear c1
      try clear c2
      try clear p2
      try clear c4
      try clear c7
      try clear c9
      try clear c14
      try clear c15
      try clear c17
      try clear c20
      try clear c20b0
      try clear c20b1
      try clear c20b2
      try clear c21
      try clear c23
      try clear hcz10_0 hcz10_1 hcz10_2 hcz10_3
      try clear hcz12_0 hcz12_1 hcz12_2 hcz12_3
      try clear hcz15_0 hcz15_1 hcz15_2 hcz15_3
      try clear hcz22_0 hcz22_1 hcz22_2 hcz22_3
      try clear hcz24_0 hcz24_1 hcz24_2 hcz24_3
      try clear hcz28_0 hcz28_1 hcz28_2 hcz28_3
      try clear hfz10_0 hfz10_1 hfz10_2 hfz10_3
      try clear hfz12_0 hfz12_1 hfz12_2 hfz12_3
      try clear hfz15_0 hfz15_1 hfz15_2 hfz15_3
      try clear hfz22_0 hfz22_1 hfz22_2 hfz22_3
      try clear hfz24_0 hfz24_1 hfz24_2 hfz24_3
      try clear hfz28_0 hfz28_1 hfz28_2 hfz28_3
      try clear p2
      obtain ⟨x37_2, rfl, HA, HK2, HO_6, HO_7, BK202, BK203, HB⟩ := hrel
      cases gk with
      | zero => exact absurd HA.out (by simp [spec_SameShape.l0])
      | succ k2 =>
       have H := HA.out
       clear HA
       simp only [spec_SameShape.l0] at H
       by_cases c29 : x37_2 < (l0_1.length : Int)
       ·rw [if_pos c29] at H
        have c29b0 : decide (x37_2 < (l0_1.length : Int)) = true := decide_eq_true c29
        clear c29
        by_cases c30 : 0 ≤ x37_2
        ·rw [if_pos c30] at H
         have c30b0 : decide (0 ≤ x37_2) = true := decide_eq_true c30
         clear c30
         by_cases c31 : x37_2 < (l0_1.length : Int)
         ·rw [if_pos c31] at H
          have c31b0 : decide (x37_2 < (l0_1.length : Int)) = true := decide_eq_true c31
          clear c31
          replace H := lO H
          obtain ⟨t213, A32, H⟩ := H
          by_cases c33 : x37_2 < (l1_1.length : Int)
          ·rw [if_pos c33] at H
           have c33b0 : decide (x37_2 < (l1_1.length : Int)) = true := decide_eq_true c33
           clear c33
           replace H := lO H
           obtain ⟨t215, A34, H⟩ := H
           by_cases c35 : t213 = t215
           ·rw [if_pos c35] at H
            have c35b0 : (t213 == t215) = true := beq_iff_eq.mpr c35
            have c35b1 : (t213 != t215) = false := bne_eq_false_iff_eq.mpr c35
            clear c35
            have H' := Aside0.mk H
            clear H
            try go_wp2
            have n0_ := Aside0.mk (Kd.R_drew HO_6.out)
            have n1_ := Aside0.mk (Kd.R_drew HO_7.out)
            have n2_ := Aside0.mk (blk_drew BK202.out)
            have n3_ := Aside0.mk (blk_drew BK203.out)
            have n4_ := Aside0.mk (below_drew1 HB.out)
            clear HO_6
            clear HO_7
            clear BK202
            clear BK203
            clear HB
            have HO_6 := n0_
            have HO_7 := n1_
            have BK202 := n2_
            have BK203 := n3_
            have HB := n4_
            clear n0_ n1_ n2_ n3_ n4_
            have p212 : 0 ≤ (x37_2 : Int) := lD
            have q212 : x37_2 < (l0_1.length : Int) := lD
            obtain ⟨ad212, e212, hx212_0⟩ := Kd.at_int HR0_1.out x37_2 p212 q212
            have hw212_0 := hx212_0
            cases e212
            replace hx212_0 := pw_cell_below HB.out hx212_0
            replace p212 := eq_true p212
            replace q212 := eq_true q212
            have p214 : 0 ≤ (x37_2 : Int) := lD
            have q214 : x37_2 < (l1_1.length : Int) := lD
            obtain ⟨ad214, e214, hx214_0⟩ := Kd.at_int HR1_1.out x37_2 p214 q214
            have hw214_0 := hx214_0
            cases e214
            replace hx214_0 := pw_cell_below HB.out hx214_0
            replace p214 := eq_true p214
            replace q214 := eq_true q214
            refine start_ (n := 15) (S := fun w' => w'.cell? ⟨gb202, 0, none⟩ = some (.slice A0_0 l0_0.length c0_0) ∧ w'.cell? ⟨gb202, 1, none⟩ = some (.slice (some ad212) l0_1.length c0_1) ∧ w'.cell? ⟨gb202, 2, none⟩ = some (.slice A0_2 l0_2.length c0_2) ∧ w'.cell? ⟨gb202, 3, none⟩ = some (.int .i64 a0_3) ∧ w'.cell? ⟨gb203, 0, none⟩ = some (.slice A1_0 l1_0.length c1_0) ∧ w'.cell? ⟨gb203, 1, none⟩ = some (.slice (some ad214) l1_1.length c1_1) ∧ w'.cell? ⟨gb203, 2, none⟩ = some (.slice A1_2 l1_2.length c1_2) ∧ w'.cell? ⟨gb203, 3, none⟩ = some (.int .i64 a1_3) ∧ w'.cell? (ad212.add (x37_2).toNat) = some (.int .i64 (rd l0_1 x37_2)) ∧ w'.cell? (ad214.add (x37_2).toNat) = some (.int .i64 (rd l1_1 x37_2))) (ds := []) (bs 15 0) kR rfl kR ⟨bZ BK202.out 0, bZ BK202.out 1, bZ BK202.out 2, bZ BK202.out 3, bZ BK203.out 0, bZ BK203.out 1, bZ BK203.out 2, bZ BK203.out 3, ((HB.out.cell (World.block_lt_of_cell? w _ hw212_0)).trans hw212_0), ((HB.out.cell (World.block_lt_of_cell? w _ hw214_0)).trans hw214_0)⟩ (fun hHeld => ?_); refine with_tabW spec_SameShape.tab10 spec_SameShape.bits10 (fun HT_ HW_ => ?_)
            generalize wr.drew = w36 at HO_6 HO_7 BK202 BK203 HB hx212_0 hx214_0 hHeld ⊢
            refine pur_ 0 40 (bs 15 1) (any_of HT_.out kR) ?_
            refine pur_ 1 41 (bs 15 3) (any_of HT_.out kR) ?_
            refine pur_ 3 43 (bs 15 11) (any_of HT_.out kR) ?_
            refine pur_ 7 47 (bs 15 139) (any_of HT_.out kR) ?_
            refine pur_ 8 48 (bs 15 395) (any_of HT_.out kR) ?_
            refine pur_ 10 50 (bs 15 1419) (any_of HT_.out kR) ?_
            refine tak_ 2 42 (bs 15 1423) (take_ofW HT_.out HW_.out kR) hHeld ?_
            refine pur_ 4 44 (bs 15 1439) (any_of HT_.out kR) ?_
            refine tak_ 5 45 (bs 15 1471) (take_ofW HT_.out HW_.out kR) hHeld ?_
            refine tak_ 9 49 (bs 15 1983) (take_ofW HT_.out HW_.out kR) hHeld ?_
            refine pur_ 11 51 (bs 15 4031) (any_of HT_.out kR) ?_
            refine tak_ 12 52 (bs 15 8127) (take_ofW HT_.out HW_.out kR) hHeld ?_
            refine one_ (i := 6) (N := some 46) (bs 15 8191) rfl rfl (one_of HT_.out (by kernel_rfl)) (by decide) (fun K hK => ?_)
            refine goes_ Try.func44 (by kernel_rfl) rfl #[.slice Ao26 t206.length co26, .int .i64 (rd l0_1 x37_2)] (by rfl) rfl rfl (by (try simp only [List.map_toArray, List.map_cons, List.map_nil]); first | done | rfl | (simp only [List.length_drop, List.length_take]; rfl)) ?_
            with_reducible refine (spec_l14Number.calls k2 _ _ t206 (rd l0_1 x37_2) t213 _ ?side1 ?side2 A32.out).mono ?_
            (case side1 => repeat (first | exact (Kd.R_reads' HO_6.out).2.2 | (with_reducible refine Kd.C_alloc ?_ _) | (with_reducible refine Kd.C_drewN ?_ _) | (with_reducible refine Kd.C_drew ?_)))
            (case side2 => exact (Kd.R_reads' HO_6.out).2.1)
            rintro e w' ⟨rfl, ⟨nd, rfl⟩⟩
            refine ⟨_, rfl, ?_⟩
            refine hK.out _ _ ⟨bZ BK202.out 0, bZ BK202.out 1, bZ BK202.out 2, bZ BK202.out 3, bZ BK203.out 0, bZ BK203.out 1, bZ BK203.out 2, bZ BK203.out 3, ((HB.out.cell (World.block_lt_of_cell? w _ hw212_0)).trans hw212_0), ((HB.out.cell (World.block_lt_of_cell? w _ hw214_0)).trans hw214_0)⟩ (fun hHeld => ?_)
            clear hK K
            refine norm_ (a' := ?_) ?_ ?_
            rotate_left
            ·show Act.put _ (some 46) _ = _
             simp only [Act.put, List.setIfInBounds_toArray, List.set_cons_zero, List.set_cons_succ, i64_w, i32_w]
             rfl
            refine one_ (i := 13) (N := some 53) (bs 15 16383) rfl rfl (one_of HT_.out (by kernel_rfl)) (by decide) (fun K hK => ?_)
            refine goes_ Try.func44 (by kernel_rfl) rfl #[.slice Ao27 t209.length co27, .int .i64 (rd l1_1 x37_2)] (by rfl) rfl rfl (by (try simp only [List.map_toArray, List.map_cons, List.map_nil]); first | done | rfl | (simp only [List.length_drop, List.length_take]; rfl)) ?_
            with_reducible refine (spec_l14Number.calls k2 _ _ t209 (rd l1_1 x37_2) t215 _ ?side1 ?side2 A34.out).mono ?_
            (case side1 => repeat (first | exact (Kd.R_reads' HO_7.out).2.2 | (with_reducible refine Kd.C_alloc ?_ _) | (with_reducible refine Kd.C_drewN ?_ _) | (with_reducible refine Kd.C_drew ?_)))
            (case side2 => exact (Kd.R_reads' HO_7.out).2.1)
            rintro e w' ⟨rfl, ⟨nd, rfl⟩⟩
            refine ⟨_, rfl, ?_⟩
            refine hK.out _ _ ⟨bZ BK202.out 0, bZ BK202.out 1, bZ BK202.out 2, bZ BK202.out 3, bZ BK203.out 0, bZ BK203.out 1, bZ BK203.out 2, bZ BK203.out 3, ((HB.out.cell (World.block_lt_of_cell? w _ hw212_0)).trans hw212_0), ((HB.out.cell (World.block_lt_of_cell? w _ hw214_0)).trans hw214_0)⟩ (fun hHeld => ?_)
            clear hK K
            refine norm_ (a' := ?_) ?_ ?_
            rotate_left
            ·show Act.put _ (some 53) _ = _
             simp only [Act.put, List.setIfInBounds_toArray, List.set_cons_zero, List.set_cons_succ, i64_w, i32_w]
             rfl
            refine pur_ 14 54 (bs 15 32767) (any_of HT_.out kR) ?_
            refine done_ (done_of HT_.out (by kernel_rfl)) ?_
            try go_wp2
            go_roundg k2
            case measure => have := HJ2.out; have := HK2.out; omega
            case rel => exact ⟨(wrap64 (x37_2 + 1)), lF, H', ⟨by have := HJ2.out; have := HK2.out; omega⟩, ⟨lR HO_6.out⟩, ⟨lR HO_7.out⟩, ⟨lK BK202.out⟩, ⟨lK BK203.out⟩, ⟨lB⟩⟩
           ·rw [if_neg c35] at H
            have c35b0 : (t213 == t215) = false := beq_eq_false_iff_ne.mpr c35
            have c35b1 : (t213 != t215) = true := bne_iff_ne.mpr c35
            simp only [Option.some.injEq, Prod.mk.injEq] at H
            obtain ⟨rfl, rfl⟩ := H
            try go_wp2
            have n0_ := Aside0.mk (Kd.R_drew HO_6.out)
            have n1_ := Aside0.mk (Kd.R_drew HO_7.out)
            have n2_ := Aside0.mk (blk_drew BK202.out)
            have n3_ := Aside0.mk (blk_drew BK203.out)
            have n4_ := Aside0.mk (below_drew1 HB.out)
            clear HO_6
            clear HO_7
            clear BK202
            clear BK203
            clear HB
            have HO_6 := n0_
            have HO_7 := n1_
            have BK202 := n2_
            have BK203 := n3_
            have HB := n4_
            clear n0_ n1_ n2_ n3_ n4_
            have p212 : 0 ≤ (x37_2 : Int) := lD
            have q212 : x37_2 < (l0_1.length : Int) := lD
            obtain ⟨ad212, e212, hx212_0⟩ := Kd.at_int HR0_1.out x37_2 p212 q212
            have hw212_0 := hx212_0
            cases e212
            replace hx212_0 := pw_cell_below HB.out hx212_0
            replace p212 := eq_true p212
            replace q212 := eq_true q212
            have p214 : 0 ≤ (x37_2 : Int) := lD
            have q214 : x37_2 < (l1_1.length : Int) := lD
            obtain ⟨ad214, e214, hx214_0⟩ := Kd.at_int HR1_1.out x37_2 p214 q214
            have hw214_0 := hx214_0
            cases e214
            replace hx214_0 := pw_cell_below HB.out hx214_0
            replace p214 := eq_true p214
            replace q214 := eq_true q214
            refine start_ (n := 15) (S := fun w' => w'.cell? ⟨gb202, 0, none⟩ = some (.slice A0_0 l0_0.length c0_0) ∧ w'.cell? ⟨gb202, 1, none⟩ = some (.slice (some ad212) l0_1.length c0_1) ∧ w'.cell? ⟨gb202, 2, none⟩ = some (.slice A0_2 l0_2.length c0_2) ∧ w'.cell? ⟨gb202, 3, none⟩ = some (.int .i64 a0_3) ∧ w'.cell? ⟨gb203, 0, none⟩ = some (.slice A1_0 l1_0.length c1_0) ∧ w'.cell? ⟨gb203, 1, none⟩ = some (.slice (some ad214) l1_1.length c1_1) ∧ w'.cell? ⟨gb203, 2, none⟩ = some (.slice A1_2 l1_2.length c1_2) ∧ w'.cell? ⟨gb203, 3, none⟩ = some (.int .i64 a1_3) ∧ w'.cell? (ad212.add (x37_2).toNat) = some (.int .i64 (rd l0_1 x37_2)) ∧ w'.cell? (ad214.add (x37_2).toNat) = some (.int .i64 (rd l1_1 x37_2))) (ds := []) (bs 15 0) kR rfl kR ⟨bZ BK202.out 0, bZ BK202.out 1, bZ BK202.out 2, bZ BK202.out 3, bZ BK203.out 0, bZ BK203.out 1, bZ BK203.out 2, bZ BK203.out 3, ((HB.out.cell (World.block_lt_of_cell? w _ hw212_0)).trans hw212_0), ((HB.out.cell (World.block_lt_of_cell? w _ hw214_0)).trans hw214_0)⟩ (fun hHeld => ?_); refine with_tabW spec_SameShape.tab10 spec_SameShape.bits10 (fun HT_ HW_ => ?_)
            generalize wr.drew = w37 at HO_6 HO_7 BK202 BK203 HB hx212_0 hx214_0 hHeld ⊢
            refine pur_ 0 40 (bs 15 1) (any_of HT_.out kR) ?_
            refine pur_ 1 41 (bs 15 3) (any_of HT_.out kR) ?_
            refine pur_ 3 43 (bs 15 11) (any_of HT_.out kR) ?_
            refine pur_ 7 47 (bs 15 139) (any_of HT_.out kR) ?_
            refine pur_ 8 48 (bs 15 395) (any_of HT_.out kR) ?_
            refine pur_ 10 50 (bs 15 1419) (any_of HT_.out kR) ?_
            refine tak_ 2 42 (bs 15 1423) (take_ofW HT_.out HW_.out kR) hHeld ?_
            refine pur_ 4 44 (bs 15 1439) (any_of HT_.out kR) ?_
            refine tak_ 5 45 (bs 15 1471) (take_ofW HT_.out HW_.out kR) hHeld ?_
            refine tak_ 9 49 (bs 15 1983) (take_ofW HT_.out HW_.out kR) hHeld ?_
            refine pur_ 11 51 (bs 15 4031) (any_of HT_.out kR) ?_
            refine tak_ 12 52 (bs 15 8127) (take_ofW HT_.out HW_.out kR) hHeld ?_
            refine one_ (i := 6) (N := some 46) (bs 15 8191) rfl rfl (one_of HT_.out (by kernel_rfl)) (by decide) (fun K hK => ?_)
            refine goes_ Try.func44 (by kernel_rfl) rfl #[.slice Ao26 t206.length co26, .int .i64 (rd l0_1 x37_2)] (by rfl) rfl rfl (by (try simp only [List.map_toArray, List.map_cons, List.map_nil]); first | done | rfl | (simp only [List.length_drop, List.length_take]; rfl)) ?_
            with_reducible refine (spec_l14Number.calls k2 _ _ t206 (rd l0_1 x37_2) t213 _ ?side1 ?side2 A32.out).mono ?_
            (case side1 => repeat (first | exact (Kd.R_reads' HO_6.out).2.2 | (with_reducible refine Kd.C_alloc ?_ _) | (with_reducible refine Kd.C_drewN ?_ _) | (with_reducible refine Kd.C_drew ?_)))
            (case side2 => exact (Kd.R_reads' HO_6.out).2.1)
            rintro e w' ⟨rfl, ⟨nd, rfl⟩⟩
            refine ⟨_, rfl, ?_⟩
            refine hK.out _ _ ⟨bZ BK202.out 0, bZ BK202.out 1, bZ BK202.out 2, bZ BK202.out 3, bZ BK203.out 0, bZ BK203.out 1, bZ BK203.out 2, bZ BK203.out 3, ((HB.out.cell (World.block_lt_of_cell? w _ hw212_0)).trans hw212_0), ((HB.out.cell (World.block_lt_of_cell? w _ hw214_0)).trans hw214_0)⟩ (fun hHeld => ?_)
            clear hK K
            refine norm_ (a' := ?_) ?_ ?_
            rotate_left
            ·show Act.put _ (some 46) _ = _
             simp only [Act.put, List.setIfInBounds_toArray, List.set_cons_zero, List.set_cons_succ, i64_w, i32_w]
             rfl
            refine one_ (i := 13) (N := some 53) (bs 15 16383) rfl rfl (one_of HT_.out (by kernel_rfl)) (by decide) (fun K hK => ?_)
            refine goes_ Try.func44 (by kernel_rfl) rfl #[.slice Ao27 t209.length co27, .int .i64 (rd l1_1 x37_2)] (by rfl) rfl rfl (by (try simp only [List.map_toArray, List.map_cons, List.map_nil]); first | done | rfl | (simp only [List.length_drop, List.length_take]; rfl)) ?_
            with_reducible refine (spec_l14Number.calls k2 _ _ t209 (rd l1_1 x37_2) t215 _ ?side1 ?side2 A34.out).mono ?_
            (case side1 => repeat (first | exact (Kd.R_reads' HO_7.out).2.2 | (with_reducible refine Kd.C_alloc ?_ _) | (with_reducible refine Kd.C_drewN ?_ _) | (with_reducible refine Kd.C_drew ?_)))
            (case side2 => exact (Kd.R_reads' HO_7.out).2.1)
            rintro e w' ⟨rfl, ⟨nd, rfl⟩⟩
            refine ⟨_, rfl, ?_⟩
            refine hK.out _ _ ⟨bZ BK202.out 0, bZ BK202.out 1, bZ BK202.out 2, bZ BK202.out 3, bZ BK203.out 0, bZ BK203.out 1, bZ BK203.out 2, bZ BK203.out 3, ((HB.out.cell (World.block_lt_of_cell? w _ hw212_0)).trans hw212_0), ((HB.out.cell (World.block_lt_of_cell? w _ hw214_0)).trans hw214_0)⟩ (fun hHeld => ?_)
            clear hK K
            refine norm_ (a' := ?_) ?_ ?_
            rotate_left
            ·show Act.put _ (some 53) _ = _
             simp only [Act.put, List.setIfInBounds_toArray, List.set_cons_zero, List.set_cons_succ, i64_w, i32_w]
             rfl
            refine pur_ 14 54 (bs 15 32767) (any_of HT_.out kR) ?_
            refine done_ (done_of HT_.out (by kernel_rfl)) ?_
            try go_wp2
            go_ret2
            exact ⟨lE, lB⟩
          ·rw [if_neg c33] at H
           exact absurd H (by simp)
         ·rw [if_neg c31] at H
          exact absurd H (by simp)
        ·rw [if_neg c30] at H
         exact absurd H (by simp)
       ·rw [if_neg c29] at H
        have c29b0 : decide (x37_2 < (l0_1.length : Int)) = false := decide_eq_false c29
        clear c29
        have H' := Aside0.mk H
        clear H
        go_wp2
        go_loopg [58] k2 (fun kq v58 w' => ∃ (x58_3 : Int), v58 = .int .i64 x58_3 ∧ Aside0 (spec_SameShape.l1 kq t206 t209 (t206.length : Int) x58_3 l0_0 l0_1 l0_2 a0_3 l1_0 l1_1 l1_2 a1_3 = some (r1, r2)) ∧ Aside0 (kq ≤ k2) ∧ Aside0 (Kd.R (Kd.int .i64) 3 w' w.heap.size (fun k_ => some k_ ≠ ((.slice Ao27 t209.length co27) : Value).ownBlock) (.slice Ao26 t206.length co26) t206) ∧ Aside0 (Kd.R (Kd.int .i64) 3 w' w.heap.size (fun k_ => some k_ ≠ ((.slice Ao26 t206.length co26) : Value).ownBlock) (.slice Ao27 t209.length co27) t209) ∧ Aside0 (w'.heap[gb202]? = some (.cells #[(.slice A0_0 l0_0.length c0_0), (.slice A0_1 l0_1.length c0_1), (.slice A0_2 l0_2.length c0_2), .int .i64 a0_3] 25 (0, 0))) ∧ Aside0 (w'.heap[gb203]? = some (.cells #[(.slice A1_0 l1_0.length c1_0), (.slice A1_1 l1_1.length c1_1), (.slice A1_2 l1_2.length c1_2), .int .i64 a1_3] 25 (0, 0))) ∧ Aside0 (Below w.heap.size w w'))
        case atStart => exact ⟨(0), lF, H', ⟨Nat.le_refl _⟩, ⟨lR HO_6.out⟩, ⟨lR HO_7.out⟩, ⟨lK BK202.out⟩, ⟨lK BK203.out⟩, ⟨lB⟩⟩
        case round =>
         clear H'
         try clear c1
         try clear c2
         try clear p2
         try clear q2
         try clear hx2
         try clear c3
         try clear c4
         try clear p6
         try clear c7
         try clear c9
         try clear c14
         try clear c15
         try clear c17
         try clear c20
         try clear c20b0
         try clear c20b1
         try clear c20b2
         try clear c21
         try clear p21
         try clear q21
         try clear hx21
         try clear c23
         try clear c29
         try clear c29b0
         try clear c30
         try clear c30b0
         try clear c31
         try clear c31b0
         try clear c33
         try clear c33b0
         try clear c35
         try clear c35b0
         try clear c35b1
         try clear hcz10_0 hcz10_1 hcz10_2 hcz10_3
         try clear hcz12_0 hcz12_1 hcz12_2 hcz12_3
         try clear hcz15_0 hcz15_1 hcz15_2 hcz15_3
         try clear hcz22_0 hcz22_1 hcz22_2 hcz22_3
         try clear hcz24_0 hcz24_1 hcz24_2 hcz24_3
         try clear hcz28_0 hcz28_1 hcz28_2 hcz28_3
         try clear hfz10_0 hfz10_1 hfz10_2 hfz10_3
         try clear hfz12_0 hfz12_1 hfz12_2 hfz12_3
         try clear hfz15_0 hfz15_1 hfz15_2 hfz15_3
         try clear hfz22_0 hfz22_1 hfz22_2 hfz22_3
         try clear hfz24_0 hfz24_1 hfz24_2 hfz24_3
         try clear hfz28_0 hfz28_1 hfz28_2 hfz28_3
         try clear hx212_0
         try clear hx214_0
         try clear p2
         try clear p212
         try clear p214
         try clear q212
         try clear q214
         obtain ⟨x58_3, rfl, HA, HK3, HO_6, HO_7, BK202, BK203, HB⟩ := hrel
         cases gk with
         | zero => exact absurd HA.out (by simp [spec_SameShape.l1])
         | succ k3 =>
          have H := HA.out
          clear HA
          simp only [spec_SameShape.l1] at H
          by_cases c38 : x58_3 < (t206.length : Int)
          ·rw [if_pos c38] at H
           have c38b0 : decide (x58_3 < (t206.length : Int)) = true := decide_eq_true c38
           clear c38
           by_cases c39 : 0 ≤ x58_3
           ·rw [if_pos c39] at H
            have c39b0 : decide (0 ≤ x58_3) = true := decide_eq_true c39
            clear c39
            by_cases c40 : x58_3 < (t206.length : Int)
            ·rw [if_pos c40] at H
             have c40b0 : decide (x58_3 < (t206.length : Int)) = true := decide_eq_true c40
             clear c40
             replace H := lO H
             obtain ⟨t217, A41, H⟩ := H
             by_cases c42 : 0 ≤ t217
             ·rw [if_pos c42] at H
              have c42b0 : decide (0 ≤ t217) = true := decide_eq_true c42
              clear c42
              by_cases c43 : t217 < (l0_0.length : Int)
              ·rw [if_pos c43] at H
               have c43b0 : decide (t217 < (l0_0.length : Int)) = true := decide_eq_true c43
               clear c43
               by_cases c44 : x58_3 < (t209.length : Int)
               ·rw [if_pos c44] at H
                have c44b0 : decide (x58_3 < (t209.length : Int)) = true := decide_eq_true c44
                clear c44
                replace H := lO H
                obtain ⟨t221, A45, H⟩ := H
                by_cases c46 : 0 ≤ t221
                ·rw [if_pos c46] at H
                 have c46b0 : decide (0 ≤ t221) = true := decide_eq_true c46
                 clear c46
                 by_cases c47 : t221 < (l1_0.length : Int)
                 ·rw [if_pos c47] at H
                  have c47b0 : decide (t221 < (l1_0.length : Int)) = true := decide_eq_true c47
                  clear c47
                  have H' := Aside0.mk H
                  clear H
                  try go_wp2
                  have n0_ := Aside0.mk (Kd.R_drew HO_6.out)
                  have n1_ := Aside0.mk (Kd.R_drew HO_7.out)
                  have n2_ := Aside0.mk (blk_drew BK202.out)
                  have n3_ := Aside0.mk (blk_drew BK203.out)
                  have n4_ := Aside0.mk (below_drew1 HB.out)
                  clear HO_6
                  clear HO_7
                  clear BK202
                  clear BK203
                  clear HB
                  have HO_6 := n0_
                  have HO_7 := n1_
                  have BK202 := n2_
                  have BK203 := n3_
                  have HB := n4_
                  clear n0_ n1_ n2_ n3_ n4_
                  have p216 : 0 ≤ (x58_3 : Int) := lD
                  have q216 : x58_3 < (t206.length : Int) := lD
                  obtain ⟨ad216, e216, hx216_0⟩ := Kd.at_int (Kd.R_reads' HO_6.out).2.2 x58_3 p216 q216
                  cases e216
                  replace p216 := eq_true p216
                  replace q216 := eq_true q216
                  have p218 : 0 ≤ (t217 : Int) := lD
                  have q218 : t217 < (l0_0.length : Int) := lD
                  obtain ⟨ad218, A218_2, c218_2, e218, hx218_0, hx218_1, hx218_2, hl218_2, hi218_2⟩ := at_T45 HR0_0.out t217 p218 q218
                  have hw218_2 := hx218_2
                  have hw218_1 := hx218_1
                  have hw218_0 := hx218_0
                  cases e218
                  replace hx218_0 := pw_cell_below HB.out hx218_0
                  replace hx218_1 := pw_cell_below HB.out hx218_1
                  replace hx218_2 := pw_cell_below HB.out hx218_2
                  have HR218_2 := Aside0.mk hi218_2
                  have HC218_2 := Aside0.mk hl218_2
                  clear hi218_2 hl218_2
                  replace p218 := eq_true p218
                  replace q218 := eq_true q218
                  refine start_ (n := 12) (S := fun w' => w'.cell? ⟨gb202, 0, none⟩ = some (.slice (some ad218) l0_0.length c0_0) ∧ w'.cell? ⟨gb202, 1, none⟩ = some (.slice A0_1 l0_1.length c0_1) ∧ w'.cell? ⟨gb202, 2, none⟩ = some (.slice A0_2 l0_2.length c0_2) ∧ w'.cell? ⟨gb202, 3, none⟩ = some (.int .i64 a0_3) ∧ w'.cell? (ad216.add (x58_3).toNat) = some (.int .i64 (rd t206 x58_3)) ∧ w'.cell? (ad218.add ((t217).toNat * 3)) = some (.int .i64 ((rd_T45 l0_0 t217).f0)) ∧ w'.cell? ⟨(ad218.add ((t217).toNat * 3)).block, (ad218.add ((t217).toNat * 3)).off + 1, none⟩ = some (.bool ((rd_T45 l0_0 t217).f1)) ∧ w'.cell? ⟨(ad218.add ((t217).toNat * 3)).block, (ad218.add ((t217).toNat * 3)).off + 2, none⟩ = some (.slice A218_2 ((rd_T45 l0_0 t217).f2).length c218_2)) (ds := []) (bs 12 0) kR rfl kR ⟨bZ BK202.out 0, bZ BK202.out 1, bZ BK202.out 2, bZ BK202.out 3, hx216_0, ((HB.out.cell (World.block_lt_of_cell? w _ hw218_0)).trans hw218_0), ((HB.out.cell (World.block_lt_of_cell? w _ hw218_1)).trans hw218_1), ((HB.out.cell (World.block_lt_of_cell? w _ hw218_2)).trans hw218_2)⟩ (fun hHeld => ?_); refine with_tabW spec_SameShape.tab16 spec_SameShape.bits16 (fun HT_ HW_ => ?_)
                  generalize wr.drew = w48 at HO_6 HO_7 BK202 BK203 HB HR218_2 hx216_0 hx218_0 hx218_1 hx218_2 hHeld ⊢
                  refine pur_ 0 61 (bs 12 1) (any_of HT_.out kR) ?_
                  refine pur_ 3 64 (bs 12 9) (any_of HT_.out kR) ?_
                  refine pur_ 4 65 (bs 12 25) (any_of HT_.out kR) ?_
                  refine pur_ 5 66 (bs 12 57) (any_of HT_.out kR) ?_
                  refine tak_ 1 62 (bs 12 59) (take_ofW HT_.out HW_.out kR) hHeld ?_
                  refine tak_ 2 63 (bs 12 63) (take_ofW HT_.out HW_.out kR) hHeld ?_
                  refine tak_ 6 67 (bs 12 127) (take_ofW HT_.out HW_.out kR) hHeld ?_
                  refine join_ (σ := Nat) 1 #[true, true, true, true, true, true, true, true, true, true, true, false] (fun s_ => [(68, .int .i64 t217), (10, .pointer (some ⟨s_, 0, none⟩)), (69, .pointer (some (ad218.add ((t217).toNat * 3)))), (70, .agg #[.int .i64 ((rd_T45 l0_0 t217).f0), .bool ((rd_T45 l0_0 t217).f1), .slice A218_2 ((rd_T45 l0_0 t217).f2).length c218_2])]) (fun s_ w' => (w'.cell? ⟨gb202, 0, none⟩ = some (.slice (some ad218) l0_0.length c0_0) ∧ w'.cell? ⟨gb202, 1, none⟩ = some (.slice A0_1 l0_1.length c0_1) ∧ w'.cell? ⟨gb202, 2, none⟩ = some (.slice A0_2 l0_2.length c0_2) ∧ w'.cell? ⟨gb202, 3, none⟩ = some (.int .i64 a0_3) ∧ w'.cell? (ad216.add (x58_3).toNat) = some (.int .i64 (rd t206 x58_3)) ∧ w'.cell? (ad218.add ((t217).toNat * 3)) = some (.int .i64 ((rd_T45 l0_0 t217).f0)) ∧ w'.cell? ⟨(ad218.add ((t217).toNat * 3)).block, (ad218.add ((t217).toNat * 3)).off + 1, none⟩ = some (.bool ((rd_T45 l0_0 t217).f1)) ∧ w'.cell? ⟨(ad218.add ((t217).toNat * 3)).block, (ad218.add ((t217).toNat * 3)).off + 2, none⟩ = some (.slice A218_2 ((rd_T45 l0_0 t217).f2).length c218_2)) ∧ (Kd.R (Kd.int .i64) 3 w' w.heap.size (fun k_ => some k_ ≠ (.slice Ao27 t209.length co27 : Value).ownBlock) (.slice (some ad216) t206.length co26) t206) ∧ (Kd.R (Kd.int .i64) 3 w' w.heap.size (fun k_ => some k_ ≠ (.slice (some ad216) t206.length co26 : Value).ownBlock) (.slice Ao27 t209.length co27) t209) ∧ (w'.heap[gb202]? = some (.cells #[.slice (some ad218) l0_0.length c0_0, .slice A0_1 l0_1.length c0_1, .slice A0_2 l0_2.length c0_2, .int .i64 a0_3] 25 (0, 0))) ∧ (w'.heap[gb203]? = some (.cells #[.slice A1_0 l1_0.length c1_0, .slice A1_1 l1_1.length c1_1, .slice A1_2 l1_2.length c1_2, .int .i64 a1_3] 25 (0, 0))) ∧ (w'.heap[s_]? = some (.cells #[.int .i64 0, .bool false, .slice none 0 0] 45 (0, 0))) ∧ (w.heap.size ≤ s_) ∧ (w.heap.size ≤ s_) ∧ (gb202 ≠ s_) ∧ (s_ ≠ gb202) ∧ (gb203 ≠ s_) ∧ (s_ ≠ gb203) ∧ (Below w.heap.size w w')) ?_ ?_
                  rotate_left
                  ·intro hCont
                   refine two_ (i := 7) (j := 10) (Ni := some 68) (Nj := some 10) (bs 12 255) (bs 12 1151) rfl rfl rfl rfl (two_of HT_.out (by kernel_rfl)) (by decide) (by decide) (fun K hK => ?_) (fun K hK => ?_)
                   ·skip
                    refine goes_ Try.func39 (by kernel_rfl) rfl #[.agg #[.slice (some ad218) l0_0.length c0_0, .slice A0_1 l0_1.length c0_1, .slice A0_2 l0_2.length c0_2, .int .i64 a0_3], .int .i64 (rd t206 x58_3)] (by rfl) rfl rfl (by (try simp only [List.map_toArray, List.map_cons, List.map_nil]); first | done | rfl | (simp only [List.length_drop, List.length_take]; rfl)) ?_
                    with_reducible refine (spec_l14At.calls k3 _ _ l0_0 _ _ l0_1 _ _ l0_2 a0_3 (rd t206 x58_3) t217 _ ?side1 ?side2 ?side3 ?side4 ?side5 ?side6 A41.out).mono ?_
                    (case side1 => exact lC (Kd.C_below HR0_0.out HB.out))
                    (case side2 => exact HC0_0.out)
                    (case side3 => exact lC (Kd.C_below HR0_1.out HB.out))
                    (case side4 => exact HC0_1.out)
                    (case side5 => exact lC (Kd.C_below HR0_2.out HB.out))
                    (case side6 => exact HC0_2.out)
                    rintro e w49 ⟨rfl, hb⟩
                    have HS4_ := (hb.cell (World.block_lt_of_cell? _ _ (hHeld.2.2.2.2.1))).trans (hHeld.2.2.2.2.1)
                    refine ⟨_, rfl, ?_⟩
                    have n0_ := Aside0.mk (Kd.R_below (lR HO_6.out) hb)
                    have n1_ := Aside0.mk (Kd.R_below (lR HO_7.out) hb)
                    have n2_ := Aside0.mk (blk_below (lK BK202.out) hb)
                    have n3_ := Aside0.mk (blk_below (lK BK203.out) hb)
                    have n4_ := Aside0.mk (below_step lB hb)
                    clear HO_6
                    clear HO_7
                    clear BK202
                    clear BK203
                    clear HB
                    have HO_6 := n0_
                    have HO_7 := n1_
                    have BK202 := n2_
                    have BK203 := n3_
                    have HB := n4_
                    clear n0_ n1_ n2_ n3_ n4_
                    (try clear hb)
                    (try clear hb2)
                    (try clear hk)
                    (try clear hi)
                    refine hK.out _ _ ⟨bZ BK202.out 0, bZ BK202.out 1, bZ BK202.out 2, bZ BK202.out 3, HS4_, ((HB.out.cell (World.block_lt_of_cell? w _ hw218_0)).trans hw218_0), ((HB.out.cell (World.block_lt_of_cell? w _ hw218_1)).trans hw218_1), ((HB.out.cell (World.block_lt_of_cell? w _ hw218_2)).trans hw218_2)⟩ (fun hHeld => ?_)
                    clear hK K
                    refine norm_ (a' := ?_) ?_ ?_
                    rotate_left
                    ·show Act.put _ (some 68) _ = _
                     simp only [Act.put, List.setIfInBounds_toArray, List.set_cons_zero, List.set_cons_succ, i64_w, i32_w]
                     rfl
                    refine pur_ 8 69 (bs 12 511) (any_of HT_.out kR) ?_
                    refine tak_ 9 70 (bs 12 1023) (take_ofW HT_.out HW_.out kR) hHeld ?_
                    refine one_ (i := 10) (N := some 10) (bs 12 2047) rfl rfl (one_of HT_.out (by kernel_rfl)) (by decide) (fun K hK => ?_)
                    refine box_step ?hg (N := 10) ?hd (cs := #[.int .i64 0, .bool false, .slice none 0 0]) (t := 45) ?hr ?_; (case hd => rfl); (case hg => rfl); (case hr => first | (go_simp; done) | (go_simp; rfl))
                    intro gb219 hg w50 hbox hb
                    have HS4_ := (hb.cell (World.block_lt_of_cell? _ _ (hHeld.2.2.2.2.1))).trans (hHeld.2.2.2.2.1)
                    have n0_ := Aside0.mk (Kd.R_below (lR HO_6.out) hb)
                    have n1_ := Aside0.mk (Kd.R_below (lR HO_7.out) hb)
                    have n2_ := Aside0.mk (blk_below (lK BK202.out) hb)
                    have n3_ := Aside0.mk (blk_below (lK BK203.out) hb)
                    have n4_ := Aside0.mk (below_step lB hb)
                    have n5_ := Aside0.mk (hbox)
                    have n6_ := lG w hg
                    have n7_ := lG w hg
                    have n8_ := Aside0.mk ((by rw [hg]; exact Nat.ne_of_lt (blk_lt (lK BK202.out)) : gb202 ≠ gb219))
                    have n9_ := Aside0.mk ((by rw [hg]; exact Nat.ne_of_gt (blk_lt (lK BK202.out)) : gb219 ≠ gb202))
                    have n10_ := Aside0.mk ((by rw [hg]; exact Nat.ne_of_lt (blk_lt (lK BK203.out)) : gb203 ≠ gb219))
                    have n11_ := Aside0.mk ((by rw [hg]; exact Nat.ne_of_gt (blk_lt (lK BK203.out)) : gb219 ≠ gb203))
                    clear HO_6
                    clear HO_7
                    clear BK202
                    clear BK203
                    clear HB
                    have HO_6 := n0_
                    have HO_7 := n1_
                    have BK202 := n2_
                    have BK203 := n3_
                    have HB := n4_
                    have BK219 := n5_
                    have GW219 := n6_
                    have GE219 := n7_
                    have NB202_219 := n8_
                    have NB219_202 := n9_
                    have NB203_219 := n10_
                    have NB219_203 := n11_
                    clear n0_ n1_ n2_ n3_ n4_ n5_ n6_ n7_ n8_ n9_ n10_ n11_
                    clear hb hbox hg
                    refine hK.out _ _ ⟨bZ BK202.out 0, bZ BK202.out 1, bZ BK202.out 2, bZ BK202.out 3, HS4_, ((HB.out.cell (World.block_lt_of_cell? w _ hw218_0)).trans hw218_0), ((HB.out.cell (World.block_lt_of_cell? w _ hw218_1)).trans hw218_1), ((HB.out.cell (World.block_lt_of_cell? w _ hw218_2)).trans hw218_2)⟩ (fun hHeld => ?_)
                    clear hK K
                    refine norm_ (a' := ?_) ?_ ?_
                    rotate_left
                    ·show Act.put _ (some 10) _ = _
                     simp only [Act.put, List.setIfInBounds_toArray, List.set_cons_zero, List.set_cons_succ, i64_w, i32_w]
                     rfl
                    exact norm_ (by simp only [putAll, Act.put, List.setIfInBounds_toArray, List.set_cons_zero, List.set_cons_succ]) (hCont (gb219) _ ⟨hHeld, (lR HO_6.out), (lR HO_7.out), (lK BK202.out), (lK BK203.out), (lK BK219.out), GW219.out, GE219.out, NB202_219.out, NB219_202.out, NB203_219.out, NB219_203.out, lB⟩)
                   ·skip
                    refine box_step ?hg (N := 10) ?hd (cs := #[.int .i64 0, .bool false, .slice none 0 0]) (t := 45) ?hr ?_; (case hd => rfl); (case hg => rfl); (case hr => first | (go_simp; done) | (go_simp; rfl))
                    intro gb219 hg w49 hbox hb
                    have HS4_ := (hb.cell (World.block_lt_of_cell? _ _ (hHeld.2.2.2.2.1))).trans (hHeld.2.2.2.2.1)
                    have n0_ := Aside0.mk (Kd.R_below (lR HO_6.out) hb)
                    have n1_ := Aside0.mk (Kd.R_below (lR HO_7.out) hb)
                    have n2_ := Aside0.mk (blk_below (lK BK202.out) hb)
                    have n3_ := Aside0.mk (blk_below (lK BK203.out) hb)
                    have n4_ := Aside0.mk (below_step lB hb)
                    have n5_ := Aside0.mk (hbox)
                    have n6_ := lG w hg
                    have n7_ := lG w hg
                    have n8_ := Aside0.mk ((by rw [hg]; exact Nat.ne_of_lt (blk_lt (lK BK202.out)) : gb202 ≠ gb219))
                    have n9_ := Aside0.mk ((by rw [hg]; exact Nat.ne_of_gt (blk_lt (lK BK202.out)) : gb219 ≠ gb202))
                    have n10_ := Aside0.mk ((by rw [hg]; exact Nat.ne_of_lt (blk_lt (lK BK203.out)) : gb203 ≠ gb219))
                    have n11_ := Aside0.mk ((by rw [hg]; exact Nat.ne_of_gt (blk_lt (lK BK203.out)) : gb219 ≠ gb203))
                    clear HO_6
                    clear HO_7
                    clear BK202
                    clear BK203
                    clear HB
                    have HO_6 := n0_
                    have HO_7 := n1_
                    have BK202 := n2_
                    have BK203 := n3_
                    have HB := n4_
                    have BK219 := n5_
                    have GW219 := n6_
                    have GE219 := n7_
                    have NB202_219 := n8_
                    have NB219_202 := n9_
                    have NB203_219 := n10_
                    have NB219_203 := n11_
                    clear n0_ n1_ n2_ n3_ n4_ n5_ n6_ n7_ n8_ n9_ n10_ n11_
                    clear hb hbox hg
                    refine hK.out _ _ ⟨bZ BK202.out 0, bZ BK202.out 1, bZ BK202.out 2, bZ BK202.out 3, HS4_, ((HB.out.cell (World.block_lt_of_cell? w _ hw218_0)).trans hw218_0), ((HB.out.cell (World.block_lt_of_cell? w _ hw218_1)).trans hw218_1), ((HB.out.cell (World.block_lt_of_cell? w _ hw218_2)).trans hw218_2)⟩ (fun hHeld => ?_)
                    clear hK K
                    refine norm_ (a' := ?_) ?_ ?_
                    rotate_left
                    ·show Act.put _ (some 10) _ = _
                     simp only [Act.put, List.setIfInBounds_toArray, List.set_cons_zero, List.set_cons_succ, i64_w, i32_w]
                     rfl
                    refine one_ (i := 7) (N := some 68) (bs 12 1279) rfl rfl (one_of HT_.out (by kernel_rfl)) (by decide) (fun K hK => ?_)
                    refine goes_ Try.func39 (by kernel_rfl) rfl #[.agg #[.slice (some ad218) l0_0.length c0_0, .slice A0_1 l0_1.length c0_1, .slice A0_2 l0_2.length c0_2, .int .i64 a0_3], .int .i64 (rd t206 x58_3)] (by rfl) rfl rfl (by (try simp only [List.map_toArray, List.map_cons, List.map_nil]); first | done | rfl | (simp only [List.length_drop, List.length_take]; rfl)) ?_
                    with_reducible refine (spec_l14At.calls k3 _ _ l0_0 _ _ l0_1 _ _ l0_2 a0_3 (rd t206 x58_3) t217 _ ?side1 ?side2 ?side3 ?side4 ?side5 ?side6 A41.out).mono ?_
                    (case side1 => exact lC (Kd.C_below HR0_0.out HB.out))
                    (case side2 => exact HC0_0.out)
                    (case side3 => exact lC (Kd.C_below HR0_1.out HB.out))
                    (case side4 => exact HC0_1.out)
                    (case side5 => exact lC (Kd.C_below HR0_2.out HB.out))
                    (case side6 => exact HC0_2.out)
                    rintro e w50 ⟨rfl, hb⟩
                    have HS4_ := (hb.cell (World.block_lt_of_cell? _ _ (hHeld.2.2.2.2.1))).trans (hHeld.2.2.2.2.1)
                    refine ⟨_, rfl, ?_⟩
                    have n0_ := Aside0.mk (Kd.R_below (lR HO_6.out) hb)
                    have n1_ := Aside0.mk (Kd.R_below (lR HO_7.out) hb)
                    have n2_ := Aside0.mk (blk_below (lK BK202.out) hb)
                    have n3_ := Aside0.mk (blk_below (lK BK203.out) hb)
                    have n4_ := Aside0.mk (blk_below (lK BK219.out) hb)
                    have n5_ := Aside0.mk (below_step lB hb)
                    clear HO_6
                    clear HO_7
                    clear BK202
                    clear BK203
                    clear BK219
                    clear HB
                    have HO_6 := n0_
                    have HO_7 := n1_
                    have BK202 := n2_
                    have BK203 := n3_
                    have BK219 := n4_
                    have HB := n5_
                    clear n0_ n1_ n2_ n3_ n4_ n5_
                    (try clear hb)
                    (try clear hb2)
                    (try clear hk)
                    (try clear hi)
                    refine hK.out _ _ ⟨bZ BK202.out 0, bZ BK202.out 1, bZ BK202.out 2, bZ BK202.out 3, HS4_, ((HB.out.cell (World.block_lt_of_cell? w _ hw218_0)).trans hw218_0), ((HB.out.cell (World.block_lt_of_cell? w _ hw218_1)).trans hw218_1), ((HB.out.cell (World.block_lt_of_cell? w _ hw218_2)).trans hw218_2)⟩ (fun hHeld => ?_)
                    clear hK K
                    refine norm_ (a' := ?_) ?_ ?_
                    rotate_left
                    ·show Act.put _ (some 68) _ = _
                     simp only [Act.put, List.setIfInBounds_toArray, List.set_cons_zero, List.set_cons_succ, i64_w, i32_w]
                     rfl
                    refine pur_ 8 69 (bs 12 1535) (any_of HT_.out kR) ?_
                    refine tak_ 9 70 (bs 12 2047) (take_ofW HT_.out HW_.out kR) hHeld ?_
                    exact norm_ (by simp only [putAll, Act.put, List.setIfInBounds_toArray, List.set_cons_zero, List.set_cons_succ]) (hCont (gb219) _ ⟨hHeld, (lR HO_6.out), (lR HO_7.out), (lK BK202.out), (lK BK203.out), (lK BK219.out), GW219.out, GE219.out, NB202_219.out, NB219_202.out, NB203_219.out, NB219_203.out, lB⟩)
                  rintro gb219 w51 ⟨hS_, h0_, h1_, h2_, h3_, h4_, h5_, h6_, h7_, h8_, h9_, h10_, h11_⟩
                  have n0_ : Aside0 (Kd.R (Kd.int .i64) 3 w51 w.heap.size (fun k_ => some k_ ≠ (.slice Ao27 t209.length co27 : Value).ownBlock) (.slice (some ad216) t206.length co26) t206) := ⟨h0_⟩
                  have n1_ : Aside0 (Kd.R (Kd.int .i64) 3 w51 w.heap.size (fun k_ => some k_ ≠ (.slice (some ad216) t206.length co26 : Value).ownBlock) (.slice Ao27 t209.length co27) t209) := ⟨h1_⟩
                  have n2_ : Aside0 (w51.heap[gb202]? = some (.cells #[.slice (some ad218) l0_0.length c0_0, .slice A0_1 l0_1.length c0_1, .slice A0_2 l0_2.length c0_2, .int .i64 a0_3] 25 (0, 0))) := ⟨h2_⟩
                  have n3_ : Aside0 (w51.heap[gb203]? = some (.cells #[.slice A1_0 l1_0.length c1_0, .slice A1_1 l1_1.length c1_1, .slice A1_2 l1_2.length c1_2, .int .i64 a1_3] 25 (0, 0))) := ⟨h3_⟩
                  have n4_ : Aside0 (w51.heap[gb219]? = some (.cells #[.int .i64 0, .bool false, .slice none 0 0] 45 (0, 0))) := ⟨h4_⟩
                  have n5_ : Aside0 (w.heap.size ≤ gb219) := ⟨h5_⟩
                  have n6_ : Aside0 (w.heap.size ≤ gb219) := ⟨h6_⟩
                  have n7_ : Aside0 (gb202 ≠ gb219) := ⟨h7_⟩
                  have n8_ : Aside0 (gb219 ≠ gb202) := ⟨h8_⟩
                  have n9_ : Aside0 (gb203 ≠ gb219) := ⟨h9_⟩
                  have n10_ : Aside0 (gb219 ≠ gb203) := ⟨h10_⟩
                  have n11_ : Aside0 (Below w.heap.size w w51) := ⟨h11_⟩
                  clear HO_6
                  clear HO_7
                  clear BK202
                  clear BK203
                  clear HB
                  clear h0_ h1_ h2_ h3_ h4_ h5_ h6_ h7_ h8_ h9_ h10_ h11_
                  have HO_6 := n0_
                  have HO_7 := n1_
                  have BK202 := n2_
                  have BK203 := n3_
                  have BK219 := n4_
                  have GW219 := n5_
                  have GE219 := n6_
                  have NB202_219 := n7_
                  have NB219_202 := n8_
                  have NB203_219 := n9_
                  have NB219_203 := n10_
                  have HB := n11_
                  clear n0_ n1_ n2_ n3_ n4_ n5_ n6_ n7_ n8_ n9_ n10_ n11_
                  have hHeld : w51.cell? ⟨gb202, 0, none⟩ = some (.slice (some ad218) l0_0.length c0_0) ∧ w51.cell? ⟨gb202, 1, none⟩ = some (.slice A0_1 l0_1.length c0_1) ∧ w51.cell? ⟨gb202, 2, none⟩ = some (.slice A0_2 l0_2.length c0_2) ∧ w51.cell? ⟨gb202, 3, none⟩ = some (.int .i64 a0_3) ∧ w51.cell? (ad216.add (x58_3).toNat) = some (.int .i64 (rd t206 x58_3)) ∧ w51.cell? (ad218.add ((t217).toNat * 3)) = some (.int .i64 ((rd_T45 l0_0 t217).f0)) ∧ w51.cell? ⟨(ad218.add ((t217).toNat * 3)).block, (ad218.add ((t217).toNat * 3)).off + 1, none⟩ = some (.bool ((rd_T45 l0_0 t217).f1)) ∧ w51.cell? ⟨(ad218.add ((t217).toNat * 3)).block, (ad218.add ((t217).toNat * 3)).off + 2, none⟩ = some (.slice A218_2 ((rd_T45 l0_0 t217).f2).length c218_2) := hS_
                  refine norm_ (a' := ?_) ?_ ?_
                  rotate_left
                  ·simp only [putAll, Act.put, List.setIfInBounds_toArray, List.set_cons_zero, List.set_cons_succ]
                   rfl
                  refine one_ (i := 11) (N := none) (bs 12 4095) rfl rfl (one_of HT_.out (by kernel_rfl)) (by decide) (fun K hK => ?_)
                  have hs52 : w51.cell? ⟨gb219, 0, none⟩ = some (.int .i64 0) := bZ BK219.out 0
                  have hfs52 := blk_frozen BK219.out 0
                  have hns52_0 := NB202_219.out
                  have hns52_1 := NB203_219.out
                  have hms52_0 := NB219_202.out
                  have hms52_1 := NB219_203.out
                  have hs53 : w51.cell? ⟨gb219, 1, none⟩ = some (.bool false) := bZ BK219.out 1
                  have hfs53 := blk_frozen BK219.out 1
                  have hns53_0 := NB202_219.out
                  have hns53_1 := NB203_219.out
                  have hms53_0 := NB219_202.out
                  have hms53_1 := NB219_203.out
                  have hs54 : w51.cell? ⟨gb219, 2, none⟩ = some (.slice none 0 0) := bZ BK219.out 2
                  have hfs54 := blk_frozen BK219.out 2
                  have hns54_0 := NB202_219.out
                  have hns54_1 := NB203_219.out
                  have hms54_0 := NB219_202.out
                  have hms54_1 := NB219_203.out
                  refine skip_ (w1 := ?_) (by rfl) rfl ?_ ?_
                  rotate_left
                  ·go_simp
                   rfl
                  refine hK.out _ _ ⟨((cell_far (p := ⟨gb219, _, none⟩) NB202_219.out _).trans (((cell_far (p := ⟨gb219, _, none⟩) NB202_219.out _).trans (((cell_far (p := ⟨gb219, _, none⟩) NB202_219.out _).trans (hHeld.1)))))), ((cell_far (p := ⟨gb219, _, none⟩) NB202_219.out _).trans (((cell_far (p := ⟨gb219, _, none⟩) NB202_219.out _).trans (((cell_far (p := ⟨gb219, _, none⟩) NB202_219.out _).trans (hHeld.2.1)))))), ((cell_far (p := ⟨gb219, _, none⟩) NB202_219.out _).trans (((cell_far (p := ⟨gb219, _, none⟩) NB202_219.out _).trans (((cell_far (p := ⟨gb219, _, none⟩) NB202_219.out _).trans (hHeld.2.2.1)))))), ((cell_far (p := ⟨gb219, _, none⟩) NB202_219.out _).trans (((cell_far (p := ⟨gb219, _, none⟩) NB202_219.out _).trans (((cell_far (p := ⟨gb219, _, none⟩) NB202_219.out _).trans (hHeld.2.2.2.1)))))), ((cell_far (p := ⟨gb219, _, none⟩) (by first | exact Kd.own_blk (Kd.R_ne HO_6.out BK219.out (by decide)) | (rw [add_block]; exact Kd.own_blk (Kd.R_ne HO_6.out BK219.out (by decide))) | (show (Addr.add _ _).block ≠ _; rw [add_block]; exact Kd.own_blk (Kd.R_ne HO_6.out BK219.out (by decide))) | (dsimp only; exact Kd.own_blk (Kd.R_ne HO_6.out BK219.out (by decide)))) _).trans (((cell_far (p := ⟨gb219, _, none⟩) (by first | exact Kd.own_blk (Kd.R_ne HO_6.out BK219.out (by decide)) | (rw [add_block]; exact Kd.own_blk (Kd.R_ne HO_6.out BK219.out (by decide))) | (show (Addr.add _ _).block ≠ _; rw [add_block]; exact Kd.own_blk (Kd.R_ne HO_6.out BK219.out (by decide))) | (dsimp only; exact Kd.own_blk (Kd.R_ne HO_6.out BK219.out (by decide)))) _).trans (((cell_far (p := ⟨gb219, _, none⟩) (by first | exact Kd.own_blk (Kd.R_ne HO_6.out BK219.out (by decide)) | (rw [add_block]; exact Kd.own_blk (Kd.R_ne HO_6.out BK219.out (by decide))) | (show (Addr.add _ _).block ≠ _; rw [add_block]; exact Kd.own_blk (Kd.R_ne HO_6.out BK219.out (by decide))) | (dsimp only; exact Kd.own_blk (Kd.R_ne HO_6.out BK219.out (by decide)))) _).trans (hHeld.2.2.2.2.1)))))), ((cell_far (p := ⟨gb219, _, none⟩) (by first | exact Nat.ne_of_lt (Nat.lt_of_lt_of_le (by have := World.block_lt_of_cell? _ _ hw218_0; first | rwa [add_block] at this | exact this) GW219.out) | (rw [add_block]; exact Nat.ne_of_lt (Nat.lt_of_lt_of_le (by have := World.block_lt_of_cell? _ _ hw218_0; first | rwa [add_block] at this | exact this) GW219.out)) | (show (Addr.add _ _).block ≠ _; rw [add_block]; exact Nat.ne_of_lt (Nat.lt_of_lt_of_le (by have := World.block_lt_of_cell? _ _ hw218_0; first | rwa [add_block] at this | exact this) GW219.out)) | (dsimp only; exact Nat.ne_of_lt (Nat.lt_of_lt_of_le (by have := World.block_lt_of_cell? _ _ hw218_0; first | rwa [add_block] at this | exact this) GW219.out))) _).trans (((cell_far (p := ⟨gb219, _, none⟩) (by first | exact Nat.ne_of_lt (Nat.lt_of_lt_of_le (by have := World.block_lt_of_cell? _ _ hw218_0; first | rwa [add_block] at this | exact this) GW219.out) | (rw [add_block]; exact Nat.ne_of_lt (Nat.lt_of_lt_of_le (by have := World.block_lt_of_cell? _ _ hw218_0; first | rwa [add_block] at this | exact this) GW219.out)) | (show (Addr.add _ _).block ≠ _; rw [add_block]; exact Nat.ne_of_lt (Nat.lt_of_lt_of_le (by have := World.block_lt_of_cell? _ _ hw218_0; first | rwa [add_block] at this | exact this) GW219.out)) | (dsimp only; exact Nat.ne_of_lt (Nat.lt_of_lt_of_le (by have := World.block_lt_of_cell? _ _ hw218_0; first | rwa [add_block] at this | exact this) GW219.out))) _).trans (((cell_far (p := ⟨gb219, _, none⟩) (by first | exact Nat.ne_of_lt (Nat.lt_of_lt_of_le (by have := World.block_lt_of_cell? _ _ hw218_0; first | rwa [add_block] at this | exact this) GW219.out) | (rw [add_block]; exact Nat.ne_of_lt (Nat.lt_of_lt_of_le (by have := World.block_lt_of_cell? _ _ hw218_0; first | rwa [add_block] at this | exact this) GW219.out)) | (show (Addr.add _ _).block ≠ _; rw [add_block]; exact Nat.ne_of_lt (Nat.lt_of_lt_of_le (by have := World.block_lt_of_cell? _ _ hw218_0; first | rwa [add_block] at this | exact this) GW219.out)) | (dsimp only; exact Nat.ne_of_lt (Nat.lt_of_lt_of_le (by have := World.block_lt_of_cell? _ _ hw218_0; first | rwa [add_block] at this | exact this) GW219.out))) _).trans (hHeld.2.2.2.2.2.1)))))), ((cell_far (p := ⟨gb219, _, none⟩) (by first | exact Nat.ne_of_lt (Nat.lt_of_lt_of_le (by have := World.block_lt_of_cell? _ _ hw218_1; first | rwa [add_block] at this | exact this) GW219.out) | (rw [add_block]; exact Nat.ne_of_lt (Nat.lt_of_lt_of_le (by have := World.block_lt_of_cell? _ _ hw218_1; first | rwa [add_block] at this | exact this) GW219.out)) | (show (Addr.add _ _).block ≠ _; rw [add_block]; exact Nat.ne_of_lt (Nat.lt_of_lt_of_le (by have := World.block_lt_of_cell? _ _ hw218_1; first | rwa [add_block] at this | exact this) GW219.out)) | (dsimp only; exact Nat.ne_of_lt (Nat.lt_of_lt_of_le (by have := World.block_lt_of_cell? _ _ hw218_1; first | rwa [add_block] at this | exact this) GW219.out))) _).trans (((cell_far (p := ⟨gb219, _, none⟩) (by first | exact Nat.ne_of_lt (Nat.lt_of_lt_of_le (by have := World.block_lt_of_cell? _ _ hw218_1; first | rwa [add_block] at this | exact this) GW219.out) | (rw [add_block]; exact Nat.ne_of_lt (Nat.lt_of_lt_of_le (by have := World.block_lt_of_cell? _ _ hw218_1; first | rwa [add_block] at this | exact this) GW219.out)) | (show (Addr.add _ _).block ≠ _; rw [add_block]; exact Nat.ne_of_lt (Nat.lt_of_lt_of_le (by have := World.block_lt_of_cell? _ _ hw218_1; first | rwa [add_block] at this | exact this) GW219.out)) | (dsimp only; exact Nat.ne_of_lt (Nat.lt_of_lt_of_le (by have := World.block_lt_of_cell? _ _ hw218_1; first | rwa [add_block] at this | exact this) GW219.out))) _).trans (((cell_far (p := ⟨gb219, _, none⟩) (by first | exact Nat.ne_of_lt (Nat.lt_of_lt_of_le (by have := World.block_lt_of_cell? _ _ hw218_1; first | rwa [add_block] at this | exact this) GW219.out) | (rw [add_block]; exact Nat.ne_of_lt (Nat.lt_of_lt_of_le (by have := World.block_lt_of_cell? _ _ hw218_1; first | rwa [add_block] at this | exact this) GW219.out)) | (show (Addr.add _ _).block ≠ _; rw [add_block]; exact Nat.ne_of_lt (Nat.lt_of_lt_of_le (by have := World.block_lt_of_cell? _ _ hw218_1; first | rwa [add_block] at this | exact this) GW219.out)) | (dsimp only; exact Nat.ne_of_lt (Nat.lt_of_lt_of_le (by have := World.block_lt_of_cell? _ _ hw218_1; first | rwa [add_block] at this | exact this) GW219.out))) _).trans (hHeld.2.2.2.2.2.2.1)))))), ((cell_far (p := ⟨gb219, _, none⟩) (by first | exact Nat.ne_of_lt (Nat.lt_of_lt_of_le (by have := World.block_lt_of_cell? _ _ hw218_2; first | rwa [add_block] at this | exact this) GW219.out) | (rw [add_block]; exact Nat.ne_of_lt (Nat.lt_of_lt_of_le (by have := World.block_lt_of_cell? _ _ hw218_2; first | rwa [add_block] at this | exact this) GW219.out)) | (show (Addr.add _ _).block ≠ _; rw [add_block]; exact Nat.ne_of_lt (Nat.lt_of_lt_of_le (by have := World.block_lt_of_cell? _ _ hw218_2; first | rwa [add_block] at this | exact this) GW219.out)) | (dsimp only; exact Nat.ne_of_lt (Nat.lt_of_lt_of_le (by have := World.block_lt_of_cell? _ _ hw218_2; first | rwa [add_block] at this | exact this) GW219.out))) _).trans (((cell_far (p := ⟨gb219, _, none⟩) (by first | exact Nat.ne_of_lt (Nat.lt_of_lt_of_le (by have := World.block_lt_of_cell? _ _ hw218_2; first | rwa [add_block] at this | exact this) GW219.out) | (rw [add_block]; exact Nat.ne_of_lt (Nat.lt_of_lt_of_le (by have := World.block_lt_of_cell? _ _ hw218_2; first | rwa [add_block] at this | exact this) GW219.out)) | (show (Addr.add _ _).block ≠ _; rw [add_block]; exact Nat.ne_of_lt (Nat.lt_of_lt_of_le (by have := World.block_lt_of_cell? _ _ hw218_2; first | rwa [add_block] at this | exact this) GW219.out)) | (dsimp only; exact Nat.ne_of_lt (Nat.lt_of_lt_of_le (by have := World.block_lt_of_cell? _ _ hw218_2; first | rwa [add_block] at this | exact this) GW219.out))) _).trans (((cell_far (p := ⟨gb219, _, none⟩) (by first | exact Nat.ne_of_lt (Nat.lt_of_lt_of_le (by have := World.block_lt_of_cell? _ _ hw218_2; first | rwa [add_block] at this | exact this) GW219.out) | (rw [add_block]; exact Nat.ne_of_lt (Nat.lt_of_lt_of_le (by have := World.block_lt_of_cell? _ _ hw218_2; first | rwa [add_block] at this | exact this) GW219.out)) | (show (Addr.add _ _).block ≠ _; rw [add_block]; exact Nat.ne_of_lt (Nat.lt_of_lt_of_le (by have := World.block_lt_of_cell? _ _ hw218_2; first | rwa [add_block] at this | exact this) GW219.out)) | (dsimp only; exact Nat.ne_of_lt (Nat.lt_of_lt_of_le (by have := World.block_lt_of_cell? _ _ hw218_2; first | rwa [add_block] at this | exact this) GW219.out))) _).trans (hHeld.2.2.2.2.2.2.2))))))⟩ (fun hHeld => ?_)
                  clear hK K
                  refine done_ (done_of HT_.out (by kernel_rfl)) ?_
                  try go_wp2
                  have n0_ : Aside0 (Kd.R (Kd.int .i64) 3 (((w51.setCell ⟨gb219, 0, none⟩ (.int .i64 ((rd_T45 l0_0 t217).f0))).setCell ⟨gb219, 1, none⟩ (.bool ((rd_T45 l0_0 t217).f1))).setCell ⟨gb219, 2, none⟩ (.slice A218_2 ((rd_T45 l0_0 t217).f2).length c218_2)) w.heap.size (fun k_ => some k_ ≠ (.slice Ao27 t209.length co27 : Value).ownBlock) (.slice (some ad216) t206.length co26) t206) := ⟨by (with_reducible repeat (first | apply Kd.R_alloc | apply Kd.R_drewN | apply Kd.R_drew)); exact Kd.R_mono (Kd.R_far (p := ⟨gb219, 2, none⟩) (Kd.R_far (p := ⟨gb219, 1, none⟩) (Kd.R_far (p := ⟨gb219, 0, none⟩) (Kd.R_types HO_6.out BK219.out (by decide)) (fun _ hk => hk.2) (.int .i64 ((rd_T45 l0_0 t217).f0))) (fun _ hk => hk.2) (.bool ((rd_T45 l0_0 t217).f1))) (fun _ hk => hk.2) (.slice A218_2 ((rd_T45 l0_0 t217).f2).length c218_2)) (fun _ hk => hk.1)⟩
                  have n1_ : Aside0 (Kd.R (Kd.int .i64) 3 (((w51.setCell ⟨gb219, 0, none⟩ (.int .i64 ((rd_T45 l0_0 t217).f0))).setCell ⟨gb219, 1, none⟩ (.bool ((rd_T45 l0_0 t217).f1))).setCell ⟨gb219, 2, none⟩ (.slice A218_2 ((rd_T45 l0_0 t217).f2).length c218_2)) w.heap.size (fun k_ => some k_ ≠ (.slice (some ad216) t206.length co26 : Value).ownBlock) (.slice Ao27 t209.length co27) t209) := ⟨by (with_reducible repeat (first | apply Kd.R_alloc | apply Kd.R_drewN | apply Kd.R_drew)); exact Kd.R_mono (Kd.R_far (p := ⟨gb219, 2, none⟩) (Kd.R_far (p := ⟨gb219, 1, none⟩) (Kd.R_far (p := ⟨gb219, 0, none⟩) (Kd.R_types HO_7.out BK219.out (by decide)) (fun _ hk => hk.2) (.int .i64 ((rd_T45 l0_0 t217).f0))) (fun _ hk => hk.2) (.bool ((rd_T45 l0_0 t217).f1))) (fun _ hk => hk.2) (.slice A218_2 ((rd_T45 l0_0 t217).f2).length c218_2)) (fun _ hk => hk.1)⟩
                  have n2_ : Aside0 ((((w51.setCell ⟨gb219, 0, none⟩ (.int .i64 ((rd_T45 l0_0 t217).f0))).setCell ⟨gb219, 1, none⟩ (.bool ((rd_T45 l0_0 t217).f1))).setCell ⟨gb219, 2, none⟩ (.slice A218_2 ((rd_T45 l0_0 t217).f2).length c218_2)).heap[gb202]? = some (.cells #[.slice (some ad218) l0_0.length c0_0, .slice A0_1 l0_1.length c0_1, .slice A0_2 l0_2.length c0_2, .int .i64 a0_3] 25 (0, 0))) := ⟨lJ BK202.out⟩
                  have n3_ : Aside0 ((((w51.setCell ⟨gb219, 0, none⟩ (.int .i64 ((rd_T45 l0_0 t217).f0))).setCell ⟨gb219, 1, none⟩ (.bool ((rd_T45 l0_0 t217).f1))).setCell ⟨gb219, 2, none⟩ (.slice A218_2 ((rd_T45 l0_0 t217).f2).length c218_2)).heap[gb203]? = some (.cells #[.slice A1_0 l1_0.length c1_0, .slice A1_1 l1_1.length c1_1, .slice A1_2 l1_2.length c1_2, .int .i64 a1_3] 25 (0, 0))) := ⟨lJ BK203.out⟩
                  have n4_ : Aside0 ((((w51.setCell ⟨gb219, 0, none⟩ (.int .i64 ((rd_T45 l0_0 t217).f0))).setCell ⟨gb219, 1, none⟩ (.bool ((rd_T45 l0_0 t217).f1))).setCell ⟨gb219, 2, none⟩ (.slice A218_2 ((rd_T45 l0_0 t217).f2).length c218_2)).heap[gb219]? = some (.cells #[.int .i64 ((rd_T45 l0_0 t217).f0), .bool ((rd_T45 l0_0 t217).f1), .slice A218_2 ((rd_T45 l0_0 t217).f2).length c218_2] 45 (0, 0))) := ⟨by (with_reducible repeat first | apply bN | apply bD | apply bA); refine blk_put (cs := #[.int .i64 ((rd_T45 l0_0 t217).f0), .bool ((rd_T45 l0_0 t217).f1), .slice none 0 0]) ?_ 2 _ rfl; (with_reducible repeat first | apply bN | apply bD | apply bA); refine blk_put (cs := #[.int .i64 ((rd_T45 l0_0 t217).f0), .bool false, .slice none 0 0]) ?_ 1 _ rfl; (with_reducible repeat first | apply bN | apply bD | apply bA); refine blk_put (cs := #[.int .i64 0, .bool false, .slice none 0 0]) ?_ 0 _ rfl; (with_reducible repeat first | apply bN | apply bD | apply bA); exact BK219.out⟩
                  have n5_ : Aside0 (Below w.heap.size w (((w51.setCell ⟨gb219, 0, none⟩ (.int .i64 ((rd_T45 l0_0 t217).f0))).setCell ⟨gb219, 1, none⟩ (.bool ((rd_T45 l0_0 t217).f1))).setCell ⟨gb219, 2, none⟩ (.slice A218_2 ((rd_T45 l0_0 t217).f2).length c218_2))) := ⟨lB⟩
                  (try clear HO_6)
                  (try clear HO_7)
                  (try clear BK202)
                  (try clear BK203)
                  (try clear BK219)
                  (try clear HB)
                  generalize (((w51.setCell ⟨gb219, 0, none⟩ (.int .i64 ((rd_T45 l0_0 t217).f0))).setCell ⟨gb219, 1, none⟩ (.bool ((rd_T45 l0_0 t217).f1))).setCell ⟨gb219, 2, none⟩ (.slice A218_2 ((rd_T45 l0_0 t217).f2).length c218_2)) = w55 at n0_ n1_ n2_ n3_ n4_ n5_ ⊢
                  have HO_6 := n0_
                  have HO_7 := n1_
                  have BK202 := n2_
                  have BK203 := n3_
                  have BK219 := n4_
                  have HB := n5_
                  clear n0_ n1_ n2_ n3_ n4_ n5_
                  have n0_ := Aside0.mk (Kd.R_drew HO_6.out)
                  have n1_ := Aside0.mk (Kd.R_drew HO_7.out)
                  have n2_ := Aside0.mk (blk_drew BK202.out)
                  have n3_ := Aside0.mk (blk_drew BK203.out)
                  have n4_ := Aside0.mk (blk_drew BK219.out)
                  have n5_ := Aside0.mk (below_drew1 HB.out)
                  clear HO_6
                  clear HO_7
                  clear BK202
                  clear BK203
                  clear BK219
                  clear HB
                  have HO_6 := n0_
                  have HO_7 := n1_
                  have BK202 := n2_
                  have BK203 := n3_
                  have BK219 := n4_
                  have HB := n5_
                  clear n0_ n1_ n2_ n3_ n4_ n5_
                  have p220 : 0 ≤ (x58_3 : Int) := lD
                  have q220 : x58_3 < (t209.length : Int) := lD
                  obtain ⟨ad220, e220, hx220_0⟩ := Kd.at_int (Kd.R_reads' HO_7.out).2.2 x58_3 p220 q220
                  cases e220
                  replace p220 := eq_true p220
                  replace q220 := eq_true q220
                  have p222 : 0 ≤ (t221 : Int) := lD
                  have q222 : t221 < (l1_0.length : Int) := lD
                  obtain ⟨ad222, A222_2, c222_2, e222, hx222_0, hx222_1, hx222_2, hl222_2, hi222_2⟩ := at_T45 HR1_0.out t221 p222 q222
                  have hw222_2 := hx222_2
                  have hw222_1 := hx222_1
                  have hw222_0 := hx222_0
                  cases e222
                  replace hx222_0 := pw_cell_below HB.out hx222_0
                  replace hx222_1 := pw_cell_below HB.out hx222_1
                  replace hx222_2 := pw_cell_below HB.out hx222_2
                  have HR222_2 := Aside0.mk hi222_2
                  have HC222_2 := Aside0.mk hl222_2
                  clear hi222_2 hl222_2
                  replace p222 := eq_true p222
                  replace q222 := eq_true q222
                  refine start_ (n := 12) (S := fun w' => w'.cell? ⟨gb203, 0, none⟩ = some (.slice (some ad222) l1_0.length c1_0) ∧ w'.cell? ⟨gb203, 1, none⟩ = some (.slice A1_1 l1_1.length c1_1) ∧ w'.cell? ⟨gb203, 2, none⟩ = some (.slice A1_2 l1_2.length c1_2) ∧ w'.cell? ⟨gb203, 3, none⟩ = some (.int .i64 a1_3) ∧ w'.cell? (ad220.add (x58_3).toNat) = some (.int .i64 (rd t209 x58_3)) ∧ w'.cell? (ad222.add ((t221).toNat * 3)) = some (.int .i64 ((rd_T45 l1_0 t221).f0)) ∧ w'.cell? ⟨(ad222.add ((t221).toNat * 3)).block, (ad222.add ((t221).toNat * 3)).off + 1, none⟩ = some (.bool ((rd_T45 l1_0 t221).f1)) ∧ w'.cell? ⟨(ad222.add ((t221).toNat * 3)).block, (ad222.add ((t221).toNat * 3)).off + 2, none⟩ = some (.slice A222_2 ((rd_T45 l1_0 t221).f2).length c222_2)) (ds := []) (bs 12 0) kR rfl kR ⟨bZ BK203.out 0, bZ BK203.out 1, bZ BK203.out 2, bZ BK203.out 3, hx220_0, ((HB.out.cell (World.block_lt_of_cell? w _ hw222_0)).trans hw222_0), ((HB.out.cell (World.block_lt_of_cell? w _ hw222_1)).trans hw222_1), ((HB.out.cell (World.block_lt_of_cell? w _ hw222_2)).trans hw222_2)⟩ (fun hHeld => ?_); refine with_tabW spec_SameShape.tab17 spec_SameShape.bits17 (fun HT_ HW_ => ?_)
                  generalize w55.drew = w56 at HO_6 HO_7 BK202 BK203 BK219 HB HR222_2 hx220_0 hx222_0 hx222_1 hx222_2 hHeld ⊢
                  refine pur_ 0 71 (bs 12 1) (any_of HT_.out kR) ?_
                  refine pur_ 3 74 (bs 12 9) (any_of HT_.out kR) ?_
                  refine pur_ 4 75 (bs 12 25) (any_of HT_.out kR) ?_
                  refine pur_ 5 76 (bs 12 57) (any_of HT_.out kR) ?_
                  refine tak_ 1 72 (bs 12 59) (take_ofW HT_.out HW_.out kR) hHeld ?_
                  refine tak_ 2 73 (bs 12 63) (take_ofW HT_.out HW_.out kR) hHeld ?_
                  refine tak_ 6 77 (bs 12 127) (take_ofW HT_.out HW_.out kR) hHeld ?_
                  refine join_ (σ := Nat) 1 #[true, true, true, true, true, true, true, true, true, true, true, false] (fun s_ => [(78, .int .i64 t221), (11, .pointer (some ⟨s_, 0, none⟩)), (79, .pointer (some (ad222.add ((t221).toNat * 3)))), (80, .agg #[.int .i64 ((rd_T45 l1_0 t221).f0), .bool ((rd_T45 l1_0 t221).f1), .slice A222_2 ((rd_T45 l1_0 t221).f2).length c222_2])]) (fun s_ w' => (w'.cell? ⟨gb203, 0, none⟩ = some (.slice (some ad222) l1_0.length c1_0) ∧ w'.cell? ⟨gb203, 1, none⟩ = some (.slice A1_1 l1_1.length c1_1) ∧ w'.cell? ⟨gb203, 2, none⟩ = some (.slice A1_2 l1_2.length c1_2) ∧ w'.cell? ⟨gb203, 3, none⟩ = some (.int .i64 a1_3) ∧ w'.cell? (ad220.add (x58_3).toNat) = some (.int .i64 (rd t209 x58_3)) ∧ w'.cell? (ad222.add ((t221).toNat * 3)) = some (.int .i64 ((rd_T45 l1_0 t221).f0)) ∧ w'.cell? ⟨(ad222.add ((t221).toNat * 3)).block, (ad222.add ((t221).toNat * 3)).off + 1, none⟩ = some (.bool ((rd_T45 l1_0 t221).f1)) ∧ w'.cell? ⟨(ad222.add ((t221).toNat * 3)).block, (ad222.add ((t221).toNat * 3)).off + 2, none⟩ = some (.slice A222_2 ((rd_T45 l1_0 t221).f2).length c222_2)) ∧ (Kd.R (Kd.int .i64) 3 w' w.heap.size (fun k_ => some k_ ≠ (.slice (some ad220) t209.length co27 : Value).ownBlock) (.slice (some ad216) t206.length co26) t206) ∧ (Kd.R (Kd.int .i64) 3 w' w.heap.size (fun k_ => some k_ ≠ (.slice (some ad216) t206.length co26 : Value).ownBlock) (.slice (some ad220) t209.length co27) t209) ∧ (w'.heap[gb202]? = some (.cells #[.slice (some ad218) l0_0.length c0_0, .slice A0_1 l0_1.length c0_1, .slice A0_2 l0_2.length c0_2, .int .i64 a0_3] 25 (0, 0))) ∧ (w'.heap[gb203]? = some (.cells #[.slice (some ad222) l1_0.length c1_0, .slice A1_1 l1_1.length c1_1, .slice A1_2 l1_2.length c1_2, .int .i64 a1_3] 25 (0, 0))) ∧ (w'.heap[gb219]? = some (.cells #[.int .i64 ((rd_T45 l0_0 t217).f0), .bool ((rd_T45 l0_0 t217).f1), .slice A218_2 ((rd_T45 l0_0 t217).f2).length c218_2] 45 (0, 0))) ∧ (w'.heap[s_]? = some (.cells #[.int .i64 0, .bool false, .slice none 0 0] 45 (0, 0))) ∧ (w.heap.size ≤ s_) ∧ (w.heap.size ≤ s_) ∧ (gb202 ≠ s_) ∧ (s_ ≠ gb202) ∧ (gb203 ≠ s_) ∧ (s_ ≠ gb203) ∧ (gb219 ≠ s_) ∧ (s_ ≠ gb219) ∧ (Below w.heap.size w w')) ?_ ?_
                  rotate_left
                  ·intro hCont
                   refine two_ (i := 7) (j := 10) (Ni := some 78) (Nj := some 11) (bs 12 255) (bs 12 1151) rfl rfl rfl rfl (two_of HT_.out (by kernel_rfl)) (by decide) (by decide) (fun K hK => ?_) (fun K hK => ?_)
                   ·skip
                    refine goes_ Try.func39 (by kernel_rfl) rfl #[.agg #[.slice (some ad222) l1_0.length c1_0, .slice A1_1 l1_1.length c1_1, .slice A1_2 l1_2.length c1_2, .int .i64 a1_3], .int .i64 (rd t209 x58_3)] (by rfl) rfl rfl (by (try simp only [List.map_toArray, List.map_cons, List.map_nil]); first | done | rfl | (simp only [List.length_drop, List.length_take]; rfl)) ?_
                    with_reducible refine (spec_l14At.calls k3 _ _ l1_0 _ _ l1_1 _ _ l1_2 a1_3 (rd t209 x58_3) t221 _ ?side1 ?side2 ?side3 ?side4 ?side5 ?side6 A45.out).mono ?_
                    (case side1 => exact lC (Kd.C_below HR1_0.out HB.out))
                    (case side2 => exact HC1_0.out)
                    (case side3 => exact lC (Kd.C_below HR1_1.out HB.out))
                    (case side4 => exact HC1_1.out)
                    (case side5 => exact lC (Kd.C_below HR1_2.out HB.out))
                    (case side6 => exact HC1_2.out)
                    rintro e w57 ⟨rfl, hb⟩
                    have HS4_ := (hb.cell (World.block_lt_of_cell? _ _ (hHeld.2.2.2.2.1))).trans (hHeld.2.2.2.2.1)
                    refine ⟨_, rfl, ?_⟩
                    have n0_ := Aside0.mk (Kd.R_below (lR HO_6.out) hb)
                    have n1_ := Aside0.mk (Kd.R_below (lR HO_7.out) hb)
                    have n2_ := Aside0.mk (blk_below (lK BK202.out) hb)
                    have n3_ := Aside0.mk (blk_below (lK BK203.out) hb)
                    have n4_ := Aside0.mk (blk_below (lK BK219.out) hb)
                    have n5_ := Aside0.mk (below_step lB hb)
                    clear HO_6
                    clear HO_7
                    clear BK202
                    clear BK203
                    clear BK219
                    clear HB
                    have HO_6 := n0_
                    have HO_7 := n1_
                    have BK202 := n2_
                    have BK203 := n3_
                    have BK219 := n4_
                    have HB := n5_
                    clear n0_ n1_ n2_ n3_ n4_ n5_
                    (try clear hb)
                    (try clear hb2)
                    (try clear hk)
                    (try clear hi)
                    refine hK.out _ _ ⟨bZ BK203.out 0, bZ BK203.out 1, bZ BK203.out 2, bZ BK203.out 3, HS4_, ((HB.out.cell (World.block_lt_of_cell? w _ hw222_0)).trans hw222_0), ((HB.out.cell (World.block_lt_of_cell? w _ hw222_1)).trans hw222_1), ((HB.out.cell (World.block_lt_of_cell? w _ hw222_2)).trans hw222_2)⟩ (fun hHeld => ?_)
                    clear hK K
                    refine norm_ (a' := ?_) ?_ ?_
                    rotate_left
                    ·show Act.put _ (some 78) _ = _
                     simp only [Act.put, List.setIfInBounds_toArray, List.set_cons_zero, List.set_cons_succ, i64_w, i32_w]
                     rfl
                    refine pur_ 8 79 (bs 12 511) (any_of HT_.out kR) ?_
                    refine tak_ 9 80 (bs 12 1023) (take_ofW HT_.out HW_.out kR) hHeld ?_
                    refine one_ (i := 10) (N := some 11) (bs 12 2047) rfl rfl (one_of HT_.out (by kernel_rfl)) (by decide) (fun K hK => ?_)
                    refine box_step ?hg (N := 11) ?hd (cs := #[.int .i64 0, .bool false, .slice none 0 0]) (t := 45) ?hr ?_; (case hd => rfl); (case hg => rfl); (case hr => first | (go_simp; done) | (go_simp; rfl))
                    intro gb223 hg w58 hbox hb
                    have HS4_ := (hb.cell (World.block_lt_of_cell? _ _ (hHeld.2.2.2.2.1))).trans (hHeld.2.2.2.2.1)
                    have n0_ := Aside0.mk (Kd.R_below (lR HO_6.out) hb)
                    have n1_ := Aside0.mk (Kd.R_below (lR HO_7.out) hb)
                    have n2_ := Aside0.mk (blk_below (lK BK202.out) hb)
                    have n3_ := Aside0.mk (blk_below (lK BK203.out) hb)
                    have n4_ := Aside0.mk (blk_below (lK BK219.out) hb)
                    have n5_ := Aside0.mk (below_step lB hb)
                    have n6_ := Aside0.mk (hbox)
                    have n7_ := lG w hg
                    have n8_ := lG w hg
                    have n9_ := Aside0.mk ((by rw [hg]; exact Nat.ne_of_lt (blk_lt (lK BK202.out)) : gb202 ≠ gb223))
                    have n10_ := Aside0.mk ((by rw [hg]; exact Nat.ne_of_gt (blk_lt (lK BK202.out)) : gb223 ≠ gb202))
                    have n11_ := Aside0.mk ((by rw [hg]; exact Nat.ne_of_lt (blk_lt (lK BK203.out)) : gb203 ≠ gb223))
                    have n12_ := Aside0.mk ((by rw [hg]; exact Nat.ne_of_gt (blk_lt (lK BK203.out)) : gb223 ≠ gb203))
                    have n13_ := Aside0.mk ((by rw [hg]; exact Nat.ne_of_lt (blk_lt (lK BK219.out)) : gb219 ≠ gb223))
                    have n14_ := Aside0.mk ((by rw [hg]; exact Nat.ne_of_gt (blk_lt (lK BK219.out)) : gb223 ≠ gb219))
                    clear HO_6
                    clear HO_7
                    clear BK202
                    clear BK203
                    clear BK219
                    clear HB
                    have HO_6 := n0_
                    have HO_7 := n1_
                    have BK202 := n2_
                    have BK203 := n3_
                    have BK219 := n4_
                    have HB := n5_
                    have BK223 := n6_
                    have GW223 := n7_
                    have GE223 := n8_
                    have NB202_223 := n9_
                    have NB223_202 := n10_
                    have NB203_223 := n11_
                    have NB223_203 := n12_
                    have NB219_223 := n13_
                    have NB223_219 := n14_
                    clear n0_ n1_ n2_ n3_ n4_ n5_ n6_ n7_ n8_ n9_ n10_ n11_ n12_ n13_ n14_
                    clear hb hbox hg
                    refine hK.out _ _ ⟨bZ BK203.out 0, bZ BK203.out 1, bZ BK203.out 2, bZ BK203.out 3, HS4_, ((HB.out.cell (World.block_lt_of_cell? w _ hw222_0)).trans hw222_0), ((HB.out.cell (World.block_lt_of_cell? w _ hw222_1)).trans hw222_1), ((HB.out.cell (World.block_lt_of_cell? w _ hw222_2)).trans hw222_2)⟩ (fun hHeld => ?_)
                    clear hK K
                    refine norm_ (a' := ?_) ?_ ?_
                    rotate_left
                    ·show Act.put _ (some 11) _ = _
                     simp only [Act.put, List.setIfInBounds_toArray, List.set_cons_zero, List.set_cons_succ, i64_w, i32_w]
                     rfl
                    exact norm_ (by simp only [putAll, Act.put, List.setIfInBounds_toArray, List.set_cons_zero, List.set_cons_succ]) (hCont (gb223) _ ⟨hHeld, (lR HO_6.out), (lR HO_7.out), (lK BK202.out), (lK BK203.out), (lK BK219.out), (lK BK223.out), GW223.out, GE223.out, NB202_223.out, NB223_202.out, NB203_223.out, NB223_203.out, NB219_223.out, NB223_219.out, lB⟩)
                   ·skip
                    refine box_step ?hg (N := 11) ?hd (cs := #[.int .i64 0, .bool false, .slice none 0 0]) (t := 45) ?hr ?_; (case hd => rfl); (case hg => rfl); (case hr => first | (go_simp; done) | (go_simp; rfl))
                    intro gb223 hg w57 hbox hb
                    have HS4_ := (hb.cell (World.block_lt_of_cell? _ _ (hHeld.2.2.2.2.1))).trans (hHeld.2.2.2.2.1)
                    have n0_ := Aside0.mk (Kd.R_below (lR HO_6.out) hb)
                    have n1_ := Aside0.mk (Kd.R_below (lR HO_7.out) hb)
                    have n2_ := Aside0.mk (blk_below (lK BK202.out) hb)
                    have n3_ := Aside0.mk (blk_below (lK BK203.out) hb)
                    have n4_ := Aside0.mk (blk_below (lK BK219.out) hb)
                    have n5_ := Aside0.mk (below_step lB hb)
                    have n6_ := Aside0.mk (hbox)
                    have n7_ := lG w hg
                    have n8_ := lG w hg
                    have n9_ := Aside0.mk ((by rw [hg]; exact Nat.ne_of_lt (blk_lt (lK BK202.out)) : gb202 ≠ gb223))
                    have n10_ := Aside0.mk ((by rw [hg]; exact Nat.ne_of_gt (blk_lt (lK BK202.out)) : gb223 ≠ gb202))
                    have n11_ := Aside0.mk ((by rw [hg]; exact Nat.ne_of_lt (blk_lt (lK BK203.out)) : gb203 ≠ gb223))
                    have n12_ := Aside0.mk ((by rw [hg]; exact Nat.ne_of_gt (blk_lt (lK BK203.out)) : gb223 ≠ gb203))
                    have n13_ := Aside0.mk ((by rw [hg]; exact Nat.ne_of_lt (blk_lt (lK BK219.out)) : gb219 ≠ gb223))
                    have n14_ := Aside0.mk ((by rw [hg]; exact Nat.ne_of_gt (blk_lt (lK BK219.out)) : gb223 ≠ gb219))
                    clear HO_6
                    clear HO_7
                    clear BK202
                    clear BK203
                    clear BK219
                    clear HB
                    have HO_6 := n0_
                    have HO_7 := n1_
                    have BK202 := n2_
                    have BK203 := n3_
                    have BK219 := n4_
                    have HB := n5_
                    have BK223 := n6_
                    have GW223 := n7_
                    have GE223 := n8_
                    have NB202_223 := n9_
                    have NB223_202 := n10_
                    have NB203_223 := n11_
                    have NB223_203 := n12_
                    have NB219_223 := n13_
                    have NB223_219 := n14_
                    clear n0_ n1_ n2_ n3_ n4_ n5_ n6_ n7_ n8_ n9_ n10_ n11_ n12_ n13_ n14_
                    clear hb hbox hg
                    refine hK.out _ _ ⟨bZ BK203.out 0, bZ BK203.out 1, bZ BK203.out 2, bZ BK203.out 3, HS4_, ((HB.out.cell (World.block_lt_of_cell? w _ hw222_0)).trans hw222_0), ((HB.out.cell (World.block_lt_of_cell? w _ hw222_1)).trans hw222_1), ((HB.out.cell (World.block_lt_of_cell? w _ hw222_2)).trans hw222_2)⟩ (fun hHeld => ?_)
                    clear hK K
                    refine norm_ (a' := ?_) ?_ ?_
                    rotate_left
                    ·show Act.put _ (some 11) _ = _
                     simp only [Act.put, List.setIfInBounds_toArray, List.set_cons_zero, List.set_cons_succ, i64_w, i32_w]
                     rfl
                    refine one_ (i := 7) (N := some 78) (bs 12 1279) rfl rfl (one_of HT_.out (by kernel_rfl)) (by decide) (fun K hK => ?_)
                    refine goes_ Try.func39 (by kernel_rfl) rfl #[.agg #[.slice (some ad222) l1_0.length c1_0, .slice A1_1 l1_1.length c1_1, .slice A1_2 l1_2.length c1_2, .int .i64 a1_3], .int .i64 (rd t209 x58_3)] (by rfl) rfl rfl (by (try simp only [List.map_toArray, List.map_cons, List.map_nil]); first | done | rfl | (simp only [List.length_drop, List.length_take]; rfl)) ?_
                    with_reducible refine (spec_l14At.calls k3 _ _ l1_0 _ _ l1_1 _ _ l1_2 a1_3 (rd t209 x58_3) t221 _ ?side1 ?side2 ?side3 ?side4 ?side5 ?side6 A45.out).mono ?_
                    (case side1 => exact lC (Kd.C_below HR1_0.out HB.out))
                    (case side2 => exact HC1_0.out)
                    (case side3 => exact lC (Kd.C_below HR1_1.out HB.out))
                    (case side4 => exact HC1_1.out)
                    (case side5 => exact lC (Kd.C_below HR1_2.out HB.out))
                    (case side6 => exact HC1_2.out)
                    rintro e w58 ⟨rfl, hb⟩
                    have HS4_ := (hb.cell (World.block_lt_of_cell? _ _ (hHeld.2.2.2.2.1))).trans (hHeld.2.2.2.2.1)
                    refine ⟨_, rfl, ?_⟩
                    have n0_ := Aside0.mk (Kd.R_below (lR HO_6.out) hb)
                    have n1_ := Aside0.mk (Kd.R_below (lR HO_7.out) hb)
                    have n2_ := Aside0.mk (blk_below (lK BK202.out) hb)
                    have n3_ := Aside0.mk (blk_below (lK BK203.out) hb)
                    have n4_ := Aside0.mk (blk_below (lK BK219.out) hb)
                    have n5_ := Aside0.mk (blk_below (lK BK223.out) hb)
                    have n6_ := Aside0.mk (below_step lB hb)
                    clear HO_6
                    clear HO_7
                    clear BK202
                    clear BK203
                    clear BK219
                    clear BK223
                    clear HB
                    have HO_6 := n0_
                    have HO_7 := n1_
                    have BK202 := n2_
                    have BK203 := n3_
                    have BK219 := n4_
                    have BK223 := n5_
                    have HB := n6_
                    clear n0_ n1_ n2_ n3_ n4_ n5_ n6_
                    (try clear hb)
                    (try clear hb2)
                    (try clear hk)
                    (try clear hi)
                    refine hK.out _ _ ⟨bZ BK203.out 0, bZ BK203.out 1, bZ BK203.out 2, bZ BK203.out 3, HS4_, ((HB.out.cell (World.block_lt_of_cell? w _ hw222_0)).trans hw222_0), ((HB.out.cell (World.block_lt_of_cell? w _ hw222_1)).trans hw222_1), ((HB.out.cell (World.block_lt_of_cell? w _ hw222_2)).trans hw222_2)⟩ (fun hHeld => ?_)
                    clear hK K
                    refine norm_ (a' := ?_) ?_ ?_
                    rotate_left
                    ·show Act.put _ (some 78) _ = _
                     simp only [Act.put, List.setIfInBounds_toArray, List.set_cons_zero, List.set_cons_succ, i64_w, i32_w]
                     rfl
                    refine pur_ 8 79 (bs 12 1535) (any_of HT_.out kR) ?_
                    refine tak_ 9 80 (bs 12 2047) (take_ofW HT_.out HW_.out kR) hHeld ?_
                    exact norm_ (by simp only [putAll, Act.put, List.setIfInBounds_toArray, List.set_cons_zero, List.set_cons_succ]) (hCont (gb223) _ ⟨hHeld, (lR HO_6.out), (lR HO_7.out), (lK BK202.out), (lK BK203.out), (lK BK219.out), (lK BK223.out), GW223.out, GE223.out, NB202_223.out, NB223_202.out, NB203_223.out, NB223_203.out, NB219_223.out, NB223_219.out, lB⟩)
                  rintro gb223 w59 ⟨hS_, h0_, h1_, h2_, h3_, h4_, h5_, h6_, h7_, h8_, h9_, h10_, h11_, h12_, h13_, h14_⟩
                  have n0_ : Aside0 (Kd.R (Kd.int .i64) 3 w59 w.heap.size (fun k_ => some k_ ≠ (.slice (some ad220) t209.length co27 : Value).ownBlock) (.slice (some ad216) t206.length co26) t206) := ⟨h0_⟩
                  have n1_ : Aside0 (Kd.R (Kd.int .i64) 3 w59 w.heap.size (fun k_ => some k_ ≠ (.slice (some ad216) t206.length co26 : Value).ownBlock) (.slice (some ad220) t209.length co27) t209) := ⟨h1_⟩
                  have n2_ : Aside0 (w59.heap[gb202]? = some (.cells #[.slice (some ad218) l0_0.length c0_0, .slice A0_1 l0_1.length c0_1, .slice A0_2 l0_2.length c0_2, .int .i64 a0_3] 25 (0, 0))) := ⟨h2_⟩
                  have n3_ : Aside0 (w59.heap[gb203]? = some (.cells #[.slice (some ad222) l1_0.length c1_0, .slice A1_1 l1_1.length c1_1, .slice A1_2 l1_2.length c1_2, .int .i64 a1_3] 25 (0, 0))) := ⟨h3_⟩
                  have n4_ : Aside0 (w59.heap[gb219]? = some (.cells #[.int .i64 ((rd_T45 l0_0 t217).f0), .bool ((rd_T45 l0_0 t217).f1), .slice A218_2 ((rd_T45 l0_0 t217).f2).length c218_2] 45 (0, 0))) := ⟨h4_⟩
                  have n5_ : Aside0 (w59.heap[gb223]? = some (.cells #[.int .i64 0, .bool false, .slice none 0 0] 45 (0, 0))) := ⟨h5_⟩
                  have n6_ : Aside0 (w.heap.size ≤ gb223) := ⟨h6_⟩
                  have n7_ : Aside0 (w.heap.size ≤ gb223) := ⟨h7_⟩
                  have n8_ : Aside0 (gb202 ≠ gb223) := ⟨h8_⟩
                  have n9_ : Aside0 (gb223 ≠ gb202) := ⟨h9_⟩
                  have n10_ : Aside0 (gb203 ≠ gb223) := ⟨h10_⟩
                  have n11_ : Aside0 (gb223 ≠ gb203) := ⟨h11_⟩
                  have n12_ : Aside0 (gb219 ≠ gb223) := ⟨h12_⟩
                  have n13_ : Aside0 (gb223 ≠ gb219) := ⟨h13_⟩
                  have n14_ : Aside0 (Below w.heap.size w w59) := ⟨h14_⟩
                  clear HO_6
                  clear HO_7
                  clear BK202
                  clear BK203
                  clear BK219
                  clear HB
                  clear h0_ h1_ h2_ h3_ h4_ h5_ h6_ h7_ h8_ h9_ h10_ h11_ h12_ h13_ h14_
                  have HO_6 := n0_
                  have HO_7 := n1_
                  have BK202 := n2_
                  have BK203 := n3_
                  have BK219 := n4_
                  have BK223 := n5_
                  have GW223 := n6_
                  have GE223 := n7_
                  have NB202_223 := n8_
                  have NB223_202 := n9_
                  have NB203_223 := n10_
                  have NB223_203 := n11_
                  have NB219_223 := n12_
                  have NB223_219 := n13_
                  have HB := n14_
                  clear n0_ n1_ n2_ n3_ n4_ n5_ n6_ n7_ n8_ n9_ n10_ n11_ n12_ n13_ n14_
                  have hHeld : w59.cell? ⟨gb203, 0, none⟩ = some (.slice (some ad222) l1_0.length c1_0) ∧ w59.cell? ⟨gb203, 1, none⟩ = some (.slice A1_1 l1_1.length c1_1) ∧ w59.cell? ⟨gb203, 2, none⟩ = some (.slice A1_2 l1_2.length c1_2) ∧ w59.cell? ⟨gb203, 3, none⟩ = some (.int .i64 a1_3) ∧ w59.cell? (ad220.add (x58_3).toNat) = some (.int .i64 (rd t209 x58_3)) ∧ w59.cell? (ad222.add ((t221).toNat * 3)) = some (.int .i64 ((rd_T45 l1_0 t221).f0)) ∧ w59.cell? ⟨(ad222.add ((t221).toNat * 3)).block, (ad222.add ((t221).toNat * 3)).off + 1, none⟩ = some (.bool ((rd_T45 l1_0 t221).f1)) ∧ w59.cell? ⟨(ad222.add ((t221).toNat * 3)).block, (ad222.add ((t221).toNat * 3)).off + 2, none⟩ = some (.slice A222_2 ((rd_T45 l1_0 t221).f2).length c222_2) := hS_
                  refine norm_ (a' := ?_) ?_ ?_
                  rotate_left
                  ·simp only [putAll, Act.put, List.setIfInBounds_toArray, List.set_cons_zero, List.set_cons_succ]
                   rfl
                  refine one_ (i := 11) (N := none) (bs 12 4095) rfl rfl (one_of HT_.out (by kernel_rfl)) (by decide) (fun K hK => ?_)
                  have hs60 : w59.cell? ⟨gb223, 0, none⟩ = some (.int .i64 0) := bZ BK223.out 0
                  have hfs60 := blk_frozen BK223.out 0
                  have hns60_0 := NB202_223.out
                  have hns60_1 := NB203_223.out
                  have hns60_2 := NB219_223.out
                  have hms60_0 := NB223_202.out
                  have hms60_1 := NB223_203.out
                  have hms60_2 := NB223_219.out
                  have hs61 : w59.cell? ⟨gb223, 1, none⟩ = some (.bool false) := bZ BK223.out 1
                  have hfs61 := blk_frozen BK223.out 1
                  have hns61_0 := NB202_223.out
                  have hns61_1 := NB203_223.out
                  have hns61_2 := NB219_223.out
                  have hms61_0 := NB223_202.out
                  have hms61_1 := NB223_203.out
                  have hms61_2 := NB223_219.out
                  have hs62 : w59.cell? ⟨gb223, 2, none⟩ = some (.slice none 0 0) := bZ BK223.out 2
                  have hfs62 := blk_frozen BK223.out 2
                  have hns62_0 := NB202_223.out
                  have hns62_1 := NB203_223.out
                  have hns62_2 := NB219_223.out
                  have hms62_0 := NB223_202.out
                  have hms62_1 := NB223_203.out
                  have hms62_2 := NB223_219.out
                  refine skip_ (w1 := ?_) (by rfl) rfl ?_ ?_
                  rotate_left
                  ·go_simp
                   rfl
                  refine hK.out _ _ ⟨((cell_far (p := ⟨gb223, _, none⟩) NB203_223.out _).trans (((cell_far (p := ⟨gb223, _, none⟩) NB203_223.out _).trans (((cell_far (p := ⟨gb223, _, none⟩) NB203_223.out _).trans (hHeld.1)))))), ((cell_far (p := ⟨gb223, _, none⟩) NB203_223.out _).trans (((cell_far (p := ⟨gb223, _, none⟩) NB203_223.out _).trans (((cell_far (p := ⟨gb223, _, none⟩) NB203_223.out _).trans (hHeld.2.1)))))), ((cell_far (p := ⟨gb223, _, none⟩) NB203_223.out _).trans (((cell_far (p := ⟨gb223, _, none⟩) NB203_223.out _).trans (((cell_far (p := ⟨gb223, _, none⟩) NB203_223.out _).trans (hHeld.2.2.1)))))), ((cell_far (p := ⟨gb223, _, none⟩) NB203_223.out _).trans (((cell_far (p := ⟨gb223, _, none⟩) NB203_223.out _).trans (((cell_far (p := ⟨gb223, _, none⟩) NB203_223.out _).trans (hHeld.2.2.2.1)))))), ((cell_far (p := ⟨gb223, _, none⟩) (by first | exact Kd.own_blk (Kd.R_ne HO_7.out BK223.out (by decide)) | (rw [add_block]; exact Kd.own_blk (Kd.R_ne HO_7.out BK223.out (by decide))) | (show (Addr.add _ _).block ≠ _; rw [add_block]; exact Kd.own_blk (Kd.R_ne HO_7.out BK223.out (by decide))) | (dsimp only; exact Kd.own_blk (Kd.R_ne HO_7.out BK223.out (by decide)))) _).trans (((cell_far (p := ⟨gb223, _, none⟩) (by first | exact Kd.own_blk (Kd.R_ne HO_7.out BK223.out (by decide)) | (rw [add_block]; exact Kd.own_blk (Kd.R_ne HO_7.out BK223.out (by decide))) | (show (Addr.add _ _).block ≠ _; rw [add_block]; exact Kd.own_blk (Kd.R_ne HO_7.out BK223.out (by decide))) | (dsimp only; exact Kd.own_blk (Kd.R_ne HO_7.out BK223.out (by decide)))) _).trans (((cell_far (p := ⟨gb223, _, none⟩) (by first | exact Kd.own_blk (Kd.R_ne HO_7.out BK223.out (by decide)) | (rw [add_block]; exact Kd.own_blk (Kd.R_ne HO_7.out BK223.out (by decide))) | (show (Addr.add _ _).block ≠ _; rw [add_block]; exact Kd.own_blk (Kd.R_ne HO_7.out BK223.out (by decide))) | (dsimp only; exact Kd.own_blk (Kd.R_ne HO_7.out BK223.out (by decide)))) _).trans (hHeld.2.2.2.2.1)))))), ((cell_far (p := ⟨gb223, _, none⟩) (by first | exact Nat.ne_of_lt (Nat.lt_of_lt_of_le (by have := World.block_lt_of_cell? _ _ hw222_0; first | rwa [add_block] at this | exact this) GW223.out) | (rw [add_block]; exact Nat.ne_of_lt (Nat.lt_of_lt_of_le (by have := World.block_lt_of_cell? _ _ hw222_0; first | rwa [add_block] at this | exact this) GW223.out)) | (show (Addr.add _ _).block ≠ _; rw [add_block]; exact Nat.ne_of_lt (Nat.lt_of_lt_of_le (by have := World.block_lt_of_cell? _ _ hw222_0; first | rwa [add_block] at this | exact this) GW223.out)) | (dsimp only; exact Nat.ne_of_lt (Nat.lt_of_lt_of_le (by have := World.block_lt_of_cell? _ _ hw222_0; first | rwa [add_block] at this | exact this) GW223.out))) _).trans (((cell_far (p := ⟨gb223, _, none⟩) (by first | exact Nat.ne_of_lt (Nat.lt_of_lt_of_le (by have := World.block_lt_of_cell? _ _ hw222_0; first | rwa [add_block] at this | exact this) GW223.out) | (rw [add_block]; exact Nat.ne_of_lt (Nat.lt_of_lt_of_le (by have := World.block_lt_of_cell? _ _ hw222_0; first | rwa [add_block] at this | exact this) GW223.out)) | (show (Addr.add _ _).block ≠ _; rw [add_block]; exact Nat.ne_of_lt (Nat.lt_of_lt_of_le (by have := World.block_lt_of_cell? _ _ hw222_0; first | rwa [add_block] at this | exact this) GW223.out)) | (dsimp only; exact Nat.ne_of_lt (Nat.lt_of_lt_of_le (by have := World.block_lt_of_cell? _ _ hw222_0; first | rwa [add_block] at this | exact this) GW223.out))) _).trans (((cell_far (p := ⟨gb223, _, none⟩) (by first | exact Nat.ne_of_lt (Nat.lt_of_lt_of_le (by have := World.block_lt_of_cell? _ _ hw222_0; first | rwa [add_block] at this | exact this) GW223.out) | (rw [add_block]; exact Nat.ne_of_lt (Nat.lt_of_lt_of_le (by have := World.block_lt_of_cell? _ _ hw222_0; first | rwa [add_block] at this | exact this) GW223.out)) | (show (Addr.add _ _).block ≠ _; rw [add_block]; exact Nat.ne_of_lt (Nat.lt_of_lt_of_le (by have := World.block_lt_of_cell? _ _ hw222_0; first | rwa [add_block] at this | exact this) GW223.out)) | (dsimp only; exact Nat.ne_of_lt (Nat.lt_of_lt_of_le (by have := World.block_lt_of_cell? _ _ hw222_0; first | rwa [add_block] at this | exact this) GW223.out))) _).trans (hHeld.2.2.2.2.2.1)))))), ((cell_far (p := ⟨gb223, _, none⟩) (by first | exact Nat.ne_of_lt (Nat.lt_of_lt_of_le (by have := World.block_lt_of_cell? _ _ hw222_1; first | rwa [add_block] at this | exact this) GW223.out) | (rw [add_block]; exact Nat.ne_of_lt (Nat.lt_of_lt_of_le (by have := World.block_lt_of_cell? _ _ hw222_1; first | rwa [add_block] at this | exact this) GW223.out)) | (show (Addr.add _ _).block ≠ _; rw [add_block]; exact Nat.ne_of_lt (Nat.lt_of_lt_of_le (by have := World.block_lt_of_cell? _ _ hw222_1; first | rwa [add_block] at this | exact this) GW223.out)) | (dsimp only; exact Nat.ne_of_lt (Nat.lt_of_lt_of_le (by have := World.block_lt_of_cell? _ _ hw222_1; first | rwa [add_block] at this | exact this) GW223.out))) _).trans (((cell_far (p := ⟨gb223, _, none⟩) (by first | exact Nat.ne_of_lt (Nat.lt_of_lt_of_le (by have := World.block_lt_of_cell? _ _ hw222_1; first | rwa [add_block] at this | exact this) GW223.out) | (rw [add_block]; exact Nat.ne_of_lt (Nat.lt_of_lt_of_le (by have := World.block_lt_of_cell? _ _ hw222_1; first | rwa [add_block] at this | exact this) GW223.out)) | (show (Addr.add _ _).block ≠ _; rw [add_block]; exact Nat.ne_of_lt (Nat.lt_of_lt_of_le (by have := World.block_lt_of_cell? _ _ hw222_1; first | rwa [add_block] at this | exact this) GW223.out)) | (dsimp only; exact Nat.ne_of_lt (Nat.lt_of_lt_of_le (by have := World.block_lt_of_cell? _ _ hw222_1; first | rwa [add_block] at this | exact this) GW223.out))) _).trans (((cell_far (p := ⟨gb223, _, none⟩) (by first | exact Nat.ne_of_lt (Nat.lt_of_lt_of_le (by have := World.block_lt_of_cell? _ _ hw222_1; first | rwa [add_block] at this | exact this) GW223.out) | (rw [add_block]; exact Nat.ne_of_lt (Nat.lt_of_lt_of_le (by have := World.block_lt_of_cell? _ _ hw222_1; first | rwa [add_block] at this | exact this) GW223.out)) | (show (Addr.add _ _).block ≠ _; rw [add_block]; exact Nat.ne_of_lt (Nat.lt_of_lt_of_le (by have := World.block_lt_of_cell? _ _ hw222_1; first | rwa [add_block] at this | exact this) GW223.out)) | (dsimp only; exact Nat.ne_of_lt (Nat.lt_of_lt_of_le (by have := World.block_lt_of_cell? _ _ hw222_1; first | rwa [add_block] at this | exact this) GW223.out))) _).trans (hHeld.2.2.2.2.2.2.1)))))), ((cell_far (p := ⟨gb223, _, none⟩) (by first | exact Nat.ne_of_lt (Nat.lt_of_lt_of_le (by have := World.block_lt_of_cell? _ _ hw222_2; first | rwa [add_block] at this | exact this) GW223.out) | (rw [add_block]; exact Nat.ne_of_lt (Nat.lt_of_lt_of_le (by have := World.block_lt_of_cell? _ _ hw222_2; first | rwa [add_block] at this | exact this) GW223.out)) | (show (Addr.add _ _).block ≠ _; rw [add_block]; exact Nat.ne_of_lt (Nat.lt_of_lt_of_le (by have := World.block_lt_of_cell? _ _ hw222_2; first | rwa [add_block] at this | exact this) GW223.out)) | (dsimp only; exact Nat.ne_of_lt (Nat.lt_of_lt_of_le (by have := World.block_lt_of_cell? _ _ hw222_2; first | rwa [add_block] at this | exact this) GW223.out))) _).trans (((cell_far (p := ⟨gb223, _, none⟩) (by first | exact Nat.ne_of_lt (Nat.lt_of_lt_of_le (by have := World.block_lt_of_cell? _ _ hw222_2; first | rwa [add_block] at this | exact this) GW223.out) | (rw [add_block]; exact Nat.ne_of_lt (Nat.lt_of_lt_of_le (by have := World.block_lt_of_cell? _ _ hw222_2; first | rwa [add_block] at this | exact this) GW223.out)) | (show (Addr.add _ _).block ≠ _; rw [add_block]; exact Nat.ne_of_lt (Nat.lt_of_lt_of_le (by have := World.block_lt_of_cell? _ _ hw222_2; first | rwa [add_block] at this | exact this) GW223.out)) | (dsimp only; exact Nat.ne_of_lt (Nat.lt_of_lt_of_le (by have := World.block_lt_of_cell? _ _ hw222_2; first | rwa [add_block] at this | exact this) GW223.out))) _).trans (((cell_far (p := ⟨gb223, _, none⟩) (by first | exact Nat.ne_of_lt (Nat.lt_of_lt_of_le (by have := World.block_lt_of_cell? _ _ hw222_2; first | rwa [add_block] at this | exact this) GW223.out) | (rw [add_block]; exact Nat.ne_of_lt (Nat.lt_of_lt_of_le (by have := World.block_lt_of_cell? _ _ hw222_2; first | rwa [add_block] at this | exact this) GW223.out)) | (show (Addr.add _ _).block ≠ _; rw [add_block]; exact Nat.ne_of_lt (Nat.lt_of_lt_of_le (by have := World.block_lt_of_cell? _ _ hw222_2; first | rwa [add_block] at this | exact this) GW223.out)) | (dsimp only; exact Nat.ne_of_lt (Nat.lt_of_lt_of_le (by have := World.block_lt_of_cell? _ _ hw222_2; first | rwa [add_block] at this | exact this) GW223.out))) _).trans (hHeld.2.2.2.2.2.2.2))))))⟩ (fun hHeld => ?_)
                  clear hK K
                  refine done_ (done_of HT_.out (by kernel_rfl)) ?_
                  have hnb63 := NB219_202.out
                  have hnc63 := NB202_219.out
                  have hnb64 := NB219_203.out
                  have hnc64 := NB203_219.out
                  have hnb65 := NB219_223.out
                  have hnc65 := NB223_219.out
                  obtain ⟨hcz66_0, hfz66_0, hcz66_1, hfz66_1, hcz66_2, hfz66_2⟩ := bk3 BK219.out
                  try go_wp2
                  go_loopg [84] k3 (fun kq v84 w' => ∃ (x84_4 : Int), v84 = .int .i64 x84_4 ∧ Aside0 (spec_SameShape.l2 kq t206 t209 (t206.length : Int) x58_3 (((rd_T45 l0_0 t217).f2).length : Int) x84_4 l0_0 l0_1 l0_2 a0_3 l1_0 l1_1 l1_2 a1_3 ((rd_T45 l0_0 t217).f0) ((rd_T45 l0_0 t217).f1) ((rd_T45 l0_0 t217).f2) ((rd_T45 l1_0 t221).f0) ((rd_T45 l1_0 t221).f1) ((rd_T45 l1_0 t221).f2) = some (r1, r2)) ∧ Aside0 (kq ≤ k3) ∧ Aside0 (Kd.R (Kd.int .i64) 3 w' w.heap.size (fun k_ => some k_ ≠ ((.slice (some ad220) t209.length co27) : Value).ownBlock) (.slice (some ad216) t206.length co26) t206) ∧ Aside0 (Kd.R (Kd.int .i64) 3 w' w.heap.size (fun k_ => some k_ ≠ ((.slice (some ad216) t206.length co26) : Value).ownBlock) (.slice (some ad220) t209.length co27) t209) ∧ Aside0 (w'.heap[gb202]? = some (.cells #[(.slice (some ad218) l0_0.length c0_0), (.slice A0_1 l0_1.length c0_1), (.slice A0_2 l0_2.length c0_2), .int .i64 a0_3] 25 (0, 0))) ∧ Aside0 (w'.heap[gb203]? = some (.cells #[(.slice (some ad222) l1_0.length c1_0), (.slice A1_1 l1_1.length c1_1), (.slice A1_2 l1_2.length c1_2), .int .i64 a1_3] 25 (0, 0))) ∧ Aside0 (w'.heap[gb219]? = some (.cells #[.int .i64 ((rd_T45 l0_0 t217).f0), .bool ((rd_T45 l0_0 t217).f1), (.slice A218_2 ((rd_T45 l0_0 t217).f2).length c218_2)] 45 (0, 0))) ∧ Aside0 (w'.heap[gb223]? = some (.cells #[.int .i64 ((rd_T45 l1_0 t221).f0), .bool ((rd_T45 l1_0 t221).f1), (.slice A222_2 ((rd_T45 l1_0 t221).f2).length c222_2)] 45 (0, 0))) ∧ Aside0 (Below w.heap.size w w'))
                  case atStart => exact ⟨(0), lF, H', ⟨Nat.le_refl _⟩, ⟨by (with_reducible repeat (first | apply Kd.R_alloc | apply Kd.R_drewN | apply Kd.R_drew)); exact Kd.R_mono (Kd.R_far (p := ⟨gb223, 2, none⟩) (Kd.R_far (p := ⟨gb223, 1, none⟩) (Kd.R_far (p := ⟨gb223, 0, none⟩) (Kd.R_types HO_6.out BK223.out (by decide)) (fun _ hk => hk.2) (.int .i64 ((rd_T45 l1_0 t221).f0))) (fun _ hk => hk.2) (.bool ((rd_T45 l1_0 t221).f1))) (fun _ hk => hk.2) (.slice A222_2 ((rd_T45 l1_0 t221).f2).length c222_2)) (fun _ hk => hk.1)⟩, ⟨by (with_reducible repeat (first | apply Kd.R_alloc | apply Kd.R_drewN | apply Kd.R_drew)); exact Kd.R_mono (Kd.R_far (p := ⟨gb223, 2, none⟩) (Kd.R_far (p := ⟨gb223, 1, none⟩) (Kd.R_far (p := ⟨gb223, 0, none⟩) (Kd.R_types HO_7.out BK223.out (by decide)) (fun _ hk => hk.2) (.int .i64 ((rd_T45 l1_0 t221).f0))) (fun _ hk => hk.2) (.bool ((rd_T45 l1_0 t221).f1))) (fun _ hk => hk.2) (.slice A222_2 ((rd_T45 l1_0 t221).f2).length c222_2)) (fun _ hk => hk.1)⟩, ⟨lJ BK202.out⟩, ⟨lJ BK203.out⟩, ⟨lJ BK219.out⟩, ⟨by (with_reducible repeat first | apply bN | apply bD | apply bA); refine blk_put (cs := #[.int .i64 ((rd_T45 l1_0 t221).f0), .bool ((rd_T45 l1_0 t221).f1), .slice none 0 0]) ?_ 2 _ rfl; (with_reducible repeat first | apply bN | apply bD | apply bA); refine blk_put (cs := #[.int .i64 ((rd_T45 l1_0 t221).f0), .bool false, .slice none 0 0]) ?_ 1 _ rfl; (with_reducible repeat first | apply bN | apply bD | apply bA); refine blk_put (cs := #[.int .i64 0, .bool false, .slice none 0 0]) ?_ 0 _ rfl; (with_reducible repeat first | apply bN | apply bD | apply bA); exact BK223.out⟩, ⟨lB⟩⟩
                  case round =>
                   clear H'
                   try clear c1
                   try clear c2
                   try clear p2
                   try clear q2
                   try clear hx2
                   try clear c3
                   try clear c6
                   try clear c21
                   try clear c22
                   try clear p22
                   try clear q22
                   try clear hx22
                   try clear c39
                   try clear c63
                   try clear c64
                   try clear c65
                   try clear hcz66_0 hcz66_1 hcz66_2 hfz66_0 hfz66_1 hfz66_2
                   try clear hx220_0
                   try clear hx222_0
                   try clear hx222_1
                   try clear hx222_2
                   try clear p220
                   try clear p222
                   try clear q220
                   try clear q222
                   obtain ⟨x84_4, rfl, HA, HK4, HO_6, HO_7, BK202, BK203, BK219, BK223, HB⟩ := hrel
                   cases gk with
                   | zero => exact absurd HA.out (by simp [spec_SameShape.l2])
                   | succ k4 =>
                    have H := HA.out
                    clear HA
                    simp only [spec_SameShape.l2] at H
                    by_cases c67 : x84_4 < (((rd_T45 l0_0 t217).f2).length : Int)
                    ·rw [if_pos c67] at H
                     have c67b0 : decide (x84_4 < (((rd_T45 l0_0 t217).f2).length : Int)) = true := decide_eq_true c67
                     clear c67
                     by_cases c68 : 0 ≤ x84_4
                     ·rw [if_pos c68] at H
                      have c68b0 : decide (0 ≤ x84_4) = true := decide_eq_true c68
                      clear c68
                      by_cases c69 : x84_4 < (((rd_T45 l0_0 t217).f2).length : Int)
                      ·rw [if_pos c69] at H
                       have c69b0 : decide (x84_4 < (((rd_T45 l0_0 t217).f2).length : Int)) = true := decide_eq_true c69
                       clear c69
                       replace H := lO H
                       obtain ⟨t225, A70, H⟩ := H
                       by_cases c71 : x84_4 < (((rd_T45 l1_0 t221).f2).length : Int)
                       ·rw [if_pos c71] at H
                        have c71b0 : decide (x84_4 < (((rd_T45 l1_0 t221).f2).length : Int)) = true := decide_eq_true c71
                        clear c71
                        replace H := lO H
                        obtain ⟨t227, A72, H⟩ := H
                        by_cases c73 : t225 = t227
                        ·rw [if_pos c73] at H
                         have c73b0 : (t225 == t227) = true := beq_iff_eq.mpr c73
                         have c73b1 : (t225 != t227) = false := bne_eq_false_iff_eq.mpr c73
                         clear c73
                         have H' := Aside0.mk H
                         clear H
                         try go_wp2
                         have n0_ := Aside0.mk (Kd.R_drew HO_6.out)
                         have n1_ := Aside0.mk (Kd.R_drew HO_7.out)
                         have n2_ := Aside0.mk (blk_drew BK202.out)
                         have n3_ := Aside0.mk (blk_drew BK203.out)
                         have n4_ := Aside0.mk (blk_drew BK219.out)
                         have n5_ := Aside0.mk (blk_drew BK223.out)
                         have n6_ := Aside0.mk (below_drew1 HB.out)
                         clear HO_6
                         clear HO_7
                         clear BK202
                         clear BK203
                         clear BK219
                         clear BK223
                         clear HB
                         have HO_6 := n0_
                         have HO_7 := n1_
                         have BK202 := n2_
                         have BK203 := n3_
                         have BK219 := n4_
                         have BK223 := n5_
                         have HB := n6_
                         clear n0_ n1_ n2_ n3_ n4_ n5_ n6_
                         have p224 : 0 ≤ (x84_4 : Int) := lD
                         have q224 : x84_4 < (((rd_T45 l0_0 t217).f2).length : Int) := lD
                         obtain ⟨ad224, e224, hx224_0⟩ := Kd.at_int HR218_2.out x84_4 p224 q224
                         have hw224_0 := hx224_0
                         cases e224
                         replace hx224_0 := pw_cell_below HB.out hx224_0
                         replace p224 := eq_true p224
                         replace q224 := eq_true q224
                         have p226 : 0 ≤ (x84_4 : Int) := lD
                         have q226 : x84_4 < (((rd_T45 l1_0 t221).f2).length : Int) := lD
                         obtain ⟨ad226, e226, hx226_0⟩ := Kd.at_int HR222_2.out x84_4 p226 q226
                         have hw226_0 := hx226_0
                         cases e226
                         replace hx226_0 := pw_cell_below HB.out hx226_0
                         replace p226 := eq_true p226
                         replace q226 := eq_true q226
                         refine start_ (n := 15) (S := fun w' => w'.cell? ⟨gb219, 0, none⟩ = some (.int .i64 ((rd_T45 l0_0 t217).f0)) ∧ w'.cell? ⟨gb219, 1, none⟩ = some (.bool ((rd_T45 l0_0 t217).f1)) ∧ w'.cell? ⟨gb219, 2, none⟩ = some (.slice (some ad224) ((rd_T45 l0_0 t217).f2).length c218_2) ∧ w'.cell? ⟨gb223, 0, none⟩ = some (.int .i64 ((rd_T45 l1_0 t221).f0)) ∧ w'.cell? ⟨gb223, 1, none⟩ = some (.bool ((rd_T45 l1_0 t221).f1)) ∧ w'.cell? ⟨gb223, 2, none⟩ = some (.slice (some ad226) ((rd_T45 l1_0 t221).f2).length c222_2) ∧ w'.cell? (ad224.add (x84_4).toNat) = some (.int .i64 (rd ((rd_T45 l0_0 t217).f2) x84_4)) ∧ w'.cell? (ad226.add (x84_4).toNat) = some (.int .i64 (rd ((rd_T45 l1_0 t221).f2) x84_4))) (ds := []) (bs 15 0) kR rfl kR ⟨bZ BK219.out 0, bZ BK219.out 1, bZ BK219.out 2, bZ BK223.out 0, bZ BK223.out 1, bZ BK223.out 2, ((HB.out.cell (World.block_lt_of_cell? w _ hw224_0)).trans hw224_0), ((HB.out.cell (World.block_lt_of_cell? w _ hw226_0)).trans hw226_0)⟩ (fun hHeld => ?_); refine with_tabW spec_SameShape.tab21 spec_SameShape.bits21 (fun HT_ HW_ => ?_)
                         generalize wr.drew = w74 at HO_6 HO_7 BK202 BK203 BK219 BK223 HB hx224_0 hx226_0 hHeld ⊢
                         refine pur_ 0 87 (bs 15 1) (any_of HT_.out kR) ?_
                         refine pur_ 1 88 (bs 15 3) (any_of HT_.out kR) ?_
                         refine pur_ 3 90 (bs 15 11) (any_of HT_.out kR) ?_
                         refine pur_ 7 94 (bs 15 139) (any_of HT_.out kR) ?_
                         refine pur_ 8 95 (bs 15 395) (any_of HT_.out kR) ?_
                         refine pur_ 10 97 (bs 15 1419) (any_of HT_.out kR) ?_
                         refine tak_ 2 89 (bs 15 1423) (take_ofW HT_.out HW_.out kR) hHeld ?_
                         refine pur_ 4 91 (bs 15 1439) (any_of HT_.out kR) ?_
                         refine tak_ 5 92 (bs 15 1471) (take_ofW HT_.out HW_.out kR) hHeld ?_
                         refine tak_ 9 96 (bs 15 1983) (take_ofW HT_.out HW_.out kR) hHeld ?_
                         refine pur_ 11 98 (bs 15 4031) (any_of HT_.out kR) ?_
                         refine tak_ 12 99 (bs 15 8127) (take_ofW HT_.out HW_.out kR) hHeld ?_
                         refine one_ (i := 6) (N := some 93) (bs 15 8191) rfl rfl (one_of HT_.out (by kernel_rfl)) (by decide) (fun K hK => ?_)
                         refine goes_ Try.func44 (by kernel_rfl) rfl #[.slice (some ad216) t206.length co26, .int .i64 (rd ((rd_T45 l0_0 t217).f2) x84_4)] (by rfl) rfl rfl (by (try simp only [List.map_toArray, List.map_cons, List.map_nil]); first | done | rfl | (simp only [List.length_drop, List.length_take]; rfl)) ?_
                         with_reducible refine (spec_l14Number.calls k4 _ _ t206 (rd ((rd_T45 l0_0 t217).f2) x84_4) t225 _ ?side1 ?side2 A70.out).mono ?_
                         (case side1 => repeat (first | exact (Kd.R_reads' HO_6.out).2.2 | (with_reducible refine Kd.C_alloc ?_ _) | (with_reducible refine Kd.C_drewN ?_ _) | (with_reducible refine Kd.C_drew ?_)))
                         (case side2 => exact (Kd.R_reads' HO_6.out).2.1)
                         rintro e w' ⟨rfl, ⟨nd, rfl⟩⟩
                         refine ⟨_, rfl, ?_⟩
                         refine hK.out _ _ ⟨bZ BK219.out 0, bZ BK219.out 1, bZ BK219.out 2, bZ BK223.out 0, bZ BK223.out 1, bZ BK223.out 2, ((HB.out.cell (World.block_lt_of_cell? w _ hw224_0)).trans hw224_0), ((HB.out.cell (World.block_lt_of_cell? w _ hw226_0)).trans hw226_0)⟩ (fun hHeld => ?_)
                         clear hK K
                         refine norm_ (a' := ?_) ?_ ?_
                         rotate_left
                         ·show Act.put _ (some 93) _ = _
                          simp only [Act.put, List.setIfInBounds_toArray, List.set_cons_zero, List.set_cons_succ, i64_w, i32_w]
                          rfl
                         refine one_ (i := 13) (N := some 100) (bs 15 16383) rfl rfl (one_of HT_.out (by kernel_rfl)) (by decide) (fun K hK => ?_)
                         refine goes_ Try.func44 (by kernel_rfl) rfl #[.slice (some ad220) t209.length co27, .int .i64 (rd ((rd_T45 l1_0 t221).f2) x84_4)] (by rfl) rfl rfl (by (try simp only [List.map_toArray, List.map_cons, List.map_nil]); first | done | rfl | (simp only [List.length_drop, List.length_take]; rfl)) ?_
                         with_reducible refine (spec_l14Number.calls k4 _ _ t209 (rd ((rd_T45 l1_0 t221).f2) x84_4) t227 _ ?side1 ?side2 A72.out).mono ?_
                         (case side1 => repeat (first | exact (Kd.R_reads' HO_7.out).2.2 | (with_reducible refine Kd.C_alloc ?_ _) | (with_reducible refine Kd.C_drewN ?_ _) | (with_reducible refine Kd.C_drew ?_)))
                         (case side2 => exact (Kd.R_reads' HO_7.out).2.1)
                         rintro e w' ⟨rfl, ⟨nd, rfl⟩⟩
                         refine ⟨_, rfl, ?_⟩
                         refine hK.out _ _ ⟨bZ BK219.out 0, bZ BK219.out 1, bZ BK219.out 2, bZ BK223.out 0, bZ BK223.out 1, bZ BK223.out 2, ((HB.out.cell (World.block_lt_of_cell? w _ hw224_0)).trans hw224_0), ((HB.out.cell (World.block_lt_of_cell? w _ hw226_0)).trans hw226_0)⟩ (fun hHeld => ?_)
                         clear hK K
                         refine norm_ (a' := ?_) ?_ ?_
                         rotate_left
                         ·show Act.put _ (some 100) _ = _
                          simp only [Act.put, List.setIfInBounds_toArray, List.set_cons_zero, List.set_cons_succ, i64_w, i32_w]
                          rfl
                         refine pur_ 14 101 (bs 15 32767) (any_of HT_.out kR) ?_
                         refine done_ (done_of HT_.out (by kernel_rfl)) ?_
                         try go_wp2
                         go_roundg k4
                         case measure => have := HJ2.out; have := HK2.out; have := HK3.out; have := HK4.out; omega
                         case rel => exact ⟨(wrap64 (x84_4 + 1)), lF, H', ⟨by have := HJ2.out; have := HK2.out; have := HK3.out; have := HK4.out; omega⟩, ⟨lR HO_6.out⟩, ⟨lR HO_7.out⟩, ⟨lK BK202.out⟩, ⟨lK BK203.out⟩, ⟨lK BK219.out⟩, ⟨lK BK223.out⟩, ⟨lB⟩⟩
                        ·rw [if_neg c73] at H
                         have c73b0 : (t225 == t227) = false := beq_eq_false_iff_ne.mpr c73
                         have c73b1 : (t225 != t227) = true := bne_iff_ne.mpr c73
                         simp only [Option.some.injEq, Prod.mk.injEq] at H
                         obtain ⟨rfl, rfl⟩ := H
                         try go_wp2
                         have n0_ := Aside0.mk (Kd.R_drew HO_6.out)
                         have n1_ := Aside0.mk (Kd.R_drew HO_7.out)
                         have n2_ := Aside0.mk (blk_drew BK202.out)
                         have n3_ := Aside0.mk (blk_drew BK203.out)
                         have n4_ := Aside0.mk (blk_drew BK219.out)
                         have n5_ := Aside0.mk (blk_drew BK223.out)
                         have n6_ := Aside0.mk (below_drew1 HB.out)
                         clear HO_6
                         clear HO_7
                         clear BK202
                         clear BK203
                         clear BK219
                         clear BK223
                         clear HB
                         have HO_6 := n0_
                         have HO_7 := n1_
                         have BK202 := n2_
                         have BK203 := n3_
                         have BK219 := n4_
                         have BK223 := n5_
                         have HB := n6_
                         clear n0_ n1_ n2_ n3_ n4_ n5_ n6_
                         have p224 : 0 ≤ (x84_4 : Int) := lD
                         have q224 : x84_4 < (((rd_T45 l0_0 t217).f2).length : Int) := lD
                         obtain ⟨ad224, e224, hx224_0⟩ := Kd.at_int HR218_2.out x84_4 p224 q224
                         have hw224_0 := hx224_0
                         cases e224
                         replace hx224_0 := pw_cell_below HB.out hx224_0
                         replace p224 := eq_true p224
                         replace q224 := eq_true q224
                         have p226 : 0 ≤ (x84_4 : Int) := lD
                         have q226 : x84_4 < (((rd_T45 l1_0 t221).f2).length : Int) := lD
                         obtain ⟨ad226, e226, hx226_0⟩ := Kd.at_int HR222_2.out x84_4 p226 q226
                         have hw226_0 := hx226_0
                         cases e226
                         replace hx226_0 := pw_cell_below HB.out hx226_0
                         replace p226 := eq_true p226
                         replace q226 := eq_true q226
                         refine start_ (n := 15) (S := fun w' => w'.cell? ⟨gb219, 0, none⟩ = some (.int .i64 ((rd_T45 l0_0 t217).f0)) ∧ w'.cell? ⟨gb219, 1, none⟩ = some (.bool ((rd_T45 l0_0 t217).f1)) ∧ w'.cell? ⟨gb219, 2, none⟩ = some (.slice (some ad224) ((rd_T45 l0_0 t217).f2).length c218_2) ∧ w'.cell? ⟨gb223, 0, none⟩ = some (.int .i64 ((rd_T45 l1_0 t221).f0)) ∧ w'.cell? ⟨gb223, 1, none⟩ = some (.bool ((rd_T45 l1_0 t221).f1)) ∧ w'.cell? ⟨gb223, 2, none⟩ = some (.slice (some ad226) ((rd_T45 l1_0 t221).f2).length c222_2) ∧ w'.cell? (ad224.add (x84_4).toNat) = some (.int .i64 (rd ((rd_T45 l0_0 t217).f2) x84_4)) ∧ w'.cell? (ad226.add (x84_4).toNat) = some (.int .i64 (rd ((rd_T45 l1_0 t221).f2) x84_4))) (ds := []) (bs 15 0) kR rfl kR ⟨bZ BK219.out 0, bZ BK219.out 1, bZ BK219.out 2, bZ BK223.out 0, bZ BK223.out 1, bZ BK223.out 2, ((HB.out.cell (World.block_lt_of_cell? w _ hw224_0)).trans hw224_0), ((HB.out.cell (World.block_lt_of_cell? w _ hw226_0)).trans hw226_0)⟩ (fun hHeld => ?_); refine with_tabW spec_SameShape.tab21 spec_SameShape.bits21 (fun HT_ HW_ => ?_)
                         generalize wr.drew = w75 at HO_6 HO_7 BK202 BK203 BK219 BK223 HB hx224_0 hx226_0 hHeld ⊢
                         refine pur_ 0 87 (bs 15 1) (any_of HT_.out kR) ?_
                         refine pur_ 1 88 (bs 15 3) (any_of HT_.out kR) ?_
                         refine pur_ 3 90 (bs 15 11) (any_of HT_.out kR) ?_
                         refine pur_ 7 94 (bs 15 139) (any_of HT_.out kR) ?_
                         refine pur_ 8 95 (bs 15 395) (any_of HT_.out kR) ?_
                         refine pur_ 10 97 (bs 15 1419) (any_of HT_.out kR) ?_
                         refine tak_ 2 89 (bs 15 1423) (take_ofW HT_.out HW_.out kR) hHeld ?_
                         refine pur_ 4 91 (bs 15 1439) (any_of HT_.out kR) ?_
                         refine tak_ 5 92 (bs 15 1471) (take_ofW HT_.out HW_.out kR) hHeld ?_
                         refine tak_ 9 96 (bs 15 1983) (take_ofW HT_.out HW_.out kR) hHeld ?_
                         refine pur_ 11 98 (bs 15 4031) (any_of HT_.out kR) ?_
                         refine tak_ 12 99 (bs 15 8127) (take_ofW HT_.out HW_.out kR) hHeld ?_
                         refine one_ (i := 6) (N := some 93) (bs 15 8191) rfl rfl (one_of HT_.out (by kernel_rfl)) (by decide) (fun K hK => ?_)
                         refine goes_ Try.func44 (by kernel_rfl) rfl #[.slice (some ad216) t206.length co26, .int .i64 (rd ((rd_T45 l0_0 t217).f2) x84_4)] (by rfl) rfl rfl (by (try simp only [List.map_toArray, List.map_cons, List.map_nil]); first | done | rfl | (simp only [List.length_drop, List.length_take]; rfl)) ?_
                         with_reducible refine (spec_l14Number.calls k4 _ _ t206 (rd ((rd_T45 l0_0 t217).f2) x84_4) t225 _ ?side1 ?side2 A70.out).mono ?_
                         (case side1 => repeat (first | exact (Kd.R_reads' HO_6.out).2.2 | (with_reducible refine Kd.C_alloc ?_ _) | (with_reducible refine Kd.C_drewN ?_ _) | (with_reducible refine Kd.C_drew ?_)))
                         (case side2 => exact (Kd.R_reads' HO_6.out).2.1)
                         rintro e w' ⟨rfl, ⟨nd, rfl⟩⟩
                         refine ⟨_, rfl, ?_⟩
                         refine hK.out _ _ ⟨bZ BK219.out 0, bZ BK219.out 1, bZ BK219.out 2, bZ BK223.out 0, bZ BK223.out 1, bZ BK223.out 2, ((HB.out.cell (World.block_lt_of_cell? w _ hw224_0)).trans hw224_0), ((HB.out.cell (World.block_lt_of_cell? w _ hw226_0)).trans hw226_0)⟩ (fun hHeld => ?_)
                         clear hK K
                         refine norm_ (a' := ?_) ?_ ?_
                         rotate_left
                         ·show Act.put _ (some 93) _ = _
                          simp only [Act.put, List.setIfInBounds_toArray, List.set_cons_zero, List.set_cons_succ, i64_w, i32_w]
                          rfl
                         refine one_ (i := 13) (N := some 100) (bs 15 16383) rfl rfl (one_of HT_.out (by kernel_rfl)) (by decide) (fun K hK => ?_)
                         refine goes_ Try.func44 (by kernel_rfl) rfl #[.slice (some ad220) t209.length co27, .int .i64 (rd ((rd_T45 l1_0 t221).f2) x84_4)] (by rfl) rfl rfl (by (try simp only [List.map_toArray, List.map_cons, List.map_nil]); first | done | rfl | (simp only [List.length_drop, List.length_take]; rfl)) ?_
                         with_reducible refine (spec_l14Number.calls k4 _ _ t209 (rd ((rd_T45 l1_0 t221).f2) x84_4) t227 _ ?side1 ?side2 A72.out).mono ?_
                         (case side1 => repeat (first | exact (Kd.R_reads' HO_7.out).2.2 | (with_reducible refine Kd.C_alloc ?_ _) | (with_reducible refine Kd.C_drewN ?_ _) | (with_reducible refine Kd.C_drew ?_)))
                         (case side2 => exact (Kd.R_reads' HO_7.out).2.1)
                         rintro e w' ⟨rfl, ⟨nd, rfl⟩⟩
                         refine ⟨_, rfl, ?_⟩
                         refine hK.out _ _ ⟨bZ BK219.out 0, bZ BK219.out 1, bZ BK219.out 2, bZ BK223.out 0, bZ BK223.out 1, bZ BK223.out 2, ((HB.out.cell (World.block_lt_of_cell? w _ hw224_0)).trans hw224_0), ((HB.out.cell (World.block_lt_of_cell? w _ hw226_0)).trans hw226_0)⟩ (fun hHeld => ?_)
                         clear hK K
                         refine norm_ (a' := ?_) ?_ ?_
                         rotate_left
                         ·show Act.put _ (some 100) _ = _
                          simp only [Act.put, List.setIfInBounds_toArray, List.set_cons_zero, List.set_cons_succ, i64_w, i32_w]
                          rfl
                         refine pur_ 14 101 (bs 15 32767) (any_of HT_.out kR) ?_
                         refine done_ (done_of HT_.out (by kernel_rfl)) ?_
                         try go_wp2
                         go_ret2
                         exact ⟨lE, lB⟩
                       ·rw [if_neg c71] at H
                        exact absurd H (by simp)
                      ·rw [if_neg c69] at H
                       exact absurd H (by simp)
                     ·rw [if_neg c68] at H
                      exact absurd H (by simp)
                    ·rw [if_neg c67] at H
                     have c67b0 : decide (x84_4 < (((rd_T45 l0_0 t217).f2).length : Int)) = false := decide_eq_false c67
                     clear c67
                     have H' := Aside0.mk H
                     clear H
                     go_wp2
                     go_roundg k4
                     case measure => have := HJ2.out; have := HK2.out; have := HK3.out; have := HK4.out; omega
                     case rel => exact ⟨(wrap64 (x58_3 + 1)), lF, H', ⟨by have := HJ2.out; have := HK2.out; have := HK3.out; have := HK4.out; omega⟩, ⟨lR HO_6.out⟩, ⟨lR HO_7.out⟩, ⟨lK BK202.out⟩, ⟨lK BK203.out⟩, ⟨lB⟩⟩
                 ·rw [if_neg c47] at H
                  exact absurd H (by simp)
                ·rw [if_neg c46] at H
                 exact absurd H (by simp)
               ·rw [if_neg c44] at H
                exact absurd H (by simp)
              ·rw [if_neg c43] at H
               exact absurd H (by simp)
             ·rw [if_neg c42] at H
              exact absurd H (by simp)
            ·rw [if_neg c40] at H
             exact absurd H (by simp)
           ·rw [if_neg c39] at H
            exact absurd H (by simp)
          ·rw [if_neg c38] at H
           have c38b0 : decide (x58_3 < (t206.length : Int)) = false := decide_eq_false c38
           clear c38
           simp only [Option.some.injEq, Prod.mk.injEq] at H
           obtain ⟨rfl, rfl⟩ := H
           go_wp2
           go_ret2
           exact ⟨lE, lB⟩
    ·rw [if_neg c20] at H
     have c20b0 : ((t206.length : Int) == (t209.length : Int)) = false := beq_eq_false_iff_ne.mpr c20
     have c20b1 : ((t206.length : Int) != (t209.length : Int)) = true := bne_iff_ne.mpr c20
     have c20b2 : (t206.length == t209.length) = false := by first | simpa using c20 | (simp at c20 ⊢; omega)
     simp only [Option.some.injEq, Prod.mk.injEq] at H
     obtain ⟨rfl, rfl⟩ := H
     have hnb76 := NB202_203.out
     have hnc76 := NB203_202.out
     obtain ⟨hcz77_0, hfz77_0, hcz77_1, hfz77_1, hcz77_2, hfz77_2, hcz77_3, hfz77_3⟩ := bk4 BK202.out
     go_wp2_with (first | ((with_reducible refine gate_callee (f := 43) rfl ?_); refine gl_ (some 24) (Try.func43) #[.agg #[.slice A0_0 l0_0.length c0_0, .slice A0_1 l0_1.length c0_1, .slice A0_2 l0_2.length c0_2, .int .i64 a0_3], .slice A0_1 l0_1.length c0_1, .bool false] ?_; (with_reducible refine (spec_l14Reach.calls kj2 _ _ l0_0 _ _ l0_1 _ _ l0_2 a0_3 _ _ l0_1 false t206 _ ?side1 ?side2 ?side3 ?side4 ?side5 ?side6 ?side7 ?side8 A18.out).mono ?_); (case side1 => exact lC (Kd.C_below HR0_0.out HB.out)); (case side2 => exact HC0_0.out); (case side3 => exact lC (Kd.C_below HR0_1.out HB.out)); (case side4 => exact HC0_1.out); (case side5 => exact lC (Kd.C_below HR0_2.out HB.out)); (case side6 => exact HC0_2.out); (case side7 => exact lC (Kd.C_below HR0_1.out HB.out)); (case side8 => exact HC0_1.out); rintro e w78 ⟨v207, rfl, ho0, hb⟩; refine ⟨_, rfl, ?_⟩; have n0_ := Aside0.mk (Kd.R_lower ho0 (below_size lB)); have n1_ := Aside0.mk (blk_below (lK BK202.out) hb); have n2_ := Aside0.mk (blk_below (lK BK203.out) hb); have n3_ := Aside0.mk (below_step lB hb); clear BK202; clear BK203; clear HB; have HO208 := n0_; have BK202 := n1_; have BK203 := n2_; have HB := n3_; clear n0_ n1_ n2_ n3_; (try clear hb); (try clear hb2); (try clear hk); (try clear hi); (try clear ho0); obtain ⟨hcz79_0, hfz79_0, hcz79_1, hfz79_1, hcz79_2, hfz79_2, hcz79_3, hfz79_3⟩ := bk4 BK203.out) | ((with_reducible refine gate_callee (f := 43) rfl ?_); refine gl_ (some 28) (Try.func43) #[.agg #[.slice A1_0 l1_0.length c1_0, .slice A1_1 l1_1.length c1_1, .slice A1_2 l1_2.length c1_2, .int .i64 a1_3], .slice A1_1 l1_1.length c1_1, .bool false] ?_; (with_reducible refine (spec_l14Reach.calls kj2 _ _ l1_0 _ _ l1_1 _ _ l1_2 a1_3 _ _ l1_1 false t209 _ ?side1 ?side2 ?side3 ?side4 ?side5 ?side6 ?side7 ?side8 A19.out).mono ?_); (case side1 => exact lC (Kd.C_below HR1_0.out HB.out)); (case side2 => exact HC1_0.out); (case side3 => exact lC (Kd.C_below HR1_1.out HB.out)); (case side4 => exact HC1_1.out); (case side5 => exact lC (Kd.C_below HR1_2.out HB.out)); (case side6 => exact HC1_2.out); (case side7 => exact lC (Kd.C_below HR1_1.out HB.out)); (case side8 => exact HC1_1.out); rintro e w80 ⟨v210, rfl, ho0, hb⟩; refine ⟨_, rfl, ?_⟩; have n0_ := Aside0.mk (Kd.R_elder' (lR HO208.out) (Kd.R_base ho0) hb); have n1_ := Aside0.mk (Kd.R_lower (Kd.R_new' ho0 (Kd.R_lt (lR HO208.out))) (below_size lB)); have n2_ := Aside0.mk (blk_below (lK BK202.out) hb); have n3_ := Aside0.mk (blk_below (lK BK203.out) hb); have n4_ := Aside0.mk (below_step lB hb); clear HO208; clear BK202; clear BK203; clear HB; have HO208 := n0_; have HO211 := n1_; have BK202 := n2_; have BK203 := n3_; have HB := n4_; clear n0_ n1_ n2_ n3_ n4_; (try clear hb); (try clear hb2); (try clear hk); (try clear hi); (try clear ho0); obtain ⟨Ao81, co81, eo81⟩ := Kd.R_slice HO208.out; subst eo81; obtain ⟨Ao82, co82, eo82⟩ := Kd.R_slice HO211.out; subst eo82))
     go_ret2
     exact ⟨lE, lB⟩

end Go.Proofs.Ytnocadhibajaoaa.Q
