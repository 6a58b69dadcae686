-- Written by the program wip/tools/pr.py of this claim's session, over the kit's print.py.
import Derived.Test.YtjmgleomljfieaaQx0
import Derived.Test.YtjmgleomljfieaaQx3
import Derived.Test.YtjmgleomljfieaaQx4
namespace Go.Proofs.Ytjmgleomljfieaa.Q
open Go.RowKit Go.Proofs.YtjmgleomljfieaaW.PrintWords Go.Proofs.YtjmgleomljfieaaW.PrintLast Go.Proofs.YtjmgleomljfieaaW.PrintMore
attribute [local go_sem] max2_int min2_int max_two min_two max_three min_three max_four min_four   -- for this text's walks alone
set_option linter.unusedVariables false
set_option linter.unusedSimpArgs false

/-! ### spec_GoodCache: function 32 -/
mutual
def spec_GoodCache.j0 : Nat → Bool → List (S82) → Int → Int → Int → List (S97) → Int → Int → Int → Option (Bool)
 | 0, _, _, _, _, _, _, _, _, _ => none
 | k + 1, x46, x195000, x195001, x196000, x196001, x196002, x196003, x196004, x196005 => if x46 = true then (some false) else (spec_GoodCache.l0 k x196002 (x196002.length : Int) 0 x195000 x195001 x196000 x196001 x196002 x196003 x196004 x196005)
def spec_GoodCache.l0 : Nat → List (S97) → Int → Int → List (S82) → Int → Int → Int → List (S97) → Int → Int → Int → Option (Bool)
 | 0, _, _, _, _, _, _, _, _, _, _, _ => none
 | k + 1, x48, x49, x50, x195000, x195001, x196000, x196001, x196002, x196003, x196004, x196005 => if x50 < x49 then (if 0 ≤ x50 then (if x50 < (x48.length : Int) then ((spec_l12Class.f x195000 x195001 ((rd_T97 x48 x50).f0)).bind fun t204 => (if t204 = true then ((spec_l1In.f ((rd_T97 x48 x50).f1) 1 1000).bind fun t205 => (if t205 = true then (if x196003 = x195001 then ((spec_l12Find.f k x195000 x195001 ((rd_T97 x48 x50).f0) x196000).bind fun t206 => (spec_GoodCache.j2 k x50 x48 x49 x50 (t206 != ((rd_T97 x48 x50).f1)) x195000 x195001 x196000 x196001 x196002 x196003 x196004 x196005 ((rd_T97 x48 x50).f0) ((rd_T97 x48 x50).f1))) else (spec_GoodCache.j2 k x50 x48 x49 x50 false x195000 x195001 x196000 x196001 x196002 x196003 x196004 x196005 ((rd_T97 x48 x50).f0) ((rd_T97 x48 x50).f1))) else (spec_GoodCache.j2 k x50 x48 x49 x50 true x195000 x195001 x196000 x196001 x196002 x196003 x196004 x196005 ((rd_T97 x48 x50).f0) ((rd_T97 x48 x50).f1)))) else (spec_GoodCache.j2 k x50 x48 x49 x50 true x195000 x195001 x196000 x196001 x196002 x196003 x196004 x196005 ((rd_T97 x48 x50).f0) ((rd_T97 x48 x50).f1)))) else (none)) else (none)) else (some true)
def spec_GoodCache.j2 : Nat → Int → List (S97) → Int → Int → Bool → List (S82) → Int → Int → Int → List (S97) → Int → Int → Int → Int → Int → Option (Bool)
 | 0, _, _, _, _, _, _, _, _, _, _, _, _, _, _, _ => none
 | k + 1, x5, x48, x49, x50, x83, x195000, x195001, x196000, x196001, x196002, x196003, x196004, x196005, x204000, x204001 => if x83 = true then (some false) else (if 0 ≤ x5 then (if x5 ≤ (x196002.length : Int) then ((some (x196002.take (x5 : Int).toNat : List (S97))).bind fun y207 => (spec_GoodCache.l1 k x48 x49 x50 y207 (y207.length : Int) 0 x195000 x195001 x196000 x196001 x196002 x196003 x196004 x196005 x204000 x204001)) else (none)) else (none))
def spec_GoodCache.l1 : Nat → List (S97) → Int → Int → List (S97) → Int → Int → List (S82) → Int → Int → Int → List (S97) → Int → Int → Int → Int → Int → Option (Bool)
 | 0, _, _, _, _, _, _, _, _, _, _, _, _, _, _, _, _ => none
 | k + 1, x48, x49, x50, x87, x88, x89, x195000, x195001, x196000, x196001, x196002, x196003, x196004, x196005, x204000, x204001 => if x89 < x88 then (if 0 ≤ x89 then (if x89 < (x87.length : Int) then (if ((rd_T97 x87 x89).f0) = x204000 then (some false) else (spec_GoodCache.l1 k x48 x49 x50 x87 x88 (wrap64 (x89 + 1)) x195000 x195001 x196000 x196001 x196002 x196003 x196004 x196005 x204000 x204001)) else (none)) else (none)) else (spec_GoodCache.l0 k x48 x49 (wrap64 (x50 + 1)) x195000 x195001 x196000 x196001 x196002 x196003 x196004 x196005)
end
def spec_GoodCache.f (k : Nat) (l0_0 : List (S82)) (a0_1 : Int) (a1_0 : Int) (a1_1 : Int) (l1_2 : List (S97)) (a1_3 : Int) (a1_4 : Int) (a1_5 : Int) : Option (Bool) := (spec_GoodWorld.f k l0_0 a0_1).bind fun t196 => (if t196 = true then ((spec_l12Name.f a1_0).bind fun t197 => (if t197 = true then ((spec_l12State.f k a1_1 (l1_2.length : Int)).bind fun t198 => (if t198 = true then ((spec_l1In.f a1_3 0 a0_1).bind fun t199 => (if t199 = true then ((spec_l1In.f a1_4 0 1000000).bind fun t200 => (if t200 = true then ((spec_l1In.f a1_5 0 1000000).bind fun t201 => (spec_GoodCache.j0 k (!t201) l0_0 a0_1 a1_0 a1_1 l1_2 a1_3 a1_4 a1_5)) else (spec_GoodCache.j0 k true l0_0 a0_1 a1_0 a1_1 l1_2 a1_3 a1_4 a1_5))) else (spec_GoodCache.j0 k true l0_0 a0_1 a1_0 a1_1 l1_2 a1_3 a1_4 a1_5))) else (spec_GoodCache.j0 k true l0_0 a0_1 a1_0 a1_1 l1_2 a1_3 a1_4 a1_5))) else (spec_GoodCache.j0 k true l0_0 a0_1 a1_0 a1_1 l1_2 a1_3 a1_4 a1_5))) else (spec_GoodCache.j0 k true l0_0 a0_1 a1_0 a1_1 l1_2 a1_3 a1_4 a1_5))
theorem spec_GoodCache.mono_l : ∀ k, (∀ y0 y1 y2 y3 y4 y5 y6 y7 y8, LeO (spec_GoodCache.j0 k y0 y1 y2 y3 y4 y5 y6 y7 y8) (spec_GoodCache.j0 (k + 1) y0 y1 y2 y3 y4 y5 y6 y7 y8)) ∧ (∀ y0 y1 y2 y3 y4 y5 y6 y7 y8 y9 y10, LeO (spec_GoodCache.l0 k y0 y1 y2 y3 y4 y5 y6 y7 y8 y9 y10) (spec_GoodCache.l0 (k + 1) y0 y1 y2 y3 y4 y5 y6 y7 y8 y9 y10)) ∧ (∀ y0 y1 y2 y3 y4 y5 y6 y7 y8 y9 y10 y11 y12 y13 y14, LeO (spec_GoodCache.j2 k y0 y1 y2 y3 y4 y5 y6 y7 y8 y9 y10 y11 y12 y13 y14) (spec_GoodCache.j2 (k + 1) y0 y1 y2 y3 y4 y5 y6 y7 y8 y9 y10 y11 y12 y13 y14)) ∧ (∀ y0 y1 y2 y3 y4 y5 y6 y7 y8 y9 y10 y11 y12 y13 y14 y15, LeO (spec_GoodCache.l1 k y0 y1 y2 y3 y4 y5 y6 y7 y8 y9 y10 y11 y12 y13 y14 y15) (spec_GoodCache.l1 (k + 1) y0 y1 y2 y3 y4 y5 y6 y7 y8 y9 y10 y11 y12 y13 y14 y15))
 | 0 => ⟨fun _ _ _ _ _ _ _ _ _ r h => by simp [spec_GoodCache.j0] at h, fun _ _ _ _ _ _ _ _ _ _ _ r h => by simp [spec_GoodCache.l0] at h, fun _ _ _ _ _ _ _ _ _ _ _ _ _ _ _ r h => by simp [spec_GoodCache.j2] at h, fun _ _ _ _ _ _ _ _ _ _ _ _ _ _ _ _ r h => by simp [spec_GoodCache.l1] at h⟩
 | k + 1 => by
  obtain ⟨ih0, ih1, ih2, ih3⟩ := spec_GoodCache.mono_l k
  refine ⟨?_, ?_, ?_, ?_⟩
  ·intro y0 y1 y2 y3 y4 y5 y6 y7 y8
   unfold spec_GoodCache.j0
   repeat' first
   | with_reducible apply ih0
   | with_reducible apply ih1
   | with_reducible apply ih2
   | with_reducible apply ih3
   | with_reducible apply spec_GoodWorld.mono
   | with_reducible apply spec_l12Find.mono
   | with_reducible apply spec_l12State.mono
   | (with_reducible exact LeO.refl _)
   | (with_reducible exact LeO.none _)
   | (with_reducible refine LeO.ite ?_ ?_)
   | (with_reducible refine LeO.bind ?_ (fun _ => ?_))
   | apply ih0
   | apply ih1
   | apply ih2
   | apply ih3
   | apply spec_GoodWorld.mono
   | apply spec_l12Find.mono
   | apply spec_l12State.mono
   | exact LeO.none _
   | refine LeO.ite ?_ ?_
   | refine LeO.bind ?_ (fun _ => ?_)
  ·intro y0 y1 y2 y3 y4 y5 y6 y7 y8 y9 y10
   unfold spec_GoodCache.l0
   repeat' first
   | with_reducible apply ih0
   | with_reducible apply ih1
   | with_reducible apply ih2
   | with_reducible apply ih3
   | with_reducible apply spec_GoodWorld.mono
   | with_reducible apply spec_l12Find.mono
   | with_reducible apply spec_l12State.mono
   | (with_reducible exact LeO.refl _)
   | (with_reducible exact LeO.none _)
   | (with_reducible refine LeO.ite ?_ ?_)
   | (with_reducible refine LeO.bind ?_ (fun _ => ?_))
   | apply ih0
   | apply ih1
   | apply ih2
   | apply ih3
   | apply spec_GoodWorld.mono
   | apply spec_l12Find.mono
   | apply spec_l12State.mono
   | exact LeO.none _
   | refine LeO.ite ?_ ?_
   | refine LeO.bind ?_ (fun _ => ?_)
  ·intro y0 y1 y2 y3 y4 y5 y6 y7 y8 y9 y10 y11 y12 y13 y14
   unfold spec_GoodCache.j2
   repeat' first
   | with_reducible apply ih0
   | with_reducible apply ih1
   | with_reducible apply ih2
   | with_reducible apply ih3
   | with_reducible apply spec_GoodWorld.mono
   | with_reducible apply spec_l12Find.mono
   | with_reducible apply spec_l12State.mono
   | (with_reducible exact LeO.refl _)
   | (with_reducible exact LeO.none _)
   | (with_reducible refine LeO.ite ?_ ?_)
   | (with_reducible refine LeO.bind ?_ (fun _ => ?_))
   | apply ih0
   | apply ih1
   | apply ih2
   | apply ih3
   | apply spec_GoodWorld.mono
   | apply spec_l12Find.mono
   | apply spec_l12State.mono
   | exact LeO.none _
   | refine LeO.ite ?_ ?_
   | refine LeO.bind ?_ (fun _ => ?_)
  ·intro y0 y1 y2 y3 y4 y5 y6 y7 y8 y9 y10 y11 y12 y13 y14 y15
   unfold spec_GoodCache.l1
   repeat' first
   | with_reducible apply ih0
   | with_reducible apply ih1
   | with_reducible apply ih2
   | with_reducible apply ih3
   | with_reducible apply spec_GoodWorld.mono
   | with_reducible apply spec_l12Find.mono
   | with_reducible apply spec_l12State.mono
   | (with_reducible exact LeO.refl _)
   | (with_reducible exact LeO.none _)
   | (with_reducible refine LeO.ite ?_ ?_)
   | (with_reducible refine LeO.bind ?_ (fun _ => ?_))
   | apply ih0
   | apply ih1
   | apply ih2
   | apply ih3
   | apply spec_GoodWorld.mono
   | apply spec_l12Find.mono
   | apply spec_l12State.mono
   | exact LeO.none _
   | refine LeO.ite ?_ ?_
   | refine LeO.bind ?_ (fun _ => ?_)
theorem spec_GoodCache.mono : ∀ a0 a1 a2 a3 a4 a5 a6 a7 k, LeO (spec_GoodCache.f k a0 a1 a2 a3 a4 a5 a6 a7) (spec_GoodCache.f (k + 1) a0 a1 a2 a3 a4 a5 a6 a7) := by
 intro a0 a1 a2 a3 a4 a5 a6 a7 k
 obtain ⟨ih0, ih1, ih2, ih3⟩ := spec_GoodCache.mono_l k
 unfold spec_GoodCache.f
 repeat' first
   | with_reducible apply ih0
   | with_reducible apply ih1
   | with_reducible apply ih2
   | with_reducible apply ih3
   | with_reducible apply spec_GoodWorld.mono
   | with_reducible apply spec_l12Find.mono
   | with_reducible apply spec_l12State.mono
   | (with_reducible exact LeO.refl _)
   | (with_reducible exact LeO.none _)
   | (with_reducible refine LeO.ite ?_ ?_)
   | (with_reducible refine LeO.bind ?_ (fun _ => ?_))
   | apply ih0
   | apply ih1
   | apply ih2
   | apply ih3
   | apply spec_GoodWorld.mono
   | apply spec_l12Find.mono
   | apply spec_l12State.mono
   | exact LeO.none _
   | refine LeO.ite ?_ ?_
   | refine LeO.bind ?_ (fun _ => ?_)
def spec_GoodCache.T6 : Bool × List (List Nat × List Nat) := (true, [([], []), ([], []), ([1], [1]), ([0, 2], [0, 2]), ([3], [3]), ([4, 3], [4]), ([5], [5]), ([6, 5], [5, 6]), ([7, 5, 5], [5, 7]), ([8, 5], [5, 8]), ([5, 9], [5, 9]), ([10, 8], [10]), ([11], [11]), ([12, 11], [11, 12]), ([11], [11]), ([14, 11], [11, 14]), ([13, 15, 11], [11, 13, 15]), ([16, 11, 11], [11, 16]), ([17], [17]), ([17], [17]), ([19, 17], [17, 19]), ([17], [17]), ([21, 17], [17, 21]), ([18, 20, 22, 17, 17], [17, 18, 20, 22]), ([17], [17]), ([24, 17], [17, 24]), ([23, 25, 17], [17, 23, 25]), ([17, 26, 11], [11, 17, 26]), ([11, 27], [11, 27])])
def spec_GoodCache.B6 : List Nat := [0, 0, 2, 7, 15, 31, 63, 127, 255, 511, 1023, 2047, 4095, 8191, 4095, 20479, 65535, 131071, 262143, 262143, 786431, 262143, 2359295, 8388607, 262143, 17039359, 67108863, 134217727, 268435455]
theorem spec_GoodCache.tab6 : rtab .any (opsOf Try.f32 6) = spec_GoodCache.T6 := by kernel_rfl
theorem spec_GoodCache.bits6 : waitsOk spec_GoodCache.T6.2 spec_GoodCache.B6 = true := by kernel_rfl
set_option maxHeartbeats 8000000 in
set_option maxRecDepth 100000 in
theorem spec_GoodCache.calls (k : Nat) (A0_0 : Option Addr) (c0_0 : Nat) (l0_0 : List (S82)) (a0_1 : Int) (a1_0 : Int) (a1_1 : Int) (A1_2 : Option Addr) (c1_2 : Nat) (l1_2 : List (S97)) (a1_3 : Int) (a1_4 : Int) (a1_5 : Int) (r : Bool) (w : World) (hr0_0 : Kd.C k82 w A0_0 l0_0.length l0_0) (hc0_0 : l0_0.length ≤ c0_0) (hr1_2 : Kd.C k97 w A1_2 l1_2.length l1_2) (hc1_2 : l1_2.length ≤ c1_2) (h : spec_GoodCache.f k l0_0 a0_1 a1_0 a1_1 l1_2 a1_3 a1_4 a1_5 = some r) :
  Calls Try.prog 32 #[.agg #[.slice A0_0 l0_0.length c0_0, .int .i64 a0_1], .agg #[.int .i64 a1_0, .int .i64 a1_1, .slice A1_2 l1_2.length c1_2, .int .i64 a1_3, .int .i64 a1_4, .int .i64 a1_5]] w fun e w' => e = .returned (.bool r) ∧ Below w.heap.size w w' := by
 have hu29 := Try.underlying29
 have hu44 := Try.underlying44
 have hu97 := Try.underlying97
 have HR0_0 := Aside0.mk hr0_0
 have HC0_0 := Aside0.mk hc0_0
 clear hr0_0 hc0_0
 have HR1_2 := Aside0.mk hr1_2
 have HC1_2 := Aside0.mk hc1_2
 clear hr1_2 hc1_2
 have HB := Aside0.mk (Below.refl w.heap.size w)
 have H : ((spec_GoodWorld.f k l0_0 a0_1).bind fun t196 => (if t196 = true then ((spec_l12Name.f a1_0).bind fun t197 => (if t197 = true then ((spec_l12State.f k a1_1 (l1_2.length : Int)).bind fun t198 => (if t198 = true then ((spec_l1In.f a1_3 0 a0_1).bind fun t199 => (if t199 = true then ((spec_l1In.f a1_4 0 1000000).bind fun t200 => (if t200 = true then ((spec_l1In.f a1_5 0 1000000).bind fun t201 => (spec_GoodCache.j0 k (!t201) l0_0 a0_1 a1_0 a1_1 l1_2 a1_3 a1_4 a1_5)) else (spec_GoodCache.j0 k true l0_0 a0_1 a1_0 a1_1 l1_2 a1_3 a1_4 a1_5))) else (spec_GoodCache.j0 k true l0_0 a0_1 a1_0 a1_1 l1_2 a1_3 a1_4 a1_5))) else (spec_GoodCache.j0 k true l0_0 a0_1 a1_0 a1_1 l1_2 a1_3 a1_4 a1_5))) else (spec_GoodCache.j0 k true l0_0 a0_1 a1_0 a1_1 l1_2 a1_3 a1_4 a1_5))) else (spec_GoodCache.j0 k true l0_0 a0_1 a1_0 a1_1 l1_2 a1_3 a1_4 a1_5))) = some r := h
 clear h
 have HC3 := Aside0.mk H
 clear H
 go_enter Try.func32, Try.ntmps32
 go_upto_region 1 with (first | ((with_reducible refine gate_dst (N := 2) rfl ?_); (try (refine gate_guard (by rfl) ?_; dsimp only)); refine bxe 2 #[.slice A0_0 l0_0.length c0_0, .int .i64 a0_1] 29 ?_; intro gb194 hg w4 hbox hb; have n0_ := Aside0.mk (below_step lB hb); have n1_ := Aside0.mk (hbox); have n2_ := lG w hg; have n3_ := lG w hg; clear HB; have HB := n0_; have BK194 := n1_; have GW194 := n2_; have GE194 := n3_; clear n0_ n1_ n2_ n3_; clear hb hbox hg) | ((with_reducible refine gate_dst (N := 3) rfl ?_); (try (refine gate_guard (by rfl) ?_; dsimp only)); refine bxe 3 #[.int .i64 a1_0, .int .i64 a1_1, .slice A1_2 l1_2.length c1_2, .int .i64 a1_3, .int .i64 a1_4, .int .i64 a1_5] 44 ?_; intro gb195 hg w5 hbox hb; have n0_ := Aside0.mk (blk_below (lK BK194.out) hb); have n1_ := Aside0.mk (below_step lB hb); have n2_ := Aside0.mk (hbox); have n3_ := lG w hg; have n4_ := lG w hg; have n5_ := Aside0.mk ((by rw [hg]; exact Nat.ne_of_lt (blk_lt (lK BK194.out)) : gb194 ≠ gb195)); have n6_ := Aside0.mk ((by rw [hg]; exact Nat.ne_of_gt (blk_lt (lK BK194.out)) : gb195 ≠ gb194)); clear BK194; clear HB; have BK194 := n0_; have HB := n1_; have BK195 := n2_; have GW195 := n3_; have GE195 := n4_; have NB194_195 := n5_; have NB195_194 := n6_; clear n0_ n1_ n2_ n3_ n4_ n5_ n6_; clear hb hbox hg))
 (try simp only [Act.put, List.setIfInBounds_toArray, List.set_cons_zero, List.set_cons_succ])
 go_cut [46] (fun v46 wc => ∃ (kq : Nat) (x46_2 : Bool), v46 = .bool x46_2 ∧ Aside0 (spec_GoodCache.j0 kq x46_2 l0_0 a0_1 a1_0 a1_1 l1_2 a1_3 a1_4 a1_5 = some r) ∧ Aside0 (kq ≤ k) ∧ Aside0 (wc.heap[gb194]? = some (.cells #[(.slice A0_0 l0_0.length c0_0), .int .i64 a0_1] 29 (0, 0))) ∧ Aside0 (wc.heap[gb195]? = some (.cells #[.int .i64 a1_0, .int .i64 a1_1, (.slice A1_2 l1_2.length c1_2), .int .i64 a1_3, .int .i64 a1_4, .int .i64 a1_5] 44 (0, 0))) ∧ Aside0 (Below w.heap.size w wc))
 case first =>
  have H := HC3.out
  clear HC3
  replace H := lO H
  obtain ⟨t196, A6, H⟩ := H
  by_cases c7 : t196 = true
  ·subst c7
   rw [if_pos rfl] at H
   replace H := lO H
   obtain ⟨t197, A8, H⟩ := H
   by_cases c9 : t197 = true
   ·subst c9
    rw [if_pos rfl] at H
    replace H := lO H
    obtain ⟨t198, A10, H⟩ := H
    by_cases c11 : t198 = true
    ·subst c11
     rw [if_pos rfl] at H
     replace H := lO H
     obtain ⟨t199, A12, H⟩ := H
     by_cases c13 : t199 = true
     ·subst c13
      rw [if_pos rfl] at H
      replace H := lO H
      obtain ⟨t200, A14, H⟩ := H
      by_cases c15 : t200 = true
      ·subst c15
       rw [if_pos rfl] at H
       replace H := lO H
       obtain ⟨t201, A16, H⟩ := H
       have H' := Aside0.mk H
       clear H
       have hnb17 := NB194_195.out
       have hnc17 := NB195_194.out
       obtain ⟨hcz18_0, hfz18_0, hcz18_1, hfz18_1⟩ := bk2 BK194.out
       go_wp2_with (first | ((with_reducible refine gate_callee (f := 14) rfl ?_); refine gl_ (some 10) (Try.func14) #[.agg #[.slice A0_0 l0_0.length c0_0, .int .i64 a0_1]] ?_; (with_reducible refine (spec_GoodWorld.calls k _ _ l0_0 a0_1 true _ ?side1 ?side2 A6.out).mono ?_); (case side1 => exact lC (Kd.C_below HR0_0.out HB.out)); (case side2 => exact HC0_0.out); rintro e w19 ⟨rfl, hb⟩; refine ⟨_, rfl, ?_⟩; have n0_ := Aside0.mk (blk_below (lK BK194.out) hb); have n1_ := Aside0.mk (blk_below (lK BK195.out) hb); have n2_ := Aside0.mk (below_step lB hb); clear BK194; clear BK195; clear HB; have BK194 := n0_; have BK195 := n1_; have HB := n2_; clear n0_ n1_ n2_; (try clear hb); (try clear hb2); (try clear hk); (try clear hi); obtain ⟨hcz20_0, hfz20_0, hcz20_1, hfz20_1, hcz20_2, hfz20_2, hcz20_3, hfz20_3, hcz20_4, hfz20_4, hcz20_5, hfz20_5⟩ := bk6 BK195.out) | (go_at_call 60; (with_reducible refine (spec_l12Name.calls a1_0 true _ A8.out).mono ?_); rintro e w' ⟨rfl, ⟨nd, rfl⟩⟩) | (go_at_call 70; (with_reducible refine (spec_l12State.calls k a1_1 (l1_2.length : Int) true _ A10.out).mono ?_); rintro e w' ⟨rfl, ⟨nd, rfl⟩⟩; obtain ⟨hcz21_0, hfz21_0, hcz21_1, hfz21_1⟩ := bk2 BK194.out) | (go_at_call 54; (with_reducible refine (spec_l1In.calls a1_3 0 a0_1 true _ A12.out).mono ?_); rintro e w' ⟨rfl, ⟨nd, rfl⟩⟩) | (go_at_call 54; (with_reducible refine (spec_l1In.calls a1_4 0 1000000 true _ A14.out).mono ?_); rintro e w' ⟨rfl, ⟨nd, rfl⟩⟩) | (go_at_call 54; (with_reducible refine (spec_l1In.calls a1_5 0 1000000 t201 _ A16.out).mono ?_); rintro e w' ⟨rfl, ⟨nd, rfl⟩⟩))
       go_meet
       case rel => exact ⟨_, (!t201), lF, H', ⟨lN⟩, ⟨lK BK194.out⟩, ⟨lK BK195.out⟩, ⟨lB⟩⟩
      ·replace c15 := Bool.eq_false_iff.mpr c15
       subst c15
       rw [if_neg (show ¬ (false = true) by decide)] at H
       have H' := Aside0.mk H
       clear H
       have hnb22 := NB194_195.out
       have hnc22 := NB195_194.out
       obtain ⟨hcz23_0, hfz23_0, hcz23_1, hfz23_1⟩ := bk2 BK194.out
       go_wp2_with (first | ((with_reducible refine gate_callee (f := 14) rfl ?_); refine gl_ (some 10) (Try.func14) #[.agg #[.slice A0_0 l0_0.length c0_0, .int .i64 a0_1]] ?_; (with_reducible refine (spec_GoodWorld.calls k _ _ l0_0 a0_1 true _ ?side1 ?side2 A6.out).mono ?_); (case side1 => exact lC (Kd.C_below HR0_0.out HB.out)); (case side2 => exact HC0_0.out); rintro e w24 ⟨rfl, hb⟩; refine ⟨_, rfl, ?_⟩; have n0_ := Aside0.mk (blk_below (lK BK194.out) hb); have n1_ := Aside0.mk (blk_below (lK BK195.out) hb); have n2_ := Aside0.mk (below_step lB hb); clear BK194; clear BK195; clear HB; have BK194 := n0_; have BK195 := n1_; have HB := n2_; clear n0_ n1_ n2_; (try clear hb); (try clear hb2); (try clear hk); (try clear hi); obtain ⟨hcz25_0, hfz25_0, hcz25_1, hfz25_1, hcz25_2, hfz25_2, hcz25_3, hfz25_3, hcz25_4, hfz25_4, hcz25_5, hfz25_5⟩ := bk6 BK195.out) | (go_at_call 60; (with_reducible refine (spec_l12Name.calls a1_0 true _ A8.out).mono ?_); rintro e w' ⟨rfl, ⟨nd, rfl⟩⟩) | (go_at_call 70; (with_reducible refine (spec_l12State.calls k a1_1 (l1_2.length : Int) true _ A10.out).mono ?_); rintro e w' ⟨rfl, ⟨nd, rfl⟩⟩; obtain ⟨hcz26_0, hfz26_0, hcz26_1, hfz26_1⟩ := bk2 BK194.out) | (go_at_call 54; (with_reducible refine (spec_l1In.calls a1_3 0 a0_1 true _ A12.out).mono ?_); rintro e w' ⟨rfl, ⟨nd, rfl⟩⟩) | (go_at_call 54; (with_reducible refine (spec_l1In.calls a1_4 0 1000000 false _ A14.out).mono ?_); rintro e w' ⟨rfl, ⟨nd, rfl⟩⟩))
       go_meet
       case rel => exact ⟨_, (true), lF, H', ⟨lN⟩, ⟨lK BK194.out⟩, ⟨lK BK195.out⟩, ⟨lB⟩⟩
     ·replace c13 := Bool.eq_false_iff.mpr c13
      subst c13
      rw [if_neg (show ¬ (false = true) by decide)] at H
      have H' := Aside0.mk H
      clear H
      have hnb27 := NB194_195.out
      have hnc27 := NB195_194.out
      obtain ⟨hcz28_0, hfz28_0, hcz28_1, hfz28_1⟩ := bk2 BK194.out
      go_wp2_with (first | ((with_reducible refine gate_callee (f := 14) rfl ?_); refine gl_ (some 10) (Try.func14) #[.agg #[.slice A0_0 l0_0.length c0_0, .int .i64 a0_1]] ?_; (with_reducible refine (spec_GoodWorld.calls k _ _ l0_0 a0_1 true _ ?side1 ?side2 A6.out).mono ?_); (case side1 => exact lC (Kd.C_below HR0_0.out HB.out)); (case side2 => exact HC0_0.out); rintro e w29 ⟨rfl, hb⟩; refine ⟨_, rfl, ?_⟩; have n0_ := Aside0.mk (blk_below (lK BK194.out) hb); have n1_ := Aside0.mk (blk_below (lK BK195.out) hb); have n2_ := Aside0.mk (below_step lB hb); clear BK194; clear BK195; clear HB; have BK194 := n0_; have BK195 := n1_; have HB := n2_; clear n0_ n1_ n2_; (try clear hb); (try clear hb2); (try clear hk); (try clear hi); obtain ⟨hcz30_0, hfz30_0, hcz30_1, hfz30_1, hcz30_2, hfz30_2, hcz30_3, hfz30_3, hcz30_4, hfz30_4, hcz30_5, hfz30_5⟩ := bk6 BK195.out) | (go_at_call 60; (with_reducible refine (spec_l12Name.calls a1_0 true _ A8.out).mono ?_); rintro e w' ⟨rfl, ⟨nd, rfl⟩⟩) | (go_at_call 70; (with_reducible refine (spec_l12State.calls k a1_1 (l1_2.length : Int) true _ A10.out).mono ?_); rintro e w' ⟨rfl, ⟨nd, rfl⟩⟩; obtain ⟨hcz31_0, hfz31_0, hcz31_1, hfz31_1⟩ := bk2 BK194.out) | (go_at_call 54; (with_reducible refine (spec_l1In.calls a1_3 0 a0_1 false _ A12.out).mono ?_); rintro e w' ⟨rfl, ⟨nd, rfl⟩⟩))
      go_meet
      case rel => exact ⟨_, (true), lF, H', ⟨lN⟩, ⟨lK BK194.out⟩, ⟨lK BK195.out⟩, ⟨lB⟩⟩
    ·replace c11 := Bool.eq_false_iff.mpr c11
     subst c11
     rw [if_neg (show ¬ (false = true) by decide)] at H
     have H' := Aside0.mk H
     clear H
     have hnb32 := NB194_195.out
     have hnc32 := NB195_194.out
     obtain ⟨hcz33_0, hfz33_0, hcz33_1, hfz33_1⟩ := bk2 BK194.out
     go_wp2_with (first | ((with_reducible refine gate_callee (f := 14) rfl ?_); refine gl_ (some 10) (Try.func14) #[.agg #[.slice A0_0 l0_0.length c0_0, .int .i64 a0_1]] ?_; (with_reducible refine (spec_GoodWorld.calls k _ _ l0_0 a0_1 true _ ?side1 ?side2 A6.out).mono ?_); (case side1 => exact lC (Kd.C_below HR0_0.out HB.out)); (case side2 => exact HC0_0.out); rintro e w34 ⟨rfl, hb⟩; refine ⟨_, rfl, ?_⟩; have n0_ := Aside0.mk (blk_below (lK BK194.out) hb); have n1_ := Aside0.mk (blk_below (lK BK195.out) hb); have n2_ := Aside0.mk (below_step lB hb); clear BK194; clear BK195; clear HB; have BK194 := n0_; have BK195 := n1_; have HB := n2_; clear n0_ n1_ n2_; (try clear hb); (try clear hb2); (try clear hk); (try clear hi); obtain ⟨hcz35_0, hfz35_0, hcz35_1, hfz35_1, hcz35_2, hfz35_2, hcz35_3, hfz35_3, hcz35_4, hfz35_4, hcz35_5, hfz35_5⟩ := bk6 BK195.out) | (go_at_call 60; (with_reducible refine (spec_l12Name.calls a1_0 true _ A8.out).mono ?_); rintro e w' ⟨rfl, ⟨nd, rfl⟩⟩) | (go_at_call 70; (with_reducible refine (spec_l12State.calls k a1_1 (l1_2.length : Int) false _ A10.out).mono ?_); rintro e w' ⟨rfl, ⟨nd, rfl⟩⟩))
     go_meet
     case rel => exact ⟨_, (true), lF, H', ⟨lN⟩, ⟨lK BK194.out⟩, ⟨lK BK195.out⟩, ⟨lB⟩⟩
   ·replace c9 := Bool.eq_false_iff.mpr c9
    subst c9
    rw [if_neg (show ¬ (false = true) by decide)] at H
    have H' := Aside0.mk H
    clear H
    have hnb36 := NB194_195.out
    have hnc36 := NB195_194.out
    obtain ⟨hcz37_0, hfz37_0, hcz37_1, hfz37_1⟩ := bk2 BK194.out
    go_wp2_with (first | ((with_reducible refine gate_callee (f := 14) rfl ?_); refine gl_ (some 10) (Try.func14) #[.agg #[.slice A0_0 l0_0.length c0_0, .int .i64 a0_1]] ?_; (with_reducible refine (spec_GoodWorld.calls k _ _ l0_0 a0_1 true _ ?side1 ?side2 A6.out).mono ?_); (case side1 => exact lC (Kd.C_below HR0_0.out HB.out)); (case side2 => exact HC0_0.out); rintro e w38 ⟨rfl, hb⟩; refine ⟨_, rfl, ?_⟩; have n0_ := Aside0.mk (blk_below (lK BK194.out) hb); have n1_ := Aside0.mk (blk_below (lK BK195.out) hb); have n2_ := Aside0.mk (below_step lB hb); clear BK194; clear BK195; clear HB; have BK194 := n0_; have BK195 := n1_; have HB := n2_; clear n0_ n1_ n2_; (try clear hb); (try clear hb2); (try clear hk); (try clear hi); obtain ⟨hcz39_0, hfz39_0, hcz39_1, hfz39_1, hcz39_2, hfz39_2, hcz39_3, hfz39_3, hcz39_4, hfz39_4, hcz39_5, hfz39_5⟩ := bk6 BK195.out) | (go_at_call 60; (with_reducible refine (spec_l12Name.calls a1_0 false _ A8.out).mono ?_); rintro e w' ⟨rfl, ⟨nd, rfl⟩⟩))
    go_meet
    case rel => exact ⟨_, (true), lF, H', ⟨lN⟩, ⟨lK BK194.out⟩, ⟨lK BK195.out⟩, ⟨lB⟩⟩
  ·replace c7 := Bool.eq_false_iff.mpr c7
   subst c7
   rw [if_neg (show ¬ (false = true) by decide)] at H
   have H' := Aside0.mk H
   clear H
   have hnb40 := NB194_195.out
   have hnc40 := NB195_194.out
   obtain ⟨hcz41_0, hfz41_0, hcz41_1, hfz41_1⟩ := bk2 BK194.out
   go_wp2_with (first | ((with_reducible refine gate_callee (f := 14) rfl ?_); refine gl_ (some 10) (Try.func14) #[.agg #[.slice A0_0 l0_0.length c0_0, .int .i64 a0_1]] ?_; (with_reducible refine (spec_GoodWorld.calls k _ _ l0_0 a0_1 false _ ?side1 ?side2 A6.out).mono ?_); (case side1 => exact lC (Kd.C_below HR0_0.out HB.out)); (case side2 => exact HC0_0.out); rintro e w42 ⟨rfl, hb⟩; refine ⟨_, rfl, ?_⟩; have n0_ := Aside0.mk (blk_below (lK BK194.out) hb); have n1_ := Aside0.mk (blk_below (lK BK195.out) hb); have n2_ := Aside0.mk (below_step lB hb); clear BK194; clear BK195; clear HB; have BK194 := n0_; have BK195 := n1_; have HB := n2_; clear n0_ n1_ n2_; (try clear hb); (try clear hb2); (try clear hk); (try clear hi)))
   go_meet
   case rel => exact ⟨_, (true), lF, H', ⟨lN⟩, ⟨lK BK194.out⟩, ⟨lK BK195.out⟩, ⟨lB⟩⟩
 case rest =>
  clear HC3
  try clear c1
  try clear c2
  try clear p2
  try clear c3
  try clear c4
  try clear c7
  try clear c9
  try clear c11
  try clear c13
  try clear c14
  try clear c15
  try clear c17
  try clear c22
  try clear c27
  try clear c32
  try clear c36
  try clear c40
  try clear hcz18_0 hcz18_1
  try clear hcz20_0 hcz20_1 hcz20_2 hcz20_3 hcz20_4 hcz20_5
  try clear hcz21_0 hcz21_1
  try clear hcz23_0 hcz23_1
  try clear hcz25_0 hcz25_1 hcz25_2 hcz25_3 hcz25_4 hcz25_5
  try clear hcz26_0 hcz26_1
  try clear hcz28_0 hcz28_1
  try clear hcz30_0 hcz30_1 hcz30_2 hcz30_3 hcz30_4 hcz30_5
  try clear hcz31_0 hcz31_1
  try clear hcz33_0 hcz33_1
  try clear hcz35_0 hcz35_1 hcz35_2 hcz35_3 hcz35_4 hcz35_5
  try clear hcz37_0 hcz37_1
  try clear hcz39_0 hcz39_1 hcz39_2 hcz39_3 hcz39_4 hcz39_5
  try clear hcz41_0 hcz41_1
  try clear hfz18_0 hfz18_1
  try clear hfz20_0 hfz20_1 hfz20_2 hfz20_3 hfz20_4 hfz20_5
  try clear hfz21_0 hfz21_1
  try clear hfz23_0 hfz23_1
  try clear hfz25_0 hfz25_1 hfz25_2 hfz25_3 hfz25_4 hfz25_5
  try clear hfz26_0 hfz26_1
  try clear hfz28_0 hfz28_1
  try clear hfz30_0 hfz30_1 hfz30_2 hfz30_3 hfz30_4 hfz30_5
  try clear hfz31_0 hfz31_1
  try clear hfz33_0 hfz33_1
  try clear hfz35_0 hfz35_1 hfz35_2 hfz35_3 hfz35_4 hfz35_5
  try clear hfz37_0 hfz37_1
  try clear hfz39_0 hfz39_1 hfz39_2 hfz39_3 hfz39_4 hfz39_5
  try clear hfz41_0 hfz41_1
  obtain ⟨kq, x46_2, rfl, HA, HJ2, BK194, BK195, HB⟩ := hcut
  cases kq with
  | zero => exact absurd HA.out (by simp [spec_GoodCache.j0])
  | succ kj2 =>
   have H := HA.out
   clear HA
   simp only [spec_GoodCache.j0] at H
   by_cases c43 : x46_2 = true
   ·subst c43
    rw [if_pos rfl] at H
    obtain rfl := Option.some.inj H
    first | (go_wp2; go_ret; exact ⟨lE, lB⟩) | (exfalso; simp only [decide_eq_false_iff_not, decide_eq_true_eq] at *; omega)
   ·replace c43 := Bool.eq_false_iff.mpr c43
    subst c43
    rw [if_neg (show ¬ (false = true) by decide)] at H
    have H' := Aside0.mk H
    clear H
    have hnb44 := NB195_194.out
    have hnc44 := NB194_195.out
    obtain ⟨hcz45_0, hfz45_0, hcz45_1, hfz45_1, hcz45_2, hfz45_2, hcz45_3, hfz45_3, hcz45_4, hfz45_4, hcz45_5, hfz45_5⟩ := bk6 BK195.out
    go_wp2
    go_loopg [50] kj2 (fun kq v50 w' => ∃ (x50_2 : Int), v50 = .int .i64 x50_2 ∧ Aside0 (spec_GoodCache.l0 kq l1_2 (l1_2.length : Int) x50_2 l0_0 a0_1 a1_0 a1_1 l1_2 a1_3 a1_4 a1_5 = some r) ∧ Aside0 (kq ≤ kj2) ∧ Aside0 (w'.heap[gb194]? = some (.cells #[(.slice A0_0 l0_0.length c0_0), .int .i64 a0_1] 29 (0, 0))) ∧ Aside0 (w'.heap[gb195]? = some (.cells #[.int .i64 a1_0, .int .i64 a1_1, (.slice A1_2 l1_2.length c1_2), .int .i64 a1_3, .int .i64 a1_4, .int .i64 a1_5] 44 (0, 0))) ∧ Aside0 (Below w.heap.size w w'))
    case atStart => exact ⟨(0), lF, H', ⟨Nat.le_refl _⟩, ⟨lK BK194.out⟩, ⟨lK BK195.out⟩, ⟨lB⟩⟩
    case round =>
     clear H'
     try clear c1
     try clear c2
     try clear p2
     try clear c3
     try clear c4
     try clear c7
     try clear c9
     try clear c11
     try clear c13
     try clear c14
     try clear c15
     try clear c17
     try clear c22
     try clear c27
     try clear c32
     try clear c36
     try clear c40
     try clear c43
     try clear c44
     try clear hcz18_0 hcz18_1
     try clear hcz20_0 hcz20_1 hcz20_2 hcz20_3 hcz20_4 hcz20_5
     try clear hcz21_0 hcz21_1
     try clear hcz23_0 hcz23_1
     try clear hcz25_0 hcz25_1 hcz25_2 hcz25_3 hcz25_4 hcz25_5
     try clear hcz26_0 hcz26_1
     try clear hcz28_0 hcz28_1
     try clear hcz30_0 hcz30_1 hcz30_2 hcz30_3 hcz30_4 hcz30_5
     try clear hcz31_0 hcz31_1
     try clear hcz33_0 hcz33_1
     try clear hcz35_0 hcz35_1 hcz35_2 hcz35_3 hcz35_4 hcz35_5
     try clear hcz37_0 hcz37_1
     try clear hcz39_0 hcz39_1 hcz39_2 hcz39_3 hcz39_4 hcz39_5
     try clear hcz41_0 hcz41_1
     try clear hcz45_0 hcz45_1 hcz45_2 hcz45_3 hcz45_4 hcz45_5
     try clear hfz18_0 hfz18_1
     try clear hfz20_0 hfz20_1 hfz20_2 hfz20_3 hfz20_4 hfz20_5
     try clear hfz21_0 hfz21_1
     try clear hfz23_0 hfz23_1
     try clear hfz25_0 hfz25_1 hfz25_2 hfz25_3 hfz25_4 hfz25_5
     try clear hfz26_0 hfz26_1
     try clear hfz28_0 hfz28_1
     try clear hfz30_0 hfz30_1 hfz30_2 hfz30_3 hfz30_4 hfz30_5
     try clear hfz31_0 hfz31_1
     try clear hfz33_0 hfz33_1
     try clear hfz35_0 hfz35_1 hfz35_2 hfz35_3 hfz35_4 hfz35_5
     try clear hfz37_0 hfz37_1
     try clear hfz39_0 hfz39_1 hfz39_2 hfz39_3 hfz39_4 hfz39_5
     try clear hfz41_0 hfz41_1
     try clear hfz45_0 hfz45_1 hfz45_2 hfz45_3 hfz45_4 hfz45_5
     try clear p2
     obtain ⟨x50_2, rfl, HA, HK2, BK194, BK195, HB⟩ := hrel
     cases gk with
     | zero => exact absurd HA.out (by simp [spec_GoodCache.l0])
     | succ k2 =>
      have H := HA.out
      clear HA
      simp only [spec_GoodCache.l0] at H
      by_cases c46 : x50_2 < (l1_2.length : Int)
      ·rw [if_pos c46] at H
       have c46b0 : decide (x50_2 < (l1_2.length : Int)) = true := decide_eq_true c46
       clear c46
       by_cases c47 : 0 ≤ x50_2
       ·rw [if_pos c47] at H
        have c47b0 : decide (0 ≤ x50_2) = true := decide_eq_true c47
        clear c47
        by_cases c48 : x50_2 < (l1_2.length : Int)
        ·rw [if_pos c48] at H
         have c48b0 : decide (x50_2 < (l1_2.length : Int)) = true := decide_eq_true c48
         clear c48
         have HC49 := Aside0.mk H
         clear H
         have p202 : 0 ≤ (x50_2 : Int) := lD
         have q202 : x50_2 < (l1_2.length : Int) := lD
         obtain ⟨ad202, e202, hx202_0, hx202_1⟩ := at_T97 HR1_2.out x50_2 p202 q202
         cases e202
         replace hx202_0 := pw_cell_below HB.out hx202_0
         replace hx202_1 := pw_cell_below HB.out hx202_1
         replace p202 := eq_true p202
         replace q202 := eq_true q202
         go_upto_region 6 with (first | ((with_reducible refine gate_dst (N := 6) rfl ?_); (try (refine gate_guard (by rfl) ?_; dsimp only)); refine bxe 6 #[.int .i64 0, .int .i64 0] 97 ?_; intro gb203 hg w50 hbox hb; have n0_ := Aside0.mk (blk_below (lK BK194.out) hb); have n1_ := Aside0.mk (blk_below (lK BK195.out) hb); have n2_ := Aside0.mk (below_step lB hb); have n3_ := Aside0.mk (hbox); have n4_ := lG w hg; have n5_ := lG w hg; have n6_ := Aside0.mk ((by rw [hg]; exact Nat.ne_of_lt (blk_lt (lK BK194.out)) : gb194 ≠ gb203)); have n7_ := Aside0.mk ((by rw [hg]; exact Nat.ne_of_gt (blk_lt (lK BK194.out)) : gb203 ≠ gb194)); have n8_ := Aside0.mk ((by rw [hg]; exact Nat.ne_of_lt (blk_lt (lK BK195.out)) : gb195 ≠ gb203)); have n9_ := Aside0.mk ((by rw [hg]; exact Nat.ne_of_gt (blk_lt (lK BK195.out)) : gb203 ≠ gb195)); clear BK194; clear BK195; clear HB; have BK194 := n0_; have BK195 := n1_; have HB := n2_; have BK203 := n3_; have GW203 := n4_; have GE203 := n5_; have NB194_203 := n6_; have NB203_194 := n7_; have NB195_203 := n8_; have NB203_195 := n9_; clear n0_ n1_ n2_ n3_ n4_ n5_ n6_ n7_ n8_ n9_; clear hb hbox hg; have hnb51 := NB203_194.out; have hnc51 := NB194_203.out; have hnb52 := NB203_195.out; have hnc52 := NB195_203.out; obtain ⟨hcz53_0, hfz53_0, hcz53_1, hfz53_1⟩ := bk2 BK203.out))
         (try simp only [Act.put, List.setIfInBounds_toArray, List.set_cons_zero, List.set_cons_succ])
         go_cut [83] (fun v83 wc => ∃ (kq : Nat) (x83_48 : Bool), v83 = .bool x83_48 ∧ Aside0 (spec_GoodCache.j2 kq x50_2 l1_2 (l1_2.length : Int) x50_2 x83_48 l0_0 a0_1 a1_0 a1_1 l1_2 a1_3 a1_4 a1_5 ((rd_T97 l1_2 x50_2).f0) ((rd_T97 l1_2 x50_2).f1) = some r) ∧ Aside0 (kq ≤ k2) ∧ Aside0 (wc.heap[gb194]? = some (.cells #[(.slice A0_0 l0_0.length c0_0), .int .i64 a0_1] 29 (0, 0))) ∧ Aside0 (wc.heap[gb195]? = some (.cells #[.int .i64 a1_0, .int .i64 a1_1, (.slice (some ad202) l1_2.length c1_2), .int .i64 a1_3, .int .i64 a1_4, .int .i64 a1_5] 44 (0, 0))) ∧ Aside0 (wc.heap[gb203]? = some (.cells #[.int .i64 ((rd_T97 l1_2 x50_2).f0), .int .i64 ((rd_T97 l1_2 x50_2).f1)] 97 (0, 0))) ∧ Aside0 (Below w.heap.size w wc))
         case first =>
          have H := HC49.out
          clear HC49
          replace H := lO H
          obtain ⟨t204, A54, H⟩ := H
          by_cases c55 : t204 = true
          ·subst c55
           rw [if_pos rfl] at H
           replace H := lO H
           obtain ⟨t205, A56, H⟩ := H
           by_cases c57 : t205 = true
           ·subst c57
            rw [if_pos rfl] at H
            by_cases c58 : a1_3 = a0_1
            ·rw [if_pos c58] at H
             have c58b0 : (a1_3 == a0_1) = true := beq_iff_eq.mpr c58
             have c58b1 : (a1_3 != a0_1) = false := bne_eq_false_iff_eq.mpr c58
             clear c58
             (first | rw [c58b0] | (simp only [i64_w, i32_w]; rw [c58b0]) | skip)
             replace H := lO H
             obtain ⟨t206, A59, H⟩ := H
             have H' := Aside0.mk H
             clear H
             try go_wp2
             have n0_ : Aside0 (((w50.setCell ⟨gb203, 0, none⟩ (.int .i64 ((rd_T97 l1_2 x50_2).f0))).setCell ⟨gb203, 1, none⟩ (.int .i64 ((rd_T97 l1_2 x50_2).f1))).heap[gb194]? = some (.cells #[.slice A0_0 l0_0.length c0_0, .int .i64 a0_1] 29 (0, 0))) := ⟨lJ BK194.out⟩
             have n1_ : Aside0 (((w50.setCell ⟨gb203, 0, none⟩ (.int .i64 ((rd_T97 l1_2 x50_2).f0))).setCell ⟨gb203, 1, none⟩ (.int .i64 ((rd_T97 l1_2 x50_2).f1))).heap[gb195]? = some (.cells #[.int .i64 a1_0, .int .i64 a1_1, .slice (some ad202) l1_2.length c1_2, .int .i64 a1_3, .int .i64 a1_4, .int .i64 a1_5] 44 (0, 0))) := ⟨lJ BK195.out⟩
             have n2_ : Aside0 (((w50.setCell ⟨gb203, 0, none⟩ (.int .i64 ((rd_T97 l1_2 x50_2).f0))).setCell ⟨gb203, 1, none⟩ (.int .i64 ((rd_T97 l1_2 x50_2).f1))).heap[gb203]? = some (.cells #[.int .i64 ((rd_T97 l1_2 x50_2).f0), .int .i64 ((rd_T97 l1_2 x50_2).f1)] 97 (0, 0))) := ⟨by (with_reducible repeat first | apply bN | apply bD | apply bA); refine blk_put (cs := #[.int .i64 ((rd_T97 l1_2 x50_2).f0), .int .i64 0]) ?_ 1 _ rfl; (with_reducible repeat first | apply bN | apply bD | apply bA); refine blk_put (cs := #[.int .i64 0, .int .i64 0]) ?_ 0 _ rfl; (with_reducible repeat first | apply bN | apply bD | apply bA); exact BK203.out⟩
             have n3_ : Aside0 (Below w.heap.size w ((w50.setCell ⟨gb203, 0, none⟩ (.int .i64 ((rd_T97 l1_2 x50_2).f0))).setCell ⟨gb203, 1, none⟩ (.int .i64 ((rd_T97 l1_2 x50_2).f1)))) := ⟨lB⟩
             (try clear BK194)
             (try clear BK195)
             (try clear BK203)
             (try clear HB)
             generalize ((w50.setCell ⟨gb203, 0, none⟩ (.int .i64 ((rd_T97 l1_2 x50_2).f0))).setCell ⟨gb203, 1, none⟩ (.int .i64 ((rd_T97 l1_2 x50_2).f1))) = w60 at n0_ n1_ n2_ n3_ ⊢
             have BK194 := n0_
             have BK195 := n1_
             have BK203 := n2_
             have HB := n3_
             clear n0_ n1_ n2_ n3_
             have n0_ := Aside0.mk (blk_drew BK194.out)
             have n1_ := Aside0.mk (blk_drew BK195.out)
             have n2_ := Aside0.mk (blk_drew BK203.out)
             have n3_ := Aside0.mk (below_drew1 HB.out)
             clear BK194
             clear BK195
             clear BK203
             clear HB
             have BK194 := n0_
             have BK195 := n1_
             have BK203 := n2_
             have HB := n3_
             clear n0_ n1_ n2_ n3_
             refine start_ (n := 29) (S := fun w' => w'.cell? ⟨gb194, 0, none⟩ = some (.slice A0_0 l0_0.length c0_0) ∧ w'.cell? ⟨gb194, 1, none⟩ = some (.int .i64 a0_1) ∧ w'.cell? ⟨gb203, 0, none⟩ = some (.int .i64 ((rd_T97 l1_2 x50_2).f0)) ∧ w'.cell? ⟨gb203, 1, none⟩ = some (.int .i64 ((rd_T97 l1_2 x50_2).f1)) ∧ w'.cell? ⟨gb195, 0, none⟩ = some (.int .i64 a1_0) ∧ w'.cell? ⟨gb195, 1, none⟩ = some (.int .i64 a1_1) ∧ w'.cell? ⟨gb195, 2, none⟩ = some (.slice (some ad202) l1_2.length c1_2) ∧ w'.cell? ⟨gb195, 3, none⟩ = some (.int .i64 a1_3) ∧ w'.cell? ⟨gb195, 4, none⟩ = some (.int .i64 a1_4) ∧ w'.cell? ⟨gb195, 5, none⟩ = some (.int .i64 a1_5)) (ds := []) (bs 29 0) kR rfl kR ⟨bZ BK194.out 0, bZ BK194.out 1, bZ BK203.out 0, bZ BK203.out 1, bZ BK195.out 0, bZ BK195.out 1, bZ BK195.out 2, bZ BK195.out 3, bZ BK195.out 4, bZ BK195.out 5⟩ (fun hHeld => ?_); refine with_tabW spec_GoodCache.tab6 spec_GoodCache.bits6 (fun HT_ HW_ => ?_)
             generalize w60.drew = w61 at BK194 BK195 BK203 HB hHeld ⊢
             refine pur_ 1 56 (bs 29 2) (any_of HT_.out kR) ?_
             refine tak_ 0 55 (bs 29 3) (take_ofW HT_.out HW_.out kR) hHeld ?_
             refine tak_ 2 57 (bs 29 7) (take_ofW HT_.out HW_.out kR) hHeld ?_
             refine one_ (i := 3) (N := some 58) (bs 29 15) rfl rfl (one_of HT_.out (by kernel_rfl)) (by decide) (fun K hK => ?_)
             refine goes_ Try.func58 (by kernel_rfl) rfl #[.agg #[.slice A0_0 l0_0.length c0_0, .int .i64 a0_1], .int .i64 ((rd_T97 l1_2 x50_2).f0)] (by rfl) rfl rfl (by (try simp only [List.map_toArray, List.map_cons, List.map_nil]); first | done | rfl | (simp only [List.length_drop, List.length_take]; rfl)) ?_
             with_reducible refine (spec_l12Class.calls _ _ l0_0 a0_1 ((rd_T97 l1_2 x50_2).f0) true _ ?side1 ?side2 A54.out).mono ?_
             (case side1 => exact lC (Kd.C_below HR0_0.out HB.out))
             (case side2 => exact HC0_0.out)
             rintro e w62 ⟨rfl, hb⟩
             refine ⟨_, rfl, ?_⟩
             have n0_ := Aside0.mk (blk_below (lK BK194.out) hb)
             have n1_ := Aside0.mk (blk_below (lK BK195.out) hb)
             have n2_ := Aside0.mk (blk_below (lK BK203.out) hb)
             have n3_ := Aside0.mk (below_step lB hb)
             clear BK194
             clear BK195
             clear BK203
             clear HB
             have BK194 := n0_
             have BK195 := n1_
             have BK203 := n2_
             have HB := n3_
             clear n0_ n1_ n2_ n3_
             (try clear hb)
             (try clear hb2)
             (try clear hk)
             (try clear hi)
             refine hK.out _ _ ⟨bZ BK194.out 0, bZ BK194.out 1, bZ BK203.out 0, bZ BK203.out 1, bZ BK195.out 0, bZ BK195.out 1, bZ BK195.out 2, bZ BK195.out 3, bZ BK195.out 4, bZ BK195.out 5⟩ (fun hHeld => ?_)
             clear hK K
             refine norm_ (a' := ?_) ?_ ?_
             rotate_left
             ·show Act.put _ (some 58) _ = _
              simp only [Act.put, List.setIfInBounds_toArray, List.set_cons_zero, List.set_cons_succ, i64_w, i32_w]
              rfl
             refine pur_ 4 59 (bs 29 31) (any_of HT_.out kR) ?_
             refine pur_ 5 60 (bs 29 63) (any_of HT_.out kR) ?_
             refine pur_ 6 61 (bs 29 127) (any_of HT_.out kR) ?_
             refine tak_ 7 62 (bs 29 255) (take_ofW HT_.out HW_.out kR) hHeld ?_
             refine one_ (i := 8) (N := some 63) (bs 29 511) rfl rfl (one_of HT_.out (by kernel_rfl)) (by decide) (fun K hK => ?_)
             refine goes_ Try.func54 (by kernel_rfl) rfl #[.int .i64 ((rd_T97 l1_2 x50_2).f1), .int .i64 1, .int .i64 1000] (by rfl) rfl rfl (by (try simp only [List.map_toArray, List.map_cons, List.map_nil]); first | done | rfl | (simp only [List.length_drop, List.length_take]; rfl)) ?_
             with_reducible refine (spec_l1In.calls ((rd_T97 l1_2 x50_2).f1) 1 1000 true _ A56.out).mono ?_
             rintro e w' ⟨rfl, ⟨nd, rfl⟩⟩
             refine ⟨_, rfl, ?_⟩
             refine hK.out _ _ ⟨bZ BK194.out 0, bZ BK194.out 1, bZ BK203.out 0, bZ BK203.out 1, bZ BK195.out 0, bZ BK195.out 1, bZ BK195.out 2, bZ BK195.out 3, bZ BK195.out 4, bZ BK195.out 5⟩ (fun hHeld => ?_)
             clear hK K
             refine norm_ (a' := ?_) ?_ ?_
             rotate_left
             ·show Act.put _ (some 63) _ = _
              simp only [Act.put, List.setIfInBounds_toArray, List.set_cons_zero, List.set_cons_succ, i64_w, i32_w]
              rfl
             refine pur_ 9 64 (bs 29 1023) (any_of HT_.out kR) ?_
             refine pur_ 10 65 (bs 29 2047) (any_of HT_.out kR) ?_
             refine pur_ 11 66 (bs 29 4095) (any_of HT_.out kR) ?_
             refine pur_ 12 67 (bs 29 8191) (any_of HT_.out kR) ?_
             refine pur_ 14 69 (bs 29 24575) (any_of HT_.out kR) ?_
             refine tak_ 13 68 (bs 29 32767) (take_ofW HT_.out HW_.out kR) hHeld ?_
             refine tak_ 15 70 (bs 29 65535) (take_ofW HT_.out HW_.out kR) hHeld ?_
             refine pur_ 16 71 (bs 29 131071) (any_of HT_.out kR) ?_
             refine pur_ 17 72 (bs 29 262143) (any_of HT_.out kR) ?_
             refine pur_ 19 74 (bs 29 786431) (any_of HT_.out kR) ?_
             refine pur_ 21 76 (bs 29 2883583) (any_of HT_.out kR) ?_
             refine pur_ 24 79 (bs 29 19660799) (any_of HT_.out kR) ?_
             refine tak_ 18 73 (bs 29 19922943) (take_ofW HT_.out HW_.out kR) hHeld ?_
             refine tak_ 20 75 (bs 29 20971519) (take_ofW HT_.out HW_.out kR) hHeld ?_
             refine tak_ 22 77 (bs 29 25165823) (take_ofW HT_.out HW_.out kR) hHeld ?_
             refine tak_ 25 80 (bs 29 58720255) (take_ofW HT_.out HW_.out kR) hHeld ?_
             refine one_ (i := 23) (N := some 78) (bs 29 67108863) rfl rfl (one_of HT_.out (by kernel_rfl)) (by decide) (fun K hK => ?_)
             refine goes_ Try.func61 (by kernel_rfl) rfl #[.agg #[.slice A0_0 l0_0.length c0_0, .int .i64 a0_1], .int .i64 ((rd_T97 l1_2 x50_2).f0), .int .i64 a1_0] (by rfl) rfl rfl (by (try simp only [List.map_toArray, List.map_cons, List.map_nil]); first | done | rfl | (simp only [List.length_drop, List.length_take]; rfl)) ?_
             with_reducible refine (spec_l12Find.calls k2 _ _ l0_0 a0_1 ((rd_T97 l1_2 x50_2).f0) a1_0 t206 _ ?side1 ?side2 A59.out).mono ?_
             (case side1 => repeat (first | exact (Kd.C_below HR0_0.out lB) | (with_reducible refine Kd.C_alloc ?_ _) | (with_reducible refine Kd.C_drewN ?_ _) | (with_reducible refine Kd.C_drew ?_)))
             (case side2 => exact HC0_0.out)
             rintro e w63 ⟨rfl, hb⟩
             refine ⟨_, rfl, ?_⟩
             have n0_ := Aside0.mk (blk_below (lK BK194.out) hb)
             have n1_ := Aside0.mk (blk_below (lK BK195.out) hb)
             have n2_ := Aside0.mk (blk_below (lK BK203.out) hb)
             have n3_ := Aside0.mk (below_step lB hb)
             clear BK194
             clear BK195
             clear BK203
             clear HB
             have BK194 := n0_
             have BK195 := n1_
             have BK203 := n2_
             have HB := n3_
             clear n0_ n1_ n2_ n3_
             (try clear hb)
             (try clear hb2)
             (try clear hk)
             (try clear hi)
             refine hK.out _ _ ⟨bZ BK194.out 0, bZ BK194.out 1, bZ BK203.out 0, bZ BK203.out 1, bZ BK195.out 0, bZ BK195.out 1, bZ BK195.out 2, bZ BK195.out 3, bZ BK195.out 4, bZ BK195.out 5⟩ (fun hHeld => ?_)
             clear hK K
             refine norm_ (a' := ?_) ?_ ?_
             rotate_left
             ·show Act.put _ (some 78) _ = _
              simp only [Act.put, List.setIfInBounds_toArray, List.set_cons_zero, List.set_cons_succ, i64_w, i32_w]
              rfl
             refine pur_ 26 81 (bs 29 134217727) (any_of HT_.out kR) ?_
             refine pur_ 27 82 (bs 29 268435455) (any_of HT_.out kR) ?_
             refine pur_ 28 83 (bs 29 536870911) (any_of HT_.out kR) ?_
             refine done_ (done_of HT_.out (by kernel_rfl)) ?_
             try go_wp2
             go_meet
             case rel => exact ⟨_, ((t206 != ((rd_T97 l1_2 x50_2).f1))), lF, H', ⟨by have := HJ2.out; have := HK2.out; first | omega | exact Nat.le_refl _⟩, ⟨lK BK194.out⟩, ⟨lK BK195.out⟩, ⟨lK BK203.out⟩, ⟨lB⟩⟩
            ·rw [if_neg c58] at H
             have c58b0 : (a1_3 == a0_1) = false := beq_eq_false_iff_ne.mpr c58
             have c58b1 : (a1_3 != a0_1) = true := bne_iff_ne.mpr c58
             (first | rw [c58b0] | (simp only [i64_w, i32_w]; rw [c58b0]) | skip)
             have H' := Aside0.mk H
             clear H
             try go_wp2
             have n0_ : Aside0 (((w50.setCell ⟨gb203, 0, none⟩ (.int .i64 ((rd_T97 l1_2 x50_2).f0))).setCell ⟨gb203, 1, none⟩ (.int .i64 ((rd_T97 l1_2 x50_2).f1))).heap[gb194]? = some (.cells #[.slice A0_0 l0_0.length c0_0, .int .i64 a0_1] 29 (0, 0))) := ⟨lJ BK194.out⟩
             have n1_ : Aside0 (((w50.setCell ⟨gb203, 0, none⟩ (.int .i64 ((rd_T97 l1_2 x50_2).f0))).setCell ⟨gb203, 1, none⟩ (.int .i64 ((rd_T97 l1_2 x50_2).f1))).heap[gb195]? = some (.cells #[.int .i64 a1_0, .int .i64 a1_1, .slice (some ad202) l1_2.length c1_2, .int .i64 a1_3, .int .i64 a1_4, .int .i64 a1_5] 44 (0, 0))) := ⟨lJ BK195.out⟩
             have n2_ : Aside0 (((w50.setCell ⟨gb203, 0, none⟩ (.int .i64 ((rd_T97 l1_2 x50_2).f0))).setCell ⟨gb203, 1, none⟩ (.int .i64 ((rd_T97 l1_2 x50_2).f1))).heap[gb203]? = some (.cells #[.int .i64 ((rd_T97 l1_2 x50_2).f0), .int .i64 ((rd_T97 l1_2 x50_2).f1)] 97 (0, 0))) := ⟨by (with_reducible repeat first | apply bN | apply bD | apply bA); refine blk_put (cs := #[.int .i64 ((rd_T97 l1_2 x50_2).f0), .int .i64 0]) ?_ 1 _ rfl; (with_reducible repeat first | apply bN | apply bD | apply bA); refine blk_put (cs := #[.int .i64 0, .int .i64 0]) ?_ 0 _ rfl; (with_reducible repeat first | apply bN | apply bD | apply bA); exact BK203.out⟩
             have n3_ : Aside0 (Below w.heap.size w ((w50.setCell ⟨gb203, 0, none⟩ (.int .i64 ((rd_T97 l1_2 x50_2).f0))).setCell ⟨gb203, 1, none⟩ (.int .i64 ((rd_T97 l1_2 x50_2).f1)))) := ⟨lB⟩
             (try clear BK194)
             (try clear BK195)
             (try clear BK203)
             (try clear HB)
             generalize ((w50.setCell ⟨gb203, 0, none⟩ (.int .i64 ((rd_T97 l1_2 x50_2).f0))).setCell ⟨gb203, 1, none⟩ (.int .i64 ((rd_T97 l1_2 x50_2).f1))) = w64 at n0_ n1_ n2_ n3_ ⊢
             have BK194 := n0_
             have BK195 := n1_
             have BK203 := n2_
             have HB := n3_
             clear n0_ n1_ n2_ n3_
             have n0_ := Aside0.mk (blk_drew BK194.out)
             have n1_ := Aside0.mk (blk_drew BK195.out)
             have n2_ := Aside0.mk (blk_drew BK203.out)
             have n3_ := Aside0.mk (below_drew1 HB.out)
             clear BK194
             clear BK195
             clear BK203
             clear HB
             have BK194 := n0_
             have BK195 := n1_
             have BK203 := n2_
             have HB := n3_
             clear n0_ n1_ n2_ n3_
             refine start_ (n := 29) (S := fun w' => w'.cell? ⟨gb194, 0, none⟩ = some (.slice A0_0 l0_0.length c0_0) ∧ w'.cell? ⟨gb194, 1, none⟩ = some (.int .i64 a0_1) ∧ w'.cell? ⟨gb203, 0, none⟩ = some (.int .i64 ((rd_T97 l1_2 x50_2).f0)) ∧ w'.cell? ⟨gb203, 1, none⟩ = some (.int .i64 ((rd_T97 l1_2 x50_2).f1)) ∧ w'.cell? ⟨gb195, 0, none⟩ = some (.int .i64 a1_0) ∧ w'.cell? ⟨gb195, 1, none⟩ = some (.int .i64 a1_1) ∧ w'.cell? ⟨gb195, 2, none⟩ = some (.slice (some ad202) l1_2.length c1_2) ∧ w'.cell? ⟨gb195, 3, none⟩ = some (.int .i64 a1_3) ∧ w'.cell? ⟨gb195, 4, none⟩ = some (.int .i64 a1_4) ∧ w'.cell? ⟨gb195, 5, none⟩ = some (.int .i64 a1_5)) (ds := []) (bs 29 0) kR rfl kR ⟨bZ BK194.out 0, bZ BK194.out 1, bZ BK203.out 0, bZ BK203.out 1, bZ BK195.out 0, bZ BK195.out 1, bZ BK195.out 2, bZ BK195.out 3, bZ BK195.out 4, bZ BK195.out 5⟩ (fun hHeld => ?_); refine with_tabW spec_GoodCache.tab6 spec_GoodCache.bits6 (fun HT_ HW_ => ?_)
             generalize w64.drew = w65 at BK194 BK195 BK203 HB hHeld ⊢
             refine pur_ 1 56 (bs 29 2) (any_of HT_.out kR) ?_
             refine tak_ 0 55 (bs 29 3) (take_ofW HT_.out HW_.out kR) hHeld ?_
             refine tak_ 2 57 (bs 29 7) (take_ofW HT_.out HW_.out kR) hHeld ?_
             refine one_ (i := 3) (N := some 58) (bs 29 15) rfl rfl (one_of HT_.out (by kernel_rfl)) (by decide) (fun K hK => ?_)
             refine goes_ Try.func58 (by kernel_rfl) rfl #[.agg #[.slice A0_0 l0_0.length c0_0, .int .i64 a0_1], .int .i64 ((rd_T97 l1_2 x50_2).f0)] (by rfl) rfl rfl (by (try simp only [List.map_toArray, List.map_cons, List.map_nil]); first | done | rfl | (simp only [List.length_drop, List.length_take]; rfl)) ?_
             with_reducible refine (spec_l12Class.calls _ _ l0_0 a0_1 ((rd_T97 l1_2 x50_2).f0) true _ ?side1 ?side2 A54.out).mono ?_
             (case side1 => exact lC (Kd.C_below HR0_0.out HB.out))
             (case side2 => exact HC0_0.out)
             rintro e w66 ⟨rfl, hb⟩
             refine ⟨_, rfl, ?_⟩
             have n0_ := Aside0.mk (blk_below (lK BK194.out) hb)
             have n1_ := Aside0.mk (blk_below (lK BK195.out) hb)
             have n2_ := Aside0.mk (blk_below (lK BK203.out) hb)
             have n3_ := Aside0.mk (below_step lB hb)
             clear BK194
             clear BK195
             clear BK203
             clear HB
             have BK194 := n0_
             have BK195 := n1_
             have BK203 := n2_
             have HB := n3_
             clear n0_ n1_ n2_ n3_
             (try clear hb)
             (try clear hb2)
             (try clear hk)
             (try clear hi)
             refine hK.out _ _ ⟨bZ BK194.out 0, bZ BK194.out 1, bZ BK203.out 0, bZ BK203.out 1, bZ BK195.out 0, bZ BK195.out 1, bZ BK195.out 2, bZ BK195.out 3, bZ BK195.out 4, bZ BK195.out 5⟩ (fun hHeld => ?_)
             clear hK K
             refine norm_ (a' := ?_) ?_ ?_
             rotate_left
             ·show Act.put _ (some 58) _ = _
              simp only [Act.put, List.setIfInBounds_toArray, List.set_cons_zero, List.set_cons_succ, i64_w, i32_w]
              rfl
             refine pur_ 4 59 (bs 29 31) (any_of HT_.out kR) ?_
             refine pur_ 5 60 (bs 29 63) (any_of HT_.out kR) ?_
             refine pur_ 6 61 (bs 29 127) (any_of HT_.out kR) ?_
             refine tak_ 7 62 (bs 29 255) (take_ofW HT_.out HW_.out kR) hHeld ?_
             refine one_ (i := 8) (N := some 63) (bs 29 511) rfl rfl (one_of HT_.out (by kernel_rfl)) (by decide) (fun K hK => ?_)
             refine goes_ Try.func54 (by kernel_rfl) rfl #[.int .i64 ((rd_T97 l1_2 x50_2).f1), .int .i64 1, .int .i64 1000] (by rfl) rfl rfl (by (try simp only [List.map_toArray, List.map_cons, List.map_nil]); first | done | rfl | (simp only [List.length_drop, List.length_take]; rfl)) ?_
             with_reducible refine (spec_l1In.calls ((rd_T97 l1_2 x50_2).f1) 1 1000 true _ A56.out).mono ?_
             rintro e w' ⟨rfl, ⟨nd, rfl⟩⟩
             refine ⟨_, rfl, ?_⟩
             refine hK.out _ _ ⟨bZ BK194.out 0, bZ BK194.out 1, bZ BK203.out 0, bZ BK203.out 1, bZ BK195.out 0, bZ BK195.out 1, bZ BK195.out 2, bZ BK195.out 3, bZ BK195.out 4, bZ BK195.out 5⟩ (fun hHeld => ?_)
             clear hK K
             refine norm_ (a' := ?_) ?_ ?_
             rotate_left
             ·show Act.put _ (some 63) _ = _
              simp only [Act.put, List.setIfInBounds_toArray, List.set_cons_zero, List.set_cons_succ, i64_w, i32_w]
              rfl
             refine pur_ 9 64 (bs 29 1023) (any_of HT_.out kR) ?_
             refine pur_ 10 65 (bs 29 2047) (any_of HT_.out kR) ?_
             refine pur_ 11 66 (bs 29 4095) (any_of HT_.out kR) ?_
             refine pur_ 12 67 (bs 29 8191) (any_of HT_.out kR) ?_
             refine pur_ 14 69 (bs 29 24575) (any_of HT_.out kR) ?_
             refine tak_ 13 68 (bs 29 32767) (take_ofW HT_.out HW_.out kR) hHeld ?_
             refine tak_ 15 70 (bs 29 65535) (take_ofW HT_.out HW_.out kR) hHeld ?_
             refine pur_ 16 71 (bs 29 131071) (any_of HT_.out kR) ?_
             refine pur_ 17 72 (bs 29 262143) (any_of HT_.out kR) ?_
             refine puu_ 18 73 (bs 29 524287) (any_of HT_.out kR) ?_
             refine puu_ 19 74 (bs 29 1048575) (any_of HT_.out kR) ?_
             refine puu_ 20 75 (bs 29 2097151) (any_of HT_.out kR) ?_
             refine puu_ 21 76 (bs 29 4194303) (any_of HT_.out kR) ?_
             refine puu_ 22 77 (bs 29 8388607) (any_of HT_.out kR) ?_
             refine puu_ 23 78 (bs 29 16777215) (any_of HT_.out kR) ?_
             refine puu_ 24 79 (bs 29 33554431) (any_of HT_.out kR) ?_
             refine puu_ 25 80 (bs 29 67108863) (any_of HT_.out kR) ?_
             refine puu_ 26 81 (bs 29 134217727) (any_of HT_.out kR) ?_
             refine pur_ 27 82 (bs 29 268435455) (any_of HT_.out kR) ?_
             refine pur_ 28 83 (bs 29 536870911) (any_of HT_.out kR) ?_
             refine done_ (done_of HT_.out (by kernel_rfl)) ?_
             try go_wp2
             go_meet
             case rel => exact ⟨_, (false), lF, H', ⟨by have := HJ2.out; have := HK2.out; first | omega | exact Nat.le_refl _⟩, ⟨lK BK194.out⟩, ⟨lK BK195.out⟩, ⟨lK BK203.out⟩, ⟨lB⟩⟩
           ·replace c57 := Bool.eq_false_iff.mpr c57
            subst c57
            rw [if_neg (show ¬ (false = true) by decide)] at H
            have H' := Aside0.mk H
            clear H
            try go_wp2
            have n0_ : Aside0 (((w50.setCell ⟨gb203, 0, none⟩ (.int .i64 ((rd_T97 l1_2 x50_2).f0))).setCell ⟨gb203, 1, none⟩ (.int .i64 ((rd_T97 l1_2 x50_2).f1))).heap[gb194]? = some (.cells #[.slice A0_0 l0_0.length c0_0, .int .i64 a0_1] 29 (0, 0))) := ⟨lJ BK194.out⟩
            have n1_ : Aside0 (((w50.setCell ⟨gb203, 0, none⟩ (.int .i64 ((rd_T97 l1_2 x50_2).f0))).setCell ⟨gb203, 1, none⟩ (.int .i64 ((rd_T97 l1_2 x50_2).f1))).heap[gb195]? = some (.cells #[.int .i64 a1_0, .int .i64 a1_1, .slice (some ad202) l1_2.length c1_2, .int .i64 a1_3, .int .i64 a1_4, .int .i64 a1_5] 44 (0, 0))) := ⟨lJ BK195.out⟩
            have n2_ : Aside0 (((w50.setCell ⟨gb203, 0, none⟩ (.int .i64 ((rd_T97 l1_2 x50_2).f0))).setCell ⟨gb203, 1, none⟩ (.int .i64 ((rd_T97 l1_2 x50_2).f1))).heap[gb203]? = some (.cells #[.int .i64 ((rd_T97 l1_2 x50_2).f0), .int .i64 ((rd_T97 l1_2 x50_2).f1)] 97 (0, 0))) := ⟨by (with_reducible repeat first | apply bN | apply bD | apply bA); refine blk_put (cs := #[.int .i64 ((rd_T97 l1_2 x50_2).f0), .int .i64 0]) ?_ 1 _ rfl; (with_reducible repeat first | apply bN | apply bD | apply bA); refine blk_put (cs := #[.int .i64 0, .int .i64 0]) ?_ 0 _ rfl; (with_reducible repeat first | apply bN | apply bD | apply bA); exact BK203.out⟩
            have n3_ : Aside0 (Below w.heap.size w ((w50.setCell ⟨gb203, 0, none⟩ (.int .i64 ((rd_T97 l1_2 x50_2).f0))).setCell ⟨gb203, 1, none⟩ (.int .i64 ((rd_T97 l1_2 x50_2).f1)))) := ⟨lB⟩
            (try clear BK194)
            (try clear BK195)
            (try clear BK203)
            (try clear HB)
            generalize ((w50.setCell ⟨gb203, 0, none⟩ (.int .i64 ((rd_T97 l1_2 x50_2).f0))).setCell ⟨gb203, 1, none⟩ (.int .i64 ((rd_T97 l1_2 x50_2).f1))) = w67 at n0_ n1_ n2_ n3_ ⊢
            have BK194 := n0_
            have BK195 := n1_
            have BK203 := n2_
            have HB := n3_
            clear n0_ n1_ n2_ n3_
            have n0_ := Aside0.mk (blk_drew BK194.out)
            have n1_ := Aside0.mk (blk_drew BK195.out)
            have n2_ := Aside0.mk (blk_drew BK203.out)
            have n3_ := Aside0.mk (below_drew1 HB.out)
            clear BK194
            clear BK195
            clear BK203
            clear HB
            have BK194 := n0_
            have BK195 := n1_
            have BK203 := n2_
            have HB := n3_
            clear n0_ n1_ n2_ n3_
            refine start_ (n := 29) (S := fun w' => w'.cell? ⟨gb194, 0, none⟩ = some (.slice A0_0 l0_0.length c0_0) ∧ w'.cell? ⟨gb194, 1, none⟩ = some (.int .i64 a0_1) ∧ w'.cell? ⟨gb203, 0, none⟩ = some (.int .i64 ((rd_T97 l1_2 x50_2).f0)) ∧ w'.cell? ⟨gb203, 1, none⟩ = some (.int .i64 ((rd_T97 l1_2 x50_2).f1))) (ds := []) (bs 29 0) kR rfl kR ⟨bZ BK194.out 0, bZ BK194.out 1, bZ BK203.out 0, bZ BK203.out 1⟩ (fun hHeld => ?_); refine with_tabW spec_GoodCache.tab6 spec_GoodCache.bits6 (fun HT_ HW_ => ?_)
            generalize w67.drew = w68 at BK194 BK195 BK203 HB hHeld ⊢
            refine pur_ 1 56 (bs 29 2) (any_of HT_.out kR) ?_
            refine tak_ 0 55 (bs 29 3) (take_ofW HT_.out HW_.out kR) hHeld ?_
            refine tak_ 2 57 (bs 29 7) (take_ofW HT_.out HW_.out kR) hHeld ?_
            refine one_ (i := 3) (N := some 58) (bs 29 15) rfl rfl (one_of HT_.out (by kernel_rfl)) (by decide) (fun K hK => ?_)
            refine goes_ Try.func58 (by kernel_rfl) rfl #[.agg #[.slice A0_0 l0_0.length c0_0, .int .i64 a0_1], .int .i64 ((rd_T97 l1_2 x50_2).f0)] (by rfl) rfl rfl (by (try simp only [List.map_toArray, List.map_cons, List.map_nil]); first | done | rfl | (simp only [List.length_drop, List.length_take]; rfl)) ?_
            with_reducible refine (spec_l12Class.calls _ _ l0_0 a0_1 ((rd_T97 l1_2 x50_2).f0) true _ ?side1 ?side2 A54.out).mono ?_
            (case side1 => exact lC (Kd.C_below HR0_0.out HB.out))
            (case side2 => exact HC0_0.out)
            rintro e w69 ⟨rfl, hb⟩
            refine ⟨_, rfl, ?_⟩
            have n0_ := Aside0.mk (blk_below (lK BK194.out) hb)
            have n1_ := Aside0.mk (blk_below (lK BK195.out) hb)
            have n2_ := Aside0.mk (blk_below (lK BK203.out) hb)
            have n3_ := Aside0.mk (below_step lB hb)
            clear BK194
            clear BK195
            clear BK203
            clear HB
            have BK194 := n0_
            have BK195 := n1_
            have BK203 := n2_
            have HB := n3_
            clear n0_ n1_ n2_ n3_
            (try clear hb)
            (try clear hb2)
            (try clear hk)
            (try clear hi)
            refine hK.out _ _ ⟨bZ BK194.out 0, bZ BK194.out 1, bZ BK203.out 0, bZ BK203.out 1⟩ (fun hHeld => ?_)
            clear hK K
            refine norm_ (a' := ?_) ?_ ?_
            rotate_left
            ·show Act.put _ (some 58) _ = _
             simp only [Act.put, List.setIfInBounds_toArray, List.set_cons_zero, List.set_cons_succ, i64_w, i32_w]
             rfl
            refine pur_ 4 59 (bs 29 31) (any_of HT_.out kR) ?_
            refine pur_ 5 60 (bs 29 63) (any_of HT_.out kR) ?_
            refine pur_ 6 61 (bs 29 127) (any_of HT_.out kR) ?_
            refine tak_ 7 62 (bs 29 255) (take_ofW HT_.out HW_.out kR) hHeld ?_
            refine one_ (i := 8) (N := some 63) (bs 29 511) rfl rfl (one_of HT_.out (by kernel_rfl)) (by decide) (fun K hK => ?_)
            refine goes_ Try.func54 (by kernel_rfl) rfl #[.int .i64 ((rd_T97 l1_2 x50_2).f1), .int .i64 1, .int .i64 1000] (by rfl) rfl rfl (by (try simp only [List.map_toArray, List.map_cons, List.map_nil]); first | done | rfl | (simp only [List.length_drop, List.length_take]; rfl)) ?_
            with_reducible refine (spec_l1In.calls ((rd_T97 l1_2 x50_2).f1) 1 1000 false _ A56.out).mono ?_
            rintro e w' ⟨rfl, ⟨nd, rfl⟩⟩
            refine ⟨_, rfl, ?_⟩
            refine hK.out _ _ ⟨bZ BK194.out 0, bZ BK194.out 1, bZ BK203.out 0, bZ BK203.out 1⟩ (fun hHeld => ?_)
            clear hK K
            refine norm_ (a' := ?_) ?_ ?_
            rotate_left
            ·show Act.put _ (some 63) _ = _
             simp only [Act.put, List.setIfInBounds_toArray, List.set_cons_zero, List.set_cons_succ, i64_w, i32_w]
             rfl
            refine pur_ 9 64 (bs 29 1023) (any_of HT_.out kR) ?_
            refine pur_ 10 65 (bs 29 2047) (any_of HT_.out kR) ?_
            refine pur_ 11 66 (bs 29 4095) (any_of HT_.out kR) ?_
            refine puu_ 12 67 (bs 29 8191) (any_of HT_.out kR) ?_
            refine puu_ 13 68 (bs 29 16383) (any_of HT_.out kR) ?_
            refine puu_ 14 69 (bs 29 32767) (any_of HT_.out kR) ?_
            refine puu_ 15 70 (bs 29 65535) (any_of HT_.out kR) ?_
            refine puu_ 16 71 (bs 29 131071) (any_of HT_.out kR) ?_
            refine puu_ 17 72 (bs 29 262143) (any_of HT_.out kR) ?_
            refine puu_ 18 73 (bs 29 524287) (any_of HT_.out kR) ?_
            refine puu_ 19 74 (bs 29 1048575) (any_of HT_.out kR) ?_
            refine puu_ 20 75 (bs 29 2097151) (any_of HT_.out kR) ?_
            refine puu_ 21 76 (bs 29 4194303) (any_of HT_.out kR) ?_
            refine puu_ 22 77 (bs 29 8388607) (any_of HT_.out kR) ?_
            refine puu_ 23 78 (bs 29 16777215) (any_of HT_.out kR) ?_
            refine puu_ 24 79 (bs 29 33554431) (any_of HT_.out kR) ?_
            refine puu_ 25 80 (bs 29 67108863) (any_of HT_.out kR) ?_
            refine puu_ 26 81 (bs 29 134217727) (any_of HT_.out kR) ?_
            refine puu_ 27 82 (bs 29 268435455) (any_of HT_.out kR) ?_
            refine pur_ 28 83 (bs 29 536870911) (any_of HT_.out kR) ?_
            refine done_ (done_of HT_.out (by kernel_rfl)) ?_
            try go_wp2
            go_meet
            case rel => exact ⟨_, (true), lF, H', ⟨by have := HJ2.out; have := HK2.out; first | omega | exact Nat.le_refl _⟩, ⟨lK BK194.out⟩, ⟨lK BK195.out⟩, ⟨lK BK203.out⟩, ⟨lB⟩⟩
          ·replace c55 := Bool.eq_false_iff.mpr c55
           subst c55
           rw [if_neg (show ¬ (false = true) by decide)] at H
           have H' := Aside0.mk H
           clear H
           try go_wp2
           have n0_ : Aside0 (((w50.setCell ⟨gb203, 0, none⟩ (.int .i64 ((rd_T97 l1_2 x50_2).f0))).setCell ⟨gb203, 1, none⟩ (.int .i64 ((rd_T97 l1_2 x50_2).f1))).heap[gb194]? = some (.cells #[.slice A0_0 l0_0.length c0_0, .int .i64 a0_1] 29 (0, 0))) := ⟨lJ BK194.out⟩
           have n1_ : Aside0 (((w50.setCell ⟨gb203, 0, none⟩ (.int .i64 ((rd_T97 l1_2 x50_2).f0))).setCell ⟨gb203, 1, none⟩ (.int .i64 ((rd_T97 l1_2 x50_2).f1))).heap[gb195]? = some (.cells #[.int .i64 a1_0, .int .i64 a1_1, .slice (some ad202) l1_2.length c1_2, .int .i64 a1_3, .int .i64 a1_4, .int .i64 a1_5] 44 (0, 0))) := ⟨lJ BK195.out⟩
           have n2_ : Aside0 (((w50.setCell ⟨gb203, 0, none⟩ (.int .i64 ((rd_T97 l1_2 x50_2).f0))).setCell ⟨gb203, 1, none⟩ (.int .i64 ((rd_T97 l1_2 x50_2).f1))).heap[gb203]? = some (.cells #[.int .i64 ((rd_T97 l1_2 x50_2).f0), .int .i64 ((rd_T97 l1_2 x50_2).f1)] 97 (0, 0))) := ⟨by (with_reducible repeat first | apply bN | apply bD | apply bA); refine blk_put (cs := #[.int .i64 ((rd_T97 l1_2 x50_2).f0), .int .i64 0]) ?_ 1 _ rfl; (with_reducible repeat first | apply bN | apply bD | apply bA); refine blk_put (cs := #[.int .i64 0, .int .i64 0]) ?_ 0 _ rfl; (with_reducible repeat first | apply bN | apply bD | apply bA); exact BK203.out⟩
           have n3_ : Aside0 (Below w.heap.size w ((w50.setCell ⟨gb203, 0, none⟩ (.int .i64 ((rd_T97 l1_2 x50_2).f0))).setCell ⟨gb203, 1, none⟩ (.int .i64 ((rd_T97 l1_2 x50_2).f1)))) := ⟨lB⟩
           (try clear BK194)
           (try clear BK195)
           (try clear BK203)
           (try clear HB)
           generalize ((w50.setCell ⟨gb203, 0, none⟩ (.int .i64 ((rd_T97 l1_2 x50_2).f0))).setCell ⟨gb203, 1, none⟩ (.int .i64 ((rd_T97 l1_2 x50_2).f1))) = w70 at n0_ n1_ n2_ n3_ ⊢
           have BK194 := n0_
           have BK195 := n1_
           have BK203 := n2_
           have HB := n3_
           clear n0_ n1_ n2_ n3_
           have n0_ := Aside0.mk (blk_drew BK194.out)
           have n1_ := Aside0.mk (blk_drew BK195.out)
           have n2_ := Aside0.mk (blk_drew BK203.out)
           have n3_ := Aside0.mk (below_drew1 HB.out)
           clear BK194
           clear BK195
           clear BK203
           clear HB
           have BK194 := n0_
           have BK195 := n1_
           have BK203 := n2_
           have HB := n3_
           clear n0_ n1_ n2_ n3_
           refine start_ (n := 29) (S := fun w' => w'.cell? ⟨gb194, 0, none⟩ = some (.slice A0_0 l0_0.length c0_0) ∧ w'.cell? ⟨gb194, 1, none⟩ = some (.int .i64 a0_1) ∧ w'.cell? ⟨gb203, 0, none⟩ = some (.int .i64 ((rd_T97 l1_2 x50_2).f0)) ∧ w'.cell? ⟨gb203, 1, none⟩ = some (.int .i64 ((rd_T97 l1_2 x50_2).f1))) (ds := []) (bs 29 0) kR rfl kR ⟨bZ BK194.out 0, bZ BK194.out 1, bZ BK203.out 0, bZ BK203.out 1⟩ (fun hHeld => ?_); refine with_tabW spec_GoodCache.tab6 spec_GoodCache.bits6 (fun HT_ HW_ => ?_)
           generalize w70.drew = w71 at BK194 BK195 BK203 HB hHeld ⊢
           refine pur_ 1 56 (bs 29 2) (any_of HT_.out kR) ?_
           refine tak_ 0 55 (bs 29 3) (take_ofW HT_.out HW_.out kR) hHeld ?_
           refine tak_ 2 57 (bs 29 7) (take_ofW HT_.out HW_.out kR) hHeld ?_
           refine one_ (i := 3) (N := some 58) (bs 29 15) rfl rfl (one_of HT_.out (by kernel_rfl)) (by decide) (fun K hK => ?_)
           refine goes_ Try.func58 (by kernel_rfl) rfl #[.agg #[.slice A0_0 l0_0.length c0_0, .int .i64 a0_1], .int .i64 ((rd_T97 l1_2 x50_2).f0)] (by rfl) rfl rfl (by (try simp only [List.map_toArray, List.map_cons, List.map_nil]); first | done | rfl | (simp only [List.length_drop, List.length_take]; rfl)) ?_
           with_reducible refine (spec_l12Class.calls _ _ l0_0 a0_1 ((rd_T97 l1_2 x50_2).f0) false _ ?side1 ?side2 A54.out).mono ?_
           (case side1 => exact lC (Kd.C_below HR0_0.out HB.out))
           (case side2 => exact HC0_0.out)
           rintro e w72 ⟨rfl, hb⟩
           refine ⟨_, rfl, ?_⟩
           have n0_ := Aside0.mk (blk_below (lK BK194.out) hb)
           have n1_ := Aside0.mk (blk_below (lK BK195.out) hb)
           have n2_ := Aside0.mk (blk_below (lK BK203.out) hb)
           have n3_ := Aside0.mk (below_step lB hb)
           clear BK194
           clear BK195
           clear BK203
           clear HB
           have BK194 := n0_
           have BK195 := n1_
           have BK203 := n2_
           have HB := n3_
           clear n0_ n1_ n2_ n3_
           (try clear hb)
           (try clear hb2)
           (try clear hk)
           (try clear hi)
           refine hK.out _ _ ⟨bZ BK194.out 0, bZ BK194.out 1, bZ BK203.out 0, bZ BK203.out 1⟩ (fun hHeld => ?_)
           clear hK K
           refine norm_ (a' := ?_) ?_ ?_
           rotate_left
           ·show Act.put _ (some 58) _ = _
            simp only [Act.put, List.setIfInBounds_toArray, List.set_cons_zero, List.set_cons_succ, i64_w, i32_w]
            rfl
           refine pur_ 4 59 (bs 29 31) (any_of HT_.out kR) ?_
           refine pur_ 5 60 (bs 29 63) (any_of HT_.out kR) ?_
           refine puu_ 6 61 (bs 29 127) (any_of HT_.out kR) ?_
           refine puu_ 7 62 (bs 29 255) (any_of HT_.out kR) ?_
           refine puu_ 8 63 (bs 29 511) (any_of HT_.out kR) ?_
           refine puu_ 9 64 (bs 29 1023) (any_of HT_.out kR) ?_
           refine pur_ 10 65 (bs 29 2047) (any_of HT_.out kR) ?_
           refine pur_ 11 66 (bs 29 4095) (any_of HT_.out kR) ?_
           refine puu_ 12 67 (bs 29 8191) (any_of HT_.out kR) ?_
           refine puu_ 13 68 (bs 29 16383) (any_of HT_.out kR) ?_
           refine puu_ 14 69 (bs 29 32767) (any_of HT_.out kR) ?_
           refine puu_ 15 70 (bs 29 65535) (any_of HT_.out kR) ?_
           refine puu_ 16 71 (bs 29 131071) (any_of HT_.out kR) ?_
           refine puu_ 17 72 (bs 29 262143) (any_of HT_.out kR) ?_
           refine puu_ 18 73 (bs 29 524287) (any_of HT_.out kR) ?_
           refine puu_ 19 74 (bs 29 1048575) (any_of HT_.out kR) ?_
           refine puu_ 20 75 (bs 29 2097151) (any_of HT_.out kR) ?_
           refine puu_ 21 76 (bs 29 4194303) (any_of HT_.out kR) ?_
           refine puu_ 22 77 (bs 29 8388607) (any_of HT_.out kR) ?_
           refine puu_ 23 78 (bs 29 16777215) (any_of HT_.out kR) ?_
           refine puu_ 24 79 (bs 29 33554431) (any_of HT_.out kR) ?_
           refine puu_ 25 80 (bs 29 67108863) (any_of HT_.out kR) ?_
           refine puu_ 26 81 (bs 29 134217727) (any_of HT_.out kR) ?_
           refine puu_ 27 82 (bs 29 268435455) (any_of HT_.out kR) ?_
           refine pur_ 28 83 (bs 29 536870911) (any_of HT_.out kR) ?_
           refine done_ (done_of HT_.out (by kernel_rfl)) ?_
           try go_wp2
           go_meet
           case rel => exact ⟨_, (true), lF, H', ⟨by have := HJ2.out; have := HK2.out; first | omega | exact Nat.le_refl _⟩, ⟨lK BK194.out⟩, ⟨lK BK195.out⟩, ⟨lK BK203.out⟩, ⟨lB⟩⟩
         case rest =>
          clear HC49
          try clear c1
          try clear p2
          try clear c5
          try clear c54
          try clear c55
          try clear c57
          try clear c58
          obtain ⟨kq, x83_48, rfl, HA, HJ48, BK194, BK195, BK203, HB⟩ := hcut
          cases kq with
          | zero => exact absurd HA.out (by simp [spec_GoodCache.j2])
          | succ kj48 =>
           have H := HA.out
           clear HA
           simp only [spec_GoodCache.j2] at H
           by_cases c73 : x83_48 = true
           ·subst c73
            rw [if_pos rfl] at H
            obtain rfl := Option.some.inj H
            first | (go_wp2; go_ret; exact ⟨lE, lB⟩) | (exfalso; simp only [decide_eq_false_iff_not, decide_eq_true_eq] at *; omega)
           ·replace c73 := Bool.eq_false_iff.mpr c73
            subst c73
            rw [if_neg (show ¬ (false = true) by decide)] at H
            by_cases c74 : 0 ≤ x50_2
            ·rw [if_pos c74] at H
             have c74b0 := eq_true c74
             have c74b1 : decide (0 ≤ x50_2) = true := decide_eq_true c74
             clear c74
             by_cases c75 : x50_2 ≤ (l1_2.length : Int)
             ·rw [if_pos c75] at H
              have c75b0 := eq_true c75
              have c75b1 : decide (x50_2 ≤ (l1_2.length : Int)) = true := decide_eq_true c75
              clear c75
              obtain ⟨y207, hy207⟩ : ∃ y_ : List (S97), y_ = (l1_2.take (x50_2 : Int).toNat) := ⟨_, rfl⟩
              replace H : (spec_GoodCache.l1 kj48 l1_2 (l1_2.length : Int) x50_2 y207 (y207.length : Int) 0 l0_0 a0_1 a1_0 a1_1 l1_2 a1_3 a1_4 a1_5 ((rd_T97 l1_2 x50_2).f0) ((rd_T97 l1_2 x50_2).f1)) = some r := by first | (rw [hy207]; with_reducible exact H) | (have H2_ := (Option.bind_some _ _).symm.trans H; rw [hy207]; with_reducible exact H2_) | (have H2_ := (Option.bind_some _ _).symm.trans H; with_reducible exact H2_) | with_reducible exact H | (rw [hy207]; exact H) | exact H
              have Ny207 := Aside0.mk hy207
              clear hy207
              have H' := Aside0.mk H
              clear H
              have hnb76 := NB195_194.out
              have hnc76 := NB194_195.out
              have hnb77 := NB195_203.out
              have hnc77 := NB203_195.out
              obtain ⟨hcz78_0, hfz78_0, hcz78_1, hfz78_1, hcz78_2, hfz78_2, hcz78_3, hfz78_3, hcz78_4, hfz78_4, hcz78_5, hfz78_5⟩ := bk6 BK195.out
              have q79 : (x50_2 : Int) ≤ ((l1_2.length : Int) : Int) := lD
              obtain ⟨i079, hi079, _, hsz79, _⟩ := info_parts info97
              have hroom79 : l1_2.length ≤ c1_2 := HC1_2.out
              have hC79 : Kd.C k97 _ (some ad202) l1_2.length l1_2 := HR1_2.out
              have hcut79 := cut_to (P := Try.prog) 42 97 .i64 Try.underlying42 hi079 (some ad202) l1_2.length c1_2 x50_2 (lD) q79 hroom79
              have hr79 := Kd.C_take (m := (x50_2 : Int).toNat) hC79 (by omega)
              have hy79 : y207.length = (x50_2 : Int).toNat := (by rw [Ny207.out, List.length_take]; omega)
              rw [← Ny207.out] at hr79
              rw [← hy79] at hcut79
              have HR210 := Aside0.mk hr79
              have HC210 := Aside0.mk (show y207.length ≤ c1_2 from by omega)
              clear hr79 hC79 hroom79 hi079 hsz79
              have KY79 := Aside0.mk hy79
              clear hy79
              replace q79 := eq_true q79
              go_wp2
              go_loopg [89] kj48 (fun kq v89 w' => ∃ (x89_4 : Int), v89 = .int .i64 x89_4 ∧ Aside0 (spec_GoodCache.l1 kq l1_2 (l1_2.length : Int) x50_2 y207 (y207.length : Int) x89_4 l0_0 a0_1 a1_0 a1_1 l1_2 a1_3 a1_4 a1_5 ((rd_T97 l1_2 x50_2).f0) ((rd_T97 l1_2 x50_2).f1) = some r) ∧ Aside0 (kq ≤ kj48) ∧ Aside0 (w'.heap[gb194]? = some (.cells #[(.slice A0_0 l0_0.length c0_0), .int .i64 a0_1] 29 (0, 0))) ∧ Aside0 (w'.heap[gb195]? = some (.cells #[.int .i64 a1_0, .int .i64 a1_1, (.slice (some ad202) l1_2.length c1_2), .int .i64 a1_3, .int .i64 a1_4, .int .i64 a1_5] 44 (0, 0))) ∧ Aside0 (w'.heap[gb203]? = some (.cells #[.int .i64 ((rd_T97 l1_2 x50_2).f0), .int .i64 ((rd_T97 l1_2 x50_2).f1)] 97 (0, 0))) ∧ Aside0 (Below w.heap.size w w'))
              case atStart => exact ⟨(0), lF, H', ⟨Nat.le_refl _⟩, ⟨lK BK194.out⟩, ⟨lK BK195.out⟩, ⟨lK BK203.out⟩, ⟨lB⟩⟩
              case round =>
               clear H'
               try clear c1
               try clear p2
               try clear c5
               try clear c7
               try clear q7
               try clear c54
               try clear c55
               try clear c57
               try clear c58
               try clear c73
               try clear c74
               try clear c74b0
               try clear c74b1
               try clear c75
               try clear c75b0
               try clear c75b1
               try clear c76
               try clear c77
               try clear q79
               try clear hcz78_0 hcz78_1 hcz78_2 hcz78_3 hcz78_4 hcz78_5 hfz78_0 hfz78_1 hfz78_2 hfz78_3 hfz78_4 hfz78_5
               try clear p2
               try clear q79
               obtain ⟨x89_4, rfl, HA, HK4, BK194, BK195, BK203, HB⟩ := hrel
               cases gk with
               | zero => exact absurd HA.out (by simp [spec_GoodCache.l1])
               | succ k4 =>
                have H := HA.out
                clear HA
                simp only [spec_GoodCache.l1] at H
                by_cases c80 : x89_4 < (y207.length : Int)
                ·rw [if_pos c80] at H
                 have c80b0 : decide (x89_4 < (y207.length : Int)) = true := decide_eq_true c80
                 clear c80
                 by_cases c81 : 0 ≤ x89_4
                 ·rw [if_pos c81] at H
                  have c81b0 : decide (0 ≤ x89_4) = true := decide_eq_true c81
                  clear c81
                  by_cases c82 : x89_4 < (y207.length : Int)
                  ·rw [if_pos c82] at H
                   have c82b0 : decide (x89_4 < (y207.length : Int)) = true := decide_eq_true c82
                   clear c82
                   by_cases c83 : ((rd_T97 y207 x89_4).f0) = ((rd_T97 l1_2 x50_2).f0)
                   ·rw [if_pos c83] at H
                    have c83b0 : (((rd_T97 y207 x89_4).f0) == ((rd_T97 l1_2 x50_2).f0)) = true := beq_iff_eq.mpr c83
                    have c83b1 : (((rd_T97 y207 x89_4).f0) != ((rd_T97 l1_2 x50_2).f0)) = false := bne_eq_false_iff_eq.mpr c83
                    clear c83
                    obtain rfl := Option.some.inj H
                    have p211 : 0 ≤ (x89_4 : Int) := lD
                    have q211 : x89_4 < (y207.length : Int) := lD
                    obtain ⟨ad211, e211, hx211_0, hx211_1⟩ := at_T97 HR210.out x89_4 p211 q211
                    obtain rfl : ad202 = ad211 := (by injection e211)
                    replace hx211_0 := pw_cell_below HB.out hx211_0
                    replace hx211_1 := pw_cell_below HB.out hx211_1
                    replace p211 := eq_true p211
                    replace q211 := eq_true q211
                    go_wp2_with (first | ((with_reducible refine gate_dst (N := 8) rfl ?_); (try (refine gate_guard (by rfl) ?_; dsimp only)); refine bxe 8 #[.int .i64 0, .int .i64 0] 97 ?_; intro gb212 hg w84 hbox hb; have n0_ := Aside0.mk (blk_below (lK BK194.out) hb); have n1_ := Aside0.mk (blk_below (lK BK195.out) hb); have n2_ := Aside0.mk (blk_below (lK BK203.out) hb); have n3_ := Aside0.mk (below_step lB hb); have n4_ := Aside0.mk (hbox); have n5_ := lG w hg; have n6_ := lG w hg; have n7_ := Aside0.mk ((by rw [hg]; exact Nat.ne_of_lt (blk_lt (lK BK194.out)) : gb194 ≠ gb212)); have n8_ := Aside0.mk ((by rw [hg]; exact Nat.ne_of_gt (blk_lt (lK BK194.out)) : gb212 ≠ gb194)); have n9_ := Aside0.mk ((by rw [hg]; exact Nat.ne_of_lt (blk_lt (lK BK195.out)) : gb195 ≠ gb212)); have n10_ := Aside0.mk ((by rw [hg]; exact Nat.ne_of_gt (blk_lt (lK BK195.out)) : gb212 ≠ gb195)); have n11_ := Aside0.mk ((by rw [hg]; exact Nat.ne_of_lt (blk_lt (lK BK203.out)) : gb203 ≠ gb212)); have n12_ := Aside0.mk ((by rw [hg]; exact Nat.ne_of_gt (blk_lt (lK BK203.out)) : gb212 ≠ gb203)); clear BK194; clear BK195; clear BK203; clear HB; have BK194 := n0_; have BK195 := n1_; have BK203 := n2_; have HB := n3_; have BK212 := n4_; have GW212 := n5_; have GE212 := n6_; have NB194_212 := n7_; have NB212_194 := n8_; have NB195_212 := n9_; have NB212_195 := n10_; have NB203_212 := n11_; have NB212_203 := n12_; clear n0_ n1_ n2_ n3_ n4_ n5_ n6_ n7_ n8_ n9_ n10_ n11_ n12_; clear hb hbox hg; have hnb85 := NB212_194.out; have hnc85 := NB194_212.out; have hnb86 := NB212_195.out; have hnc86 := NB195_212.out; have hnb87 := NB212_203.out; have hnc87 := NB203_212.out; obtain ⟨hcz88_0, hfz88_0, hcz88_1, hfz88_1⟩ := bk2 BK212.out; have hnb89 := NB203_194.out; have hnc89 := NB194_203.out; have hnb90 := NB203_195.out; have hnc90 := NB195_203.out; obtain ⟨hcz91_0, hfz91_0, hcz91_1, hfz91_1⟩ := bk2 BK203.out))
                    go_ret
                    exact ⟨lE, lB⟩
                   ·rw [if_neg c83] at H
                    have c83b0 : (((rd_T97 y207 x89_4).f0) == ((rd_T97 l1_2 x50_2).f0)) = false := beq_eq_false_iff_ne.mpr c83
                    have c83b1 : (((rd_T97 y207 x89_4).f0) != ((rd_T97 l1_2 x50_2).f0)) = true := bne_iff_ne.mpr c83
                    have H' := Aside0.mk H
                    clear H
                    have p211 : 0 ≤ (x89_4 : Int) := lD
                    have q211 : x89_4 < (y207.length : Int) := lD
                    obtain ⟨ad211, e211, hx211_0, hx211_1⟩ := at_T97 HR210.out x89_4 p211 q211
                    obtain rfl : ad202 = ad211 := (by injection e211)
                    replace hx211_0 := pw_cell_below HB.out hx211_0
                    replace hx211_1 := pw_cell_below HB.out hx211_1
                    replace p211 := eq_true p211
                    replace q211 := eq_true q211
                    go_wp2_with (first | ((with_reducible refine gate_dst (N := 8) rfl ?_); (try (refine gate_guard (by rfl) ?_; dsimp only)); refine bxe 8 #[.int .i64 0, .int .i64 0] 97 ?_; intro gb212 hg w92 hbox hb; have n0_ := Aside0.mk (blk_below (lK BK194.out) hb); have n1_ := Aside0.mk (blk_below (lK BK195.out) hb); have n2_ := Aside0.mk (blk_below (lK BK203.out) hb); have n3_ := Aside0.mk (below_step lB hb); have n4_ := Aside0.mk (hbox); have n5_ := lG w hg; have n6_ := lG w hg; have n7_ := Aside0.mk ((by rw [hg]; exact Nat.ne_of_lt (blk_lt (lK BK194.out)) : gb194 ≠ gb212)); have n8_ := Aside0.mk ((by rw [hg]; exact Nat.ne_of_gt (blk_lt (lK BK194.out)) : gb212 ≠ gb194)); have n9_ := Aside0.mk ((by rw [hg]; exact Nat.ne_of_lt (blk_lt (lK BK195.out)) : gb195 ≠ gb212)); have n10_ := Aside0.mk ((by rw [hg]; exact Nat.ne_of_gt (blk_lt (lK BK195.out)) : gb212 ≠ gb195)); have n11_ := Aside0.mk ((by rw [hg]; exact Nat.ne_of_lt (blk_lt (lK BK203.out)) : gb203 ≠ gb212)); have n12_ := Aside0.mk ((by rw [hg]; exact Nat.ne_of_gt (blk_lt (lK BK203.out)) : gb212 ≠ gb203)); clear BK194; clear BK195; clear BK203; clear HB; have BK194 := n0_; have BK195 := n1_; have BK203 := n2_; have HB := n3_; have BK212 := n4_; have GW212 := n5_; have GE212 := n6_; have NB194_212 := n7_; have NB212_194 := n8_; have NB195_212 := n9_; have NB212_195 := n10_; have NB203_212 := n11_; have NB212_203 := n12_; clear n0_ n1_ n2_ n3_ n4_ n5_ n6_ n7_ n8_ n9_ n10_ n11_ n12_; clear hb hbox hg; have hnb93 := NB212_194.out; have hnc93 := NB194_212.out; have hnb94 := NB212_195.out; have hnc94 := NB195_212.out; have hnb95 := NB212_203.out; have hnc95 := NB203_212.out; obtain ⟨hcz96_0, hfz96_0, hcz96_1, hfz96_1⟩ := bk2 BK212.out; have hnb97 := NB203_194.out; have hnc97 := NB194_203.out; have hnb98 := NB203_195.out; have hnc98 := NB195_203.out; obtain ⟨hcz99_0, hfz99_0, hcz99_1, hfz99_1⟩ := bk2 BK203.out))
                    go_roundg k4
                    case measure => have := HJ2.out; have := HK2.out; have := HJ48.out; have := HK4.out; omega
                    case rel => exact ⟨(wrap64 (x89_4 + 1)), lF, H', ⟨by have := HJ2.out; have := HK2.out; have := HJ48.out; have := HK4.out; omega⟩, ⟨lJ BK194.out⟩, ⟨lJ BK195.out⟩, ⟨lJ BK203.out⟩, ⟨lB⟩⟩
                  ·rw [if_neg c82] at H
                   exact absurd H (by simp)
                 ·rw [if_neg c81] at H
                  exact absurd H (by simp)
                ·rw [if_neg c80] at H
                 have c80b0 : decide (x89_4 < (y207.length : Int)) = false := decide_eq_false c80
                 clear c80
                 have H' := Aside0.mk H
                 clear H
                 go_wp2
                 go_roundg k4
                 case measure => have := HJ2.out; have := HK2.out; have := HJ48.out; have := HK4.out; omega
                 case rel => exact ⟨(wrap64 (x50_2 + 1)), lF, H', ⟨by have := HJ2.out; have := HK2.out; have := HJ48.out; have := HK4.out; omega⟩, ⟨lK BK194.out⟩, ⟨lK BK195.out⟩, ⟨lB⟩⟩
             ·rw [if_neg c75] at H
              exact absurd H (by simp)
            ·rw [if_neg c74] at H
             exact absurd H (by simp)
        ·rw [if_neg c48] at H
         exact absurd H (by simp)
       ·rw [if_neg c47] at H
        exact absurd H (by simp)
      ·rw [if_neg c46] at H
       have c46b0 : decide (x50_2 < (l1_2.length : Int)) = false := decide_eq_false c46
       clear c46
       obtain rfl := Option.some.inj H
       first | (go_wp2; go_ret; exact ⟨lE, lB⟩) | (exfalso; simp only [decide_eq_false_iff_not, decide_eq_true_eq] at *; omega)

end Go.Proofs.Ytjmgleomljfieaa.Q
