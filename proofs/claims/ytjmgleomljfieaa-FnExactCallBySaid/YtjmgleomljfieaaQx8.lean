-- Written by the program wip/tools/pr.py of this claim's session, over the kit's print.py.
import Derived.Test.YtjmgleomljfieaaQx0
import Derived.Test.YtjmgleomljfieaaQx6
import Derived.Test.YtjmgleomljfieaaQx7
namespace Go.Proofs.Ytjmgleomljfieaa.Q
open Go.RowKit Go.Proofs.YtjmgleomljfieaaW.PrintWords Go.Proofs.YtjmgleomljfieaaW.PrintLast Go.Proofs.YtjmgleomljfieaaW.PrintMore
attribute [local go_sem] max2_int min2_int max_two min_two max_three min_three max_four min_four   -- for this text's walks alone
set_option linter.unusedVariables false
set_option linter.unusedSimpArgs false

/-! ### impl_isCache: function 72 -/
mutual
def impl_isCache.j0 : Nat → Bool → List (S82) → Int → Int → Int → List (S97) → Int → Int → Int → Option (Bool)
 | 0, _, _, _, _, _, _, _, _, _ => none
 | k + 1, x39, x260000, x260001, x261000, x261001, x261002, x261003, x261004, x261005 => if x39 = true then (some false) else (impl_isCache.l0 k x261002 (x261002.length : Int) 0 x260000 x260001 x261000 x261001 x261002 x261003 x261004 x261005)
def impl_isCache.l0 : Nat → List (S97) → Int → Int → List (S82) → Int → Int → Int → List (S97) → Int → Int → Int → Option (Bool)
 | 0, _, _, _, _, _, _, _, _, _, _, _ => none
 | k + 1, x41, x42, x43, x260000, x260001, x261000, x261001, x261002, x261003, x261004, x261005 => if x43 < x42 then (if 0 ≤ x43 then (if x43 < (x41.length : Int) then ((impl_in.f ((rd_T97 x41 x43).f0) 0 (wrap64 ((x260000.length : Int) - 1))).bind fun t268 => (if t268 = true then ((impl_in.f ((rd_T97 x41 x43).f1) 1 1000).bind fun t269 => (if t269 = true then (if x261003 = x260001 then ((impl_World_find.f k x260000 x260001 ((rd_T97 x41 x43).f0) x261000).bind fun t270 => (impl_isCache.j2 k x43 x41 x42 x43 (((rd_T97 x41 x43).f1) != t270) x260000 x260001 x261000 x261001 x261002 x261003 x261004 x261005 ((rd_T97 x41 x43).f0) ((rd_T97 x41 x43).f1))) else (impl_isCache.j2 k x43 x41 x42 x43 false x260000 x260001 x261000 x261001 x261002 x261003 x261004 x261005 ((rd_T97 x41 x43).f0) ((rd_T97 x41 x43).f1))) else (impl_isCache.j2 k x43 x41 x42 x43 true x260000 x260001 x261000 x261001 x261002 x261003 x261004 x261005 ((rd_T97 x41 x43).f0) ((rd_T97 x41 x43).f1)))) else (impl_isCache.j2 k x43 x41 x42 x43 true x260000 x260001 x261000 x261001 x261002 x261003 x261004 x261005 ((rd_T97 x41 x43).f0) ((rd_T97 x41 x43).f1)))) else (none)) else (none)) else (if x261001 = 1 then (some ((x261002.length : Int) == 1)) else (if x261001 = 2 then ((impl_in.f (x261002.length : Int) 2 4).bind fun t277 => (some t277)) else (some ((x261002.length : Int) == 0))))
def impl_isCache.j2 : Nat → Int → List (S97) → Int → Int → Bool → List (S82) → Int → Int → Int → List (S97) → Int → Int → Int → Int → Int → Option (Bool)
 | 0, _, _, _, _, _, _, _, _, _, _, _, _, _, _, _ => none
 | k + 1, x5, x41, x42, x43, x79, x260000, x260001, x261000, x261001, x261002, x261003, x261004, x261005, x268000, x268001 => if x79 = true then (some false) else (if 0 ≤ x5 then (if x5 ≤ (x261002.length : Int) then ((some (x261002.take (x5 : Int).toNat : List (S97))).bind fun y271 => (impl_isCache.l1 k x41 x42 x43 y271 (y271.length : Int) 0 x260000 x260001 x261000 x261001 x261002 x261003 x261004 x261005 x268000 x268001)) else (none)) else (none))
def impl_isCache.l1 : Nat → List (S97) → Int → Int → List (S97) → Int → Int → List (S82) → Int → Int → Int → List (S97) → Int → Int → Int → Int → Int → Option (Bool)
 | 0, _, _, _, _, _, _, _, _, _, _, _, _, _, _, _, _ => none
 | k + 1, x41, x42, x43, x83, x84, x85, x260000, x260001, x261000, x261001, x261002, x261003, x261004, x261005, x268000, x268001 => if x85 < x84 then (if 0 ≤ x85 then (if x85 < (x83.length : Int) then (if x268000 = ((rd_T97 x83 x85).f0) then (some false) else (impl_isCache.l1 k x41 x42 x43 x83 x84 (wrap64 (x85 + 1)) x260000 x260001 x261000 x261001 x261002 x261003 x261004 x261005 x268000 x268001)) else (none)) else (none)) else (impl_isCache.l0 k x41 x42 (wrap64 (x43 + 1)) x260000 x260001 x261000 x261001 x261002 x261003 x261004 x261005)
end
def impl_isCache.f (k : Nat) (l0_0 : List (S82)) (a0_1 : Int) (a1_0 : Int) (a1_1 : Int) (l1_2 : List (S97)) (a1_3 : Int) (a1_4 : Int) (a1_5 : Int) : Option (Bool) := (impl_in.f a1_0 0 4).bind fun t261 => (if t261 = true then ((impl_in.f a1_3 0 a0_1).bind fun t262 => (if t262 = true then ((impl_in.f a1_4 0 1000000).bind fun t263 => (if t263 = true then ((impl_in.f a1_5 0 1000000).bind fun t264 => (if t264 = true then ((impl_in.f a1_1 0 3).bind fun t265 => (impl_isCache.j0 k (!t265) l0_0 a0_1 a1_0 a1_1 l1_2 a1_3 a1_4 a1_5)) else (impl_isCache.j0 k true l0_0 a0_1 a1_0 a1_1 l1_2 a1_3 a1_4 a1_5))) else (impl_isCache.j0 k true l0_0 a0_1 a1_0 a1_1 l1_2 a1_3 a1_4 a1_5))) else (impl_isCache.j0 k true l0_0 a0_1 a1_0 a1_1 l1_2 a1_3 a1_4 a1_5))) else (impl_isCache.j0 k true l0_0 a0_1 a1_0 a1_1 l1_2 a1_3 a1_4 a1_5))
theorem impl_isCache.mono_l : ∀ k, (∀ y0 y1 y2 y3 y4 y5 y6 y7 y8, LeO (impl_isCache.j0 k y0 y1 y2 y3 y4 y5 y6 y7 y8) (impl_isCache.j0 (k + 1) y0 y1 y2 y3 y4 y5 y6 y7 y8)) ∧ (∀ y0 y1 y2 y3 y4 y5 y6 y7 y8 y9 y10, LeO (impl_isCache.l0 k y0 y1 y2 y3 y4 y5 y6 y7 y8 y9 y10) (impl_isCache.l0 (k + 1) y0 y1 y2 y3 y4 y5 y6 y7 y8 y9 y10)) ∧ (∀ y0 y1 y2 y3 y4 y5 y6 y7 y8 y9 y10 y11 y12 y13 y14, LeO (impl_isCache.j2 k y0 y1 y2 y3 y4 y5 y6 y7 y8 y9 y10 y11 y12 y13 y14) (impl_isCache.j2 (k + 1) y0 y1 y2 y3 y4 y5 y6 y7 y8 y9 y10 y11 y12 y13 y14)) ∧ (∀ y0 y1 y2 y3 y4 y5 y6 y7 y8 y9 y10 y11 y12 y13 y14 y15, LeO (impl_isCache.l1 k y0 y1 y2 y3 y4 y5 y6 y7 y8 y9 y10 y11 y12 y13 y14 y15) (impl_isCache.l1 (k + 1) y0 y1 y2 y3 y4 y5 y6 y7 y8 y9 y10 y11 y12 y13 y14 y15))
 | 0 => ⟨fun _ _ _ _ _ _ _ _ _ r h => by simp [impl_isCache.j0] at h, fun _ _ _ _ _ _ _ _ _ _ _ r h => by simp [impl_isCache.l0] at h, fun _ _ _ _ _ _ _ _ _ _ _ _ _ _ _ r h => by simp [impl_isCache.j2] at h, fun _ _ _ _ _ _ _ _ _ _ _ _ _ _ _ _ r h => by simp [impl_isCache.l1] at h⟩
 | k + 1 => by
  obtain ⟨ih0, ih1, ih2, ih3⟩ := impl_isCache.mono_l k
  refine ⟨?_, ?_, ?_, ?_⟩
  ·intro y0 y1 y2 y3 y4 y5 y6 y7 y8
   unfold impl_isCache.j0
   repeat' first
   | with_reducible apply ih0
   | with_reducible apply ih1
   | with_reducible apply ih2
   | with_reducible apply ih3
   | with_reducible apply impl_World_find.mono
   | (with_reducible exact LeO.refl _)
   | (with_reducible exact LeO.none _)
   | (with_reducible refine LeO.ite ?_ ?_)
   | (with_reducible refine LeO.bind ?_ (fun _ => ?_))
   | apply ih0
   | apply ih1
   | apply ih2
   | apply ih3
   | apply impl_World_find.mono
   | exact LeO.none _
   | refine LeO.ite ?_ ?_
   | refine LeO.bind ?_ (fun _ => ?_)
  ·intro y0 y1 y2 y3 y4 y5 y6 y7 y8 y9 y10
   unfold impl_isCache.l0
   repeat' first
   | with_reducible apply ih0
   | with_reducible apply ih1
   | with_reducible apply ih2
   | with_reducible apply ih3
   | with_reducible apply impl_World_find.mono
   | (with_reducible exact LeO.refl _)
   | (with_reducible exact LeO.none _)
   | (with_reducible refine LeO.ite ?_ ?_)
   | (with_reducible refine LeO.bind ?_ (fun _ => ?_))
   | apply ih0
   | apply ih1
   | apply ih2
   | apply ih3
   | apply impl_World_find.mono
   | exact LeO.none _
   | refine LeO.ite ?_ ?_
   | refine LeO.bind ?_ (fun _ => ?_)
  ·intro y0 y1 y2 y3 y4 y5 y6 y7 y8 y9 y10 y11 y12 y13 y14
   unfold impl_isCache.j2
   repeat' first
   | with_reducible apply ih0
   | with_reducible apply ih1
   | with_reducible apply ih2
   | with_reducible apply ih3
   | with_reducible apply impl_World_find.mono
   | (with_reducible exact LeO.refl _)
   | (with_reducible exact LeO.none _)
   | (with_reducible refine LeO.ite ?_ ?_)
   | (with_reducible refine LeO.bind ?_ (fun _ => ?_))
   | apply ih0
   | apply ih1
   | apply ih2
   | apply ih3
   | apply impl_World_find.mono
   | exact LeO.none _
   | refine LeO.ite ?_ ?_
   | refine LeO.bind ?_ (fun _ => ?_)
  ·intro y0 y1 y2 y3 y4 y5 y6 y7 y8 y9 y10 y11 y12 y13 y14 y15
   unfold impl_isCache.l1
   repeat' first
   | with_reducible apply ih0
   | with_reducible apply ih1
   | with_reducible apply ih2
   | with_reducible apply ih3
   | with_reducible apply impl_World_find.mono
   | (with_reducible exact LeO.refl _)
   | (with_reducible exact LeO.none _)
   | (with_reducible refine LeO.ite ?_ ?_)
   | (with_reducible refine LeO.bind ?_ (fun _ => ?_))
   | apply ih0
   | apply ih1
   | apply ih2
   | apply ih3
   | apply impl_World_find.mono
   | exact LeO.none _
   | refine LeO.ite ?_ ?_
   | refine LeO.bind ?_ (fun _ => ?_)
theorem impl_isCache.mono : ∀ a0 a1 a2 a3 a4 a5 a6 a7 k, LeO (impl_isCache.f k a0 a1 a2 a3 a4 a5 a6 a7) (impl_isCache.f (k + 1) a0 a1 a2 a3 a4 a5 a6 a7) := by
 intro a0 a1 a2 a3 a4 a5 a6 a7 k
 obtain ⟨ih0, ih1, ih2, ih3⟩ := impl_isCache.mono_l k
 unfold impl_isCache.f
 repeat' first
   | with_reducible apply ih0
   | with_reducible apply ih1
   | with_reducible apply ih2
   | with_reducible apply ih3
   | with_reducible apply impl_World_find.mono
   | (with_reducible exact LeO.refl _)
   | (with_reducible exact LeO.none _)
   | (with_reducible refine LeO.ite ?_ ?_)
   | (with_reducible refine LeO.bind ?_ (fun _ => ?_))
   | apply ih0
   | apply ih1
   | apply ih2
   | apply ih3
   | apply impl_World_find.mono
   | exact LeO.none _
   | refine LeO.ite ?_ ?_
   | refine LeO.bind ?_ (fun _ => ?_)
def impl_isCache.T6 : Bool × List (List Nat × List Nat) := (true, [([], []), ([0], [0]), ([], []), ([2], [2]), ([3], [3]), ([4], [4]), ([1, 5], [1, 5]), ([6], [6]), ([7, 6], [7]), ([8], [8]), ([9, 8], [8, 9]), ([10, 8, 8], [8, 10]), ([11, 8], [8, 11]), ([8, 12], [8, 12]), ([13, 11], [13]), ([14], [14]), ([15, 14], [14, 15]), ([14], [14]), ([17, 14], [14, 17]), ([16, 18, 14], [14, 16, 18]), ([19, 14, 14], [14, 19]), ([20], [20]), ([21, 20], [20, 21]), ([20], [20]), ([20], [20]), ([24, 20], [20, 24]), ([20], [20]), ([26, 20], [20, 26]), ([23, 25, 27, 20, 20], [20, 23, 25, 27]), ([22, 28, 20], [20, 22, 28]), ([20, 29, 14], [14, 20, 29]), ([14, 30], [14, 30])])
def impl_isCache.B6 : List Nat := [0, 1, 0, 4, 12, 28, 63, 127, 255, 511, 1023, 2047, 4095, 8191, 16383, 32767, 65535, 32767, 163839, 524287, 1048575, 2097151, 4194303, 2097151, 2097151, 18874367, 2097151, 69206015, 262143999, 536870911, 1073741823, 2147483647]
theorem impl_isCache.tab6 : rtab .any (opsOf Try.f72 6) = impl_isCache.T6 := by kernel_rfl
theorem impl_isCache.bits6 : waitsOk impl_isCache.T6.2 impl_isCache.B6 = true := by kernel_rfl
set_option maxHeartbeats 8000000 in
set_option maxRecDepth 100000 in
theorem impl_isCache.calls (k : Nat) (A0_0 : Option Addr) (c0_0 : Nat) (l0_0 : List (S82)) (a0_1 : Int) (a1_0 : Int) (a1_1 : Int) (A1_2 : Option Addr) (c1_2 : Nat) (l1_2 : List (S97)) (a1_3 : Int) (a1_4 : Int) (a1_5 : Int) (r : Bool) (w : World) (hr0_0 : Kd.C k82 w A0_0 l0_0.length l0_0) (hc0_0 : l0_0.length ≤ c0_0) (hr1_2 : Kd.C k97 w A1_2 l1_2.length l1_2) (hc1_2 : l1_2.length ≤ c1_2) (h : impl_isCache.f k l0_0 a0_1 a1_0 a1_1 l1_2 a1_3 a1_4 a1_5 = some r) :
  Calls Try.prog 72 #[.agg #[.slice A0_0 l0_0.length c0_0, .int .i64 a0_1], .agg #[.int .i64 a1_0, .int .i64 a1_1, .slice A1_2 l1_2.length c1_2, .int .i64 a1_3, .int .i64 a1_4, .int .i64 a1_5]] w fun e w' => e = .returned (.bool r) ∧ Below w.heap.size w w' := by
 have hu29 := Try.underlying29
 have hu44 := Try.underlying44
 have hu97 := Try.underlying97
 have HR0_0 := Aside0.mk hr0_0
 have HC0_0 := Aside0.mk hc0_0
 clear hr0_0 hc0_0
 have HR1_2 := Aside0.mk hr1_2
 have HC1_2 := Aside0.mk hc1_2
 clear hr1_2 hc1_2
 have HB := Aside0.mk (Below.refl w.heap.size w)
 have H : ((impl_in.f a1_0 0 4).bind fun t261 => (if t261 = true then ((impl_in.f a1_3 0 a0_1).bind fun t262 => (if t262 = true then ((impl_in.f a1_4 0 1000000).bind fun t263 => (if t263 = true then ((impl_in.f a1_5 0 1000000).bind fun t264 => (if t264 = true then ((impl_in.f a1_1 0 3).bind fun t265 => (impl_isCache.j0 k (!t265) l0_0 a0_1 a1_0 a1_1 l1_2 a1_3 a1_4 a1_5)) else (impl_isCache.j0 k true l0_0 a0_1 a1_0 a1_1 l1_2 a1_3 a1_4 a1_5))) else (impl_isCache.j0 k true l0_0 a0_1 a1_0 a1_1 l1_2 a1_3 a1_4 a1_5))) else (impl_isCache.j0 k true l0_0 a0_1 a1_0 a1_1 l1_2 a1_3 a1_4 a1_5))) else (impl_isCache.j0 k true l0_0 a0_1 a1_0 a1_1 l1_2 a1_3 a1_4 a1_5))) = some r := h
 clear h
 have HC3 := Aside0.mk H
 clear H
 go_enter Try.func72, Try.ntmps72
 go_upto_region 1 with (first | ((with_reducible refine gate_dst (N := 2) rfl ?_); refine bxe 2 #[.slice A0_0 l0_0.length c0_0, .int .i64 a0_1] 29 ?_; intro gb259 hg w4 hbox hb; have n0_ := Aside0.mk (below_step lB hb); have n1_ := Aside0.mk (hbox); have n2_ := lG w hg; have n3_ := lG w hg; clear HB; have HB := n0_; have BK259 := n1_; have GW259 := n2_; have GE259 := n3_; clear n0_ n1_ n2_ n3_; clear hb hbox hg) | ((with_reducible refine gate_dst (N := 3) rfl ?_); refine bxe 3 #[.int .i64 a1_0, .int .i64 a1_1, .slice A1_2 l1_2.length c1_2, .int .i64 a1_3, .int .i64 a1_4, .int .i64 a1_5] 44 ?_; intro gb260 hg w5 hbox hb; have n0_ := Aside0.mk (blk_below (lK BK259.out) hb); have n1_ := Aside0.mk (below_step lB hb); have n2_ := Aside0.mk (hbox); have n3_ := lG w hg; have n4_ := lG w hg; have n5_ := Aside0.mk ((by rw [hg]; exact Nat.ne_of_lt (blk_lt (lK BK259.out)) : gb259 ≠ gb260)); have n6_ := Aside0.mk ((by rw [hg]; exact Nat.ne_of_gt (blk_lt (lK BK259.out)) : gb260 ≠ gb259)); clear BK259; clear HB; have BK259 := n0_; have HB := n1_; have BK260 := n2_; have GW260 := n3_; have GE260 := n4_; have NB259_260 := n5_; have NB260_259 := n6_; clear n0_ n1_ n2_ n3_ n4_ n5_ n6_; clear hb hbox hg))
 (try simp only [Act.put, List.setIfInBounds_toArray, List.set_cons_zero, List.set_cons_succ])
 go_cut [39] (fun v39 wc => ∃ (kq : Nat) (x39_2 : Bool), v39 = .bool x39_2 ∧ Aside0 (impl_isCache.j0 kq x39_2 l0_0 a0_1 a1_0 a1_1 l1_2 a1_3 a1_4 a1_5 = some r) ∧ Aside0 (kq ≤ k) ∧ Aside0 (wc.heap[gb259]? = some (.cells #[(.slice A0_0 l0_0.length c0_0), .int .i64 a0_1] 29 (0, 0))) ∧ Aside0 (wc.heap[gb260]? = some (.cells #[.int .i64 a1_0, .int .i64 a1_1, (.slice A1_2 l1_2.length c1_2), .int .i64 a1_3, .int .i64 a1_4, .int .i64 a1_5] 44 (0, 0))) ∧ Aside0 (Below w.heap.size w wc))
 case first =>
  have H := HC3.out
  clear HC3
  replace H := lO H
  obtain ⟨t261, A6, H⟩ := H
  by_cases c7 : t261 = true
  ·subst c7
   rw [if_pos rfl] at H
   replace H := lO H
   obtain ⟨t262, A8, H⟩ := H
   by_cases c9 : t262 = true
   ·subst c9
    rw [if_pos rfl] at H
    replace H := lO H
    obtain ⟨t263, A10, H⟩ := H
    by_cases c11 : t263 = true
    ·subst c11
     rw [if_pos rfl] at H
     replace H := lO H
     obtain ⟨t264, A12, H⟩ := H
     by_cases c13 : t264 = true
     ·subst c13
      rw [if_pos rfl] at H
      replace H := lO H
      obtain ⟨t265, A14, H⟩ := H
      have H' := Aside0.mk H
      clear H
      have hnb15 := NB260_259.out
      have hnc15 := NB259_260.out
      obtain ⟨hcz16_0, hfz16_0, hcz16_1, hfz16_1, hcz16_2, hfz16_2, hcz16_3, hfz16_3, hcz16_4, hfz16_4, hcz16_5, hfz16_5⟩ := bk6 BK260.out
      go_wp2_with (first | ((with_reducible refine gate_callee (f := 59) rfl ?_); refine gl_ (some 12) (Try.func59) #[.int .i64 a1_0, .int .i64 0, .int .i64 4] ?_; (with_reducible refine (impl_in.calls a1_0 0 4 true _ A6.out).mono ?_); rintro e w' ⟨rfl, ⟨nd, rfl⟩⟩; refine ⟨_, rfl, ?_⟩; obtain ⟨hcz17_0, hfz17_0, hcz17_1, hfz17_1⟩ := bk2 BK259.out) | (go_at_call 59; (with_reducible refine (impl_in.calls a1_3 0 a0_1 true _ A8.out).mono ?_); rintro e w' ⟨rfl, ⟨nd, rfl⟩⟩) | (go_at_call 59; (with_reducible refine (impl_in.calls a1_4 0 1000000 true _ A10.out).mono ?_); rintro e w' ⟨rfl, ⟨nd, rfl⟩⟩) | (go_at_call 59; (with_reducible refine (impl_in.calls a1_5 0 1000000 true _ A12.out).mono ?_); rintro e w' ⟨rfl, ⟨nd, rfl⟩⟩) | (go_at_call 59; (with_reducible refine (impl_in.calls a1_1 0 3 t265 _ A14.out).mono ?_); rintro e w' ⟨rfl, ⟨nd, rfl⟩⟩))
      go_meet
      case rel => exact ⟨_, (!t265), lF, H', ⟨lN⟩, ⟨lK BK259.out⟩, ⟨lK BK260.out⟩, ⟨lB⟩⟩
     ·replace c13 := Bool.eq_false_iff.mpr c13
      subst c13
      rw [if_neg (show ¬ (false = true) by decide)] at H
      have H' := Aside0.mk H
      clear H
      have hnb18 := NB260_259.out
      have hnc18 := NB259_260.out
      obtain ⟨hcz19_0, hfz19_0, hcz19_1, hfz19_1, hcz19_2, hfz19_2, hcz19_3, hfz19_3, hcz19_4, hfz19_4, hcz19_5, hfz19_5⟩ := bk6 BK260.out
      go_wp2_with (first | ((with_reducible refine gate_callee (f := 59) rfl ?_); refine gl_ (some 12) (Try.func59) #[.int .i64 a1_0, .int .i64 0, .int .i64 4] ?_; (with_reducible refine (impl_in.calls a1_0 0 4 true _ A6.out).mono ?_); rintro e w' ⟨rfl, ⟨nd, rfl⟩⟩; refine ⟨_, rfl, ?_⟩; obtain ⟨hcz20_0, hfz20_0, hcz20_1, hfz20_1⟩ := bk2 BK259.out) | (go_at_call 59; (with_reducible refine (impl_in.calls a1_3 0 a0_1 true _ A8.out).mono ?_); rintro e w' ⟨rfl, ⟨nd, rfl⟩⟩) | (go_at_call 59; (with_reducible refine (impl_in.calls a1_4 0 1000000 true _ A10.out).mono ?_); rintro e w' ⟨rfl, ⟨nd, rfl⟩⟩) | (go_at_call 59; (with_reducible refine (impl_in.calls a1_5 0 1000000 false _ A12.out).mono ?_); rintro e w' ⟨rfl, ⟨nd, rfl⟩⟩))
      go_meet
      case rel => exact ⟨_, (true), lF, H', ⟨lN⟩, ⟨lK BK259.out⟩, ⟨lK BK260.out⟩, ⟨lB⟩⟩
    ·replace c11 := Bool.eq_false_iff.mpr c11
     subst c11
     rw [if_neg (show ¬ (false = true) by decide)] at H
     have H' := Aside0.mk H
     clear H
     have hnb21 := NB260_259.out
     have hnc21 := NB259_260.out
     obtain ⟨hcz22_0, hfz22_0, hcz22_1, hfz22_1, hcz22_2, hfz22_2, hcz22_3, hfz22_3, hcz22_4, hfz22_4, hcz22_5, hfz22_5⟩ := bk6 BK260.out
     go_wp2_with (first | ((with_reducible refine gate_callee (f := 59) rfl ?_); refine gl_ (some 12) (Try.func59) #[.int .i64 a1_0, .int .i64 0, .int .i64 4] ?_; (with_reducible refine (impl_in.calls a1_0 0 4 true _ A6.out).mono ?_); rintro e w' ⟨rfl, ⟨nd, rfl⟩⟩; refine ⟨_, rfl, ?_⟩; obtain ⟨hcz23_0, hfz23_0, hcz23_1, hfz23_1⟩ := bk2 BK259.out) | (go_at_call 59; (with_reducible refine (impl_in.calls a1_3 0 a0_1 true _ A8.out).mono ?_); rintro e w' ⟨rfl, ⟨nd, rfl⟩⟩) | (go_at_call 59; (with_reducible refine (impl_in.calls a1_4 0 1000000 false _ A10.out).mono ?_); rintro e w' ⟨rfl, ⟨nd, rfl⟩⟩))
     go_meet
     case rel => exact ⟨_, (true), lF, H', ⟨lN⟩, ⟨lK BK259.out⟩, ⟨lK BK260.out⟩, ⟨lB⟩⟩
   ·replace c9 := Bool.eq_false_iff.mpr c9
    subst c9
    rw [if_neg (show ¬ (false = true) by decide)] at H
    have H' := Aside0.mk H
    clear H
    have hnb24 := NB260_259.out
    have hnc24 := NB259_260.out
    obtain ⟨hcz25_0, hfz25_0, hcz25_1, hfz25_1, hcz25_2, hfz25_2, hcz25_3, hfz25_3, hcz25_4, hfz25_4, hcz25_5, hfz25_5⟩ := bk6 BK260.out
    go_wp2_with (first | ((with_reducible refine gate_callee (f := 59) rfl ?_); refine gl_ (some 12) (Try.func59) #[.int .i64 a1_0, .int .i64 0, .int .i64 4] ?_; (with_reducible refine (impl_in.calls a1_0 0 4 true _ A6.out).mono ?_); rintro e w' ⟨rfl, ⟨nd, rfl⟩⟩; refine ⟨_, rfl, ?_⟩; obtain ⟨hcz26_0, hfz26_0, hcz26_1, hfz26_1⟩ := bk2 BK259.out) | (go_at_call 59; (with_reducible refine (impl_in.calls a1_3 0 a0_1 false _ A8.out).mono ?_); rintro e w' ⟨rfl, ⟨nd, rfl⟩⟩))
    go_meet
    case rel => exact ⟨_, (true), lF, H', ⟨lN⟩, ⟨lK BK259.out⟩, ⟨lK BK260.out⟩, ⟨lB⟩⟩
  ·replace c7 := Bool.eq_false_iff.mpr c7
   subst c7
   rw [if_neg (show ¬ (false = true) by decide)] at H
   have H' := Aside0.mk H
   clear H
   have hnb27 := NB260_259.out
   have hnc27 := NB259_260.out
   obtain ⟨hcz28_0, hfz28_0, hcz28_1, hfz28_1, hcz28_2, hfz28_2, hcz28_3, hfz28_3, hcz28_4, hfz28_4, hcz28_5, hfz28_5⟩ := bk6 BK260.out
   go_wp2_with (first | ((with_reducible refine gate_callee (f := 59) rfl ?_); refine gl_ (some 12) (Try.func59) #[.int .i64 a1_0, .int .i64 0, .int .i64 4] ?_; (with_reducible refine (impl_in.calls a1_0 0 4 false _ A6.out).mono ?_); rintro e w' ⟨rfl, ⟨nd, rfl⟩⟩; refine ⟨_, rfl, ?_⟩))
   go_meet
   case rel => exact ⟨_, (true), lF, H', ⟨lN⟩, ⟨lK BK259.out⟩, ⟨lK BK260.out⟩, ⟨lB⟩⟩
 case rest =>
  clear HC3
  try clear c1
  try clear c2
  try clear p2
  try clear c5
  try clear c7
  try clear c9
  try clear c11
  try clear c13
  try clear c15
  try clear c18
  try clear c21
  try clear c24
  try clear c27
  try clear hcz16_0 hcz16_1 hcz16_2 hcz16_3 hcz16_4 hcz16_5
  try clear hcz17_0 hcz17_1
  try clear hcz19_0 hcz19_1 hcz19_2 hcz19_3 hcz19_4 hcz19_5
  try clear hcz20_0 hcz20_1
  try clear hcz22_0 hcz22_1 hcz22_2 hcz22_3 hcz22_4 hcz22_5
  try clear hcz23_0 hcz23_1
  try clear hcz25_0 hcz25_1 hcz25_2 hcz25_3 hcz25_4 hcz25_5
  try clear hcz26_0 hcz26_1
  try clear hcz28_0 hcz28_1 hcz28_2 hcz28_3 hcz28_4 hcz28_5
  try clear hfz16_0 hfz16_1 hfz16_2 hfz16_3 hfz16_4 hfz16_5
  try clear hfz17_0 hfz17_1
  try clear hfz19_0 hfz19_1 hfz19_2 hfz19_3 hfz19_4 hfz19_5
  try clear hfz20_0 hfz20_1
  try clear hfz22_0 hfz22_1 hfz22_2 hfz22_3 hfz22_4 hfz22_5
  try clear hfz23_0 hfz23_1
  try clear hfz25_0 hfz25_1 hfz25_2 hfz25_3 hfz25_4 hfz25_5
  try clear hfz26_0 hfz26_1
  try clear hfz28_0 hfz28_1 hfz28_2 hfz28_3 hfz28_4 hfz28_5
  obtain ⟨kq, x39_2, rfl, HA, HJ2, BK259, BK260, HB⟩ := hcut
  cases kq with
  | zero => exact absurd HA.out (by simp [impl_isCache.j0])
  | succ kj2 =>
   have H := HA.out
   clear HA
   simp only [impl_isCache.j0] at H
   by_cases c29 : x39_2 = true
   ·subst c29
    rw [if_pos rfl] at H
    obtain rfl := Option.some.inj H
    first | (go_wp2; go_ret; exact ⟨lE, lB⟩) | (exfalso; simp only [decide_eq_false_iff_not, decide_eq_true_eq] at *; omega)
   ·replace c29 := Bool.eq_false_iff.mpr c29
    subst c29
    rw [if_neg (show ¬ (false = true) by decide)] at H
    have H' := Aside0.mk H
    clear H
    have hnb30 := NB260_259.out
    have hnc30 := NB259_260.out
    obtain ⟨hcz31_0, hfz31_0, hcz31_1, hfz31_1, hcz31_2, hfz31_2, hcz31_3, hfz31_3, hcz31_4, hfz31_4, hcz31_5, hfz31_5⟩ := bk6 BK260.out
    go_wp2
    go_loopg [43] kj2 (fun kq v43 w' => ∃ (x43_2 : Int), v43 = .int .i64 x43_2 ∧ Aside0 (impl_isCache.l0 kq l1_2 (l1_2.length : Int) x43_2 l0_0 a0_1 a1_0 a1_1 l1_2 a1_3 a1_4 a1_5 = some r) ∧ Aside0 (kq ≤ kj2) ∧ Aside0 (w'.heap[gb259]? = some (.cells #[(.slice A0_0 l0_0.length c0_0), .int .i64 a0_1] 29 (0, 0))) ∧ Aside0 (w'.heap[gb260]? = some (.cells #[.int .i64 a1_0, .int .i64 a1_1, (.slice A1_2 l1_2.length c1_2), .int .i64 a1_3, .int .i64 a1_4, .int .i64 a1_5] 44 (0, 0))) ∧ Aside0 (Below w.heap.size w w'))
    case atStart => exact ⟨(0), lF, H', ⟨Nat.le_refl _⟩, ⟨lK BK259.out⟩, ⟨lK BK260.out⟩, ⟨lB⟩⟩
    case round =>
     clear H'
     try clear c1
     try clear c2
     try clear p2
     try clear c3
     try clear c5
     try clear c7
     try clear c9
     try clear c11
     try clear c13
     try clear c15
     try clear c18
     try clear c21
     try clear c24
     try clear c27
     try clear c29
     try clear c30
     try clear hcz16_0 hcz16_1 hcz16_2 hcz16_3 hcz16_4 hcz16_5
     try clear hcz17_0 hcz17_1
     try clear hcz19_0 hcz19_1 hcz19_2 hcz19_3 hcz19_4 hcz19_5
     try clear hcz20_0 hcz20_1
     try clear hcz22_0 hcz22_1 hcz22_2 hcz22_3 hcz22_4 hcz22_5
     try clear hcz23_0 hcz23_1
     try clear hcz25_0 hcz25_1 hcz25_2 hcz25_3 hcz25_4 hcz25_5
     try clear hcz26_0 hcz26_1
     try clear hcz28_0 hcz28_1 hcz28_2 hcz28_3 hcz28_4 hcz28_5
     try clear hcz31_0 hcz31_1 hcz31_2 hcz31_3 hcz31_4 hcz31_5
     try clear hfz16_0 hfz16_1 hfz16_2 hfz16_3 hfz16_4 hfz16_5
     try clear hfz17_0 hfz17_1
     try clear hfz19_0 hfz19_1 hfz19_2 hfz19_3 hfz19_4 hfz19_5
     try clear hfz20_0 hfz20_1
     try clear hfz22_0 hfz22_1 hfz22_2 hfz22_3 hfz22_4 hfz22_5
     try clear hfz23_0 hfz23_1
     try clear hfz25_0 hfz25_1 hfz25_2 hfz25_3 hfz25_4 hfz25_5
     try clear hfz26_0 hfz26_1
     try clear hfz28_0 hfz28_1 hfz28_2 hfz28_3 hfz28_4 hfz28_5
     try clear hfz31_0 hfz31_1 hfz31_2 hfz31_3 hfz31_4 hfz31_5
     try clear p2
     obtain ⟨x43_2, rfl, HA, HK2, BK259, BK260, HB⟩ := hrel
     cases gk with
     | zero => exact absurd HA.out (by simp [impl_isCache.l0])
     | succ k2 =>
      have H := HA.out
      clear HA
      simp only [impl_isCache.l0] at H
      by_cases c32 : x43_2 < (l1_2.length : Int)
      ·rw [if_pos c32] at H
       have c32b0 : decide (x43_2 < (l1_2.length : Int)) = true := decide_eq_true c32
       clear c32
       by_cases c33 : 0 ≤ x43_2
       ·rw [if_pos c33] at H
        have c33b0 : decide (0 ≤ x43_2) = true := decide_eq_true c33
        clear c33
        by_cases c34 : x43_2 < (l1_2.length : Int)
        ·rw [if_pos c34] at H
         have c34b0 : decide (x43_2 < (l1_2.length : Int)) = true := decide_eq_true c34
         clear c34
         have HC35 := Aside0.mk H
         clear H
         have p266 : 0 ≤ (x43_2 : Int) := lD
         have q266 : x43_2 < (l1_2.length : Int) := lD
         obtain ⟨ad266, e266, hx266_0, hx266_1⟩ := at_T97 HR1_2.out x43_2 p266 q266
         cases e266
         replace hx266_0 := pw_cell_below HB.out hx266_0
         replace hx266_1 := pw_cell_below HB.out hx266_1
         replace p266 := eq_true p266
         replace q266 := eq_true q266
         go_upto_region 6 with (first | ((with_reducible refine gate_dst (N := 6) rfl ?_); refine bxe 6 #[.int .i64 0, .int .i64 0] 97 ?_; intro gb267 hg w36 hbox hb; have n0_ := Aside0.mk (blk_below (lK BK259.out) hb); have n1_ := Aside0.mk (blk_below (lK BK260.out) hb); have n2_ := Aside0.mk (below_step lB hb); have n3_ := Aside0.mk (hbox); have n4_ := lG w hg; have n5_ := lG w hg; have n6_ := Aside0.mk ((by rw [hg]; exact Nat.ne_of_lt (blk_lt (lK BK259.out)) : gb259 ≠ gb267)); have n7_ := Aside0.mk ((by rw [hg]; exact Nat.ne_of_gt (blk_lt (lK BK259.out)) : gb267 ≠ gb259)); have n8_ := Aside0.mk ((by rw [hg]; exact Nat.ne_of_lt (blk_lt (lK BK260.out)) : gb260 ≠ gb267)); have n9_ := Aside0.mk ((by rw [hg]; exact Nat.ne_of_gt (blk_lt (lK BK260.out)) : gb267 ≠ gb260)); clear BK259; clear BK260; clear HB; have BK259 := n0_; have BK260 := n1_; have HB := n2_; have BK267 := n3_; have GW267 := n4_; have GE267 := n5_; have NB259_267 := n6_; have NB267_259 := n7_; have NB260_267 := n8_; have NB267_260 := n9_; clear n0_ n1_ n2_ n3_ n4_ n5_ n6_ n7_ n8_ n9_; clear hb hbox hg; have hnb37 := NB267_259.out; have hnc37 := NB259_267.out; have hnb38 := NB267_260.out; have hnc38 := NB260_267.out; obtain ⟨hcz39_0, hfz39_0, hcz39_1, hfz39_1⟩ := bk2 BK267.out))
         (try simp only [Act.put, List.setIfInBounds_toArray, List.set_cons_zero, List.set_cons_succ])
         go_cut [79] (fun v79 wc => ∃ (kq : Nat) (x79_34 : Bool), v79 = .bool x79_34 ∧ Aside0 (impl_isCache.j2 kq x43_2 l1_2 (l1_2.length : Int) x43_2 x79_34 l0_0 a0_1 a1_0 a1_1 l1_2 a1_3 a1_4 a1_5 ((rd_T97 l1_2 x43_2).f0) ((rd_T97 l1_2 x43_2).f1) = some r) ∧ Aside0 (kq ≤ k2) ∧ Aside0 (wc.heap[gb259]? = some (.cells #[(.slice A0_0 l0_0.length c0_0), .int .i64 a0_1] 29 (0, 0))) ∧ Aside0 (wc.heap[gb260]? = some (.cells #[.int .i64 a1_0, .int .i64 a1_1, (.slice (some ad266) l1_2.length c1_2), .int .i64 a1_3, .int .i64 a1_4, .int .i64 a1_5] 44 (0, 0))) ∧ Aside0 (wc.heap[gb267]? = some (.cells #[.int .i64 ((rd_T97 l1_2 x43_2).f0), .int .i64 ((rd_T97 l1_2 x43_2).f1)] 97 (0, 0))) ∧ Aside0 (Below w.heap.size w wc))
         case first =>
          have H := HC35.out
          clear HC35
          replace H := lO H
          obtain ⟨t268, A40, H⟩ := H
          by_cases c41 : t268 = true
          ·subst c41
           rw [if_pos rfl] at H
           replace H := lO H
           obtain ⟨t269, A42, H⟩ := H
           by_cases c43 : t269 = true
           ·subst c43
            rw [if_pos rfl] at H
            by_cases c44 : a1_3 = a0_1
            ·rw [if_pos c44] at H
             have c44b0 : (a1_3 == a0_1) = true := beq_iff_eq.mpr c44
             have c44b1 : (a1_3 != a0_1) = false := bne_eq_false_iff_eq.mpr c44
             clear c44
             (first | rw [c44b0] | (simp only [i64_w, i32_w]; rw [c44b0]) | skip)
             replace H := lO H
             obtain ⟨t270, A45, H⟩ := H
             have H' := Aside0.mk H
             clear H
             try go_wp2
             have n0_ : Aside0 (((w36.setCell ⟨gb267, 0, none⟩ (.int .i64 ((rd_T97 l1_2 x43_2).f0))).setCell ⟨gb267, 1, none⟩ (.int .i64 ((rd_T97 l1_2 x43_2).f1))).heap[gb259]? = some (.cells #[.slice A0_0 l0_0.length c0_0, .int .i64 a0_1] 29 (0, 0))) := ⟨lJ BK259.out⟩
             have n1_ : Aside0 (((w36.setCell ⟨gb267, 0, none⟩ (.int .i64 ((rd_T97 l1_2 x43_2).f0))).setCell ⟨gb267, 1, none⟩ (.int .i64 ((rd_T97 l1_2 x43_2).f1))).heap[gb260]? = some (.cells #[.int .i64 a1_0, .int .i64 a1_1, .slice (some ad266) l1_2.length c1_2, .int .i64 a1_3, .int .i64 a1_4, .int .i64 a1_5] 44 (0, 0))) := ⟨lJ BK260.out⟩
             have n2_ : Aside0 (((w36.setCell ⟨gb267, 0, none⟩ (.int .i64 ((rd_T97 l1_2 x43_2).f0))).setCell ⟨gb267, 1, none⟩ (.int .i64 ((rd_T97 l1_2 x43_2).f1))).heap[gb267]? = some (.cells #[.int .i64 ((rd_T97 l1_2 x43_2).f0), .int .i64 ((rd_T97 l1_2 x43_2).f1)] 97 (0, 0))) := ⟨by (with_reducible repeat first | apply bN | apply bD | apply bA); refine blk_put (cs := #[.int .i64 ((rd_T97 l1_2 x43_2).f0), .int .i64 0]) ?_ 1 _ rfl; (with_reducible repeat first | apply bN | apply bD | apply bA); refine blk_put (cs := #[.int .i64 0, .int .i64 0]) ?_ 0 _ rfl; (with_reducible repeat first | apply bN | apply bD | apply bA); exact BK267.out⟩
             have n3_ : Aside0 (Below w.heap.size w ((w36.setCell ⟨gb267, 0, none⟩ (.int .i64 ((rd_T97 l1_2 x43_2).f0))).setCell ⟨gb267, 1, none⟩ (.int .i64 ((rd_T97 l1_2 x43_2).f1)))) := ⟨lB⟩
             (try clear BK259)
             (try clear BK260)
             (try clear BK267)
             (try clear HB)
             generalize ((w36.setCell ⟨gb267, 0, none⟩ (.int .i64 ((rd_T97 l1_2 x43_2).f0))).setCell ⟨gb267, 1, none⟩ (.int .i64 ((rd_T97 l1_2 x43_2).f1))) = w46 at n0_ n1_ n2_ n3_ ⊢
             have BK259 := n0_
             have BK260 := n1_
             have BK267 := n2_
             have HB := n3_
             clear n0_ n1_ n2_ n3_
             have n0_ := Aside0.mk (blk_drew BK259.out)
             have n1_ := Aside0.mk (blk_drew BK260.out)
             have n2_ := Aside0.mk (blk_drew BK267.out)
             have n3_ := Aside0.mk (below_drew1 HB.out)
             clear BK259
             clear BK260
             clear BK267
             clear HB
             have BK259 := n0_
             have BK260 := n1_
             have BK267 := n2_
             have HB := n3_
             clear n0_ n1_ n2_ n3_
             refine start_ (n := 32) (S := fun w' => w'.cell? ⟨gb267, 0, none⟩ = some (.int .i64 ((rd_T97 l1_2 x43_2).f0)) ∧ w'.cell? ⟨gb267, 1, none⟩ = some (.int .i64 ((rd_T97 l1_2 x43_2).f1)) ∧ w'.cell? ⟨gb259, 0, none⟩ = some (.slice A0_0 l0_0.length c0_0) ∧ w'.cell? ⟨gb259, 1, none⟩ = some (.int .i64 a0_1) ∧ w'.cell? ⟨gb260, 0, none⟩ = some (.int .i64 a1_0) ∧ w'.cell? ⟨gb260, 1, none⟩ = some (.int .i64 a1_1) ∧ w'.cell? ⟨gb260, 2, none⟩ = some (.slice (some ad266) l1_2.length c1_2) ∧ w'.cell? ⟨gb260, 3, none⟩ = some (.int .i64 a1_3) ∧ w'.cell? ⟨gb260, 4, none⟩ = some (.int .i64 a1_4) ∧ w'.cell? ⟨gb260, 5, none⟩ = some (.int .i64 a1_5)) (ds := []) (bs 32 0) kR rfl kR ⟨bZ BK267.out 0, bZ BK267.out 1, bZ BK259.out 0, bZ BK259.out 1, bZ BK260.out 0, bZ BK260.out 1, bZ BK260.out 2, bZ BK260.out 3, bZ BK260.out 4, bZ BK260.out 5⟩ (fun hHeld => ?_); refine with_tabW impl_isCache.tab6 impl_isCache.bits6 (fun HT_ HW_ => ?_)
             generalize w46.drew = w47 at BK259 BK260 BK267 HB hHeld ⊢
             refine pur_ 0 48 (bs 32 1) (any_of HT_.out kR) ?_
             refine pur_ 2 50 (bs 32 5) (any_of HT_.out kR) ?_
             refine tak_ 1 49 (bs 32 7) (take_ofW HT_.out HW_.out kR) hHeld ?_
             refine tak_ 3 51 (bs 32 15) (take_ofW HT_.out HW_.out kR) hHeld ?_
             refine pur_ 4 52 (bs 32 31) (any_of HT_.out kR) ?_
             refine pur_ 5 53 (bs 32 63) (any_of HT_.out kR) ?_
             refine one_ (i := 6) (N := some 54) (bs 32 127) rfl rfl (one_of HT_.out (by kernel_rfl)) (by decide) (fun K hK => ?_)
             refine goes_ Try.func59 (by kernel_rfl) rfl #[.int .i64 ((rd_T97 l1_2 x43_2).f0), .int .i64 0, .int .i64 (wrap64 ((l0_0.length : Int) - 1))] (by rfl) rfl rfl (by (try simp only [List.map_toArray, List.map_cons, List.map_nil]); first | done | rfl | (simp only [List.length_drop, List.length_take]; rfl)) ?_
             with_reducible refine (impl_in.calls ((rd_T97 l1_2 x43_2).f0) 0 (wrap64 ((l0_0.length : Int) - 1)) true _ A40.out).mono ?_
             rintro e w' ⟨rfl, ⟨nd, rfl⟩⟩
             refine ⟨_, rfl, ?_⟩
             refine hK.out _ _ ⟨bZ BK267.out 0, bZ BK267.out 1, bZ BK259.out 0, bZ BK259.out 1, bZ BK260.out 0, bZ BK260.out 1, bZ BK260.out 2, bZ BK260.out 3, bZ BK260.out 4, bZ BK260.out 5⟩ (fun hHeld => ?_)
             clear hK K
             refine norm_ (a' := ?_) ?_ ?_
             rotate_left
             ·show Act.put _ (some 54) _ = _
              simp only [Act.put, List.setIfInBounds_toArray, List.set_cons_zero, List.set_cons_succ, i64_w, i32_w]
              rfl
             refine pur_ 7 55 (bs 32 255) (any_of HT_.out kR) ?_
             refine pur_ 8 56 (bs 32 511) (any_of HT_.out kR) ?_
             refine pur_ 9 57 (bs 32 1023) (any_of HT_.out kR) ?_
             refine tak_ 10 58 (bs 32 2047) (take_ofW HT_.out HW_.out kR) hHeld ?_
             refine one_ (i := 11) (N := some 59) (bs 32 4095) rfl rfl (one_of HT_.out (by kernel_rfl)) (by decide) (fun K hK => ?_)
             refine goes_ Try.func59 (by kernel_rfl) rfl #[.int .i64 ((rd_T97 l1_2 x43_2).f1), .int .i64 1, .int .i64 1000] (by rfl) rfl rfl (by (try simp only [List.map_toArray, List.map_cons, List.map_nil]); first | done | rfl | (simp only [List.length_drop, List.length_take]; rfl)) ?_
             with_reducible refine (impl_in.calls ((rd_T97 l1_2 x43_2).f1) 1 1000 true _ A42.out).mono ?_
             rintro e w' ⟨rfl, ⟨nd, rfl⟩⟩
             refine ⟨_, rfl, ?_⟩
             refine hK.out _ _ ⟨bZ BK267.out 0, bZ BK267.out 1, bZ BK259.out 0, bZ BK259.out 1, bZ BK260.out 0, bZ BK260.out 1, bZ BK260.out 2, bZ BK260.out 3, bZ BK260.out 4, bZ BK260.out 5⟩ (fun hHeld => ?_)
             clear hK K
             refine norm_ (a' := ?_) ?_ ?_
             rotate_left
             ·show Act.put _ (some 59) _ = _
              simp only [Act.put, List.setIfInBounds_toArray, List.set_cons_zero, List.set_cons_succ, i64_w, i32_w]
              rfl
             refine pur_ 12 60 (bs 32 8191) (any_of HT_.out kR) ?_
             refine pur_ 13 61 (bs 32 16383) (any_of HT_.out kR) ?_
             refine pur_ 14 62 (bs 32 32767) (any_of HT_.out kR) ?_
             refine pur_ 15 63 (bs 32 65535) (any_of HT_.out kR) ?_
             refine pur_ 17 65 (bs 32 196607) (any_of HT_.out kR) ?_
             refine tak_ 16 64 (bs 32 262143) (take_ofW HT_.out HW_.out kR) hHeld ?_
             refine tak_ 18 66 (bs 32 524287) (take_ofW HT_.out HW_.out kR) hHeld ?_
             refine pur_ 19 67 (bs 32 1048575) (any_of HT_.out kR) ?_
             refine pur_ 20 68 (bs 32 2097151) (any_of HT_.out kR) ?_
             refine pur_ 21 69 (bs 32 4194303) (any_of HT_.out kR) ?_
             refine pur_ 24 72 (bs 32 20971519) (any_of HT_.out kR) ?_
             refine pur_ 26 74 (bs 32 88080383) (any_of HT_.out kR) ?_
             refine tak_ 22 70 (bs 32 92274687) (take_ofW HT_.out HW_.out kR) hHeld ?_
             refine tak_ 23 71 (bs 32 100663295) (take_ofW HT_.out HW_.out kR) hHeld ?_
             refine tak_ 25 73 (bs 32 134217727) (take_ofW HT_.out HW_.out kR) hHeld ?_
             refine tak_ 27 75 (bs 32 268435455) (take_ofW HT_.out HW_.out kR) hHeld ?_
             refine one_ (i := 28) (N := some 76) (bs 32 536870911) rfl rfl (one_of HT_.out (by kernel_rfl)) (by decide) (fun K hK => ?_)
             refine goes_ Try.func62 (by kernel_rfl) rfl #[.agg #[.slice A0_0 l0_0.length c0_0, .int .i64 a0_1], .int .i64 ((rd_T97 l1_2 x43_2).f0), .int .i64 a1_0] (by rfl) rfl rfl (by (try simp only [List.map_toArray, List.map_cons, List.map_nil]); first | done | rfl | (simp only [List.length_drop, List.length_take]; rfl)) ?_
             with_reducible refine (impl_World_find.calls k2 _ _ l0_0 a0_1 ((rd_T97 l1_2 x43_2).f0) a1_0 t270 _ ?side1 ?side2 A45.out).mono ?_
             (case side1 => repeat (first | exact (Kd.C_below HR0_0.out lB) | (with_reducible refine Kd.C_alloc ?_ _) | (with_reducible refine Kd.C_drewN ?_ _) | (with_reducible refine Kd.C_drew ?_)))
             (case side2 => exact HC0_0.out)
             rintro e w48 ⟨rfl, hb⟩
             refine ⟨_, rfl, ?_⟩
             have n0_ := Aside0.mk (blk_below (lK BK259.out) hb)
             have n1_ := Aside0.mk (blk_below (lK BK260.out) hb)
             have n2_ := Aside0.mk (blk_below (lK BK267.out) hb)
             have n3_ := Aside0.mk (below_step lB hb)
             clear BK259
             clear BK260
             clear BK267
             clear HB
             have BK259 := n0_
             have BK260 := n1_
             have BK267 := n2_
             have HB := n3_
             clear n0_ n1_ n2_ n3_
             (try clear hb)
             (try clear hb2)
             (try clear hk)
             (try clear hi)
             refine hK.out _ _ ⟨bZ BK267.out 0, bZ BK267.out 1, bZ BK259.out 0, bZ BK259.out 1, bZ BK260.out 0, bZ BK260.out 1, bZ BK260.out 2, bZ BK260.out 3, bZ BK260.out 4, bZ BK260.out 5⟩ (fun hHeld => ?_)
             clear hK K
             refine norm_ (a' := ?_) ?_ ?_
             rotate_left
             ·show Act.put _ (some 76) _ = _
              simp only [Act.put, List.setIfInBounds_toArray, List.set_cons_zero, List.set_cons_succ, i64_w, i32_w]
              rfl
             refine pur_ 29 77 (bs 32 1073741823) (any_of HT_.out kR) ?_
             refine pur_ 30 78 (bs 32 2147483647) (any_of HT_.out kR) ?_
             refine pur_ 31 79 (bs 32 4294967295) (any_of HT_.out kR) ?_
             refine done_ (done_of HT_.out (by kernel_rfl)) ?_
             try go_wp2
             go_meet
             case rel => exact ⟨_, ((((rd_T97 l1_2 x43_2).f1) != t270)), lF, H', ⟨by have := HJ2.out; have := HK2.out; first | omega | exact Nat.le_refl _⟩, ⟨lK BK259.out⟩, ⟨lK BK260.out⟩, ⟨lK BK267.out⟩, ⟨lB⟩⟩
            ·rw [if_neg c44] at H
             have c44b0 : (a1_3 == a0_1) = false := beq_eq_false_iff_ne.mpr c44
             have c44b1 : (a1_3 != a0_1) = true := bne_iff_ne.mpr c44
             (first | rw [c44b0] | (simp only [i64_w, i32_w]; rw [c44b0]) | skip)
             have H' := Aside0.mk H
             clear H
             try go_wp2
             have n0_ : Aside0 (((w36.setCell ⟨gb267, 0, none⟩ (.int .i64 ((rd_T97 l1_2 x43_2).f0))).setCell ⟨gb267, 1, none⟩ (.int .i64 ((rd_T97 l1_2 x43_2).f1))).heap[gb259]? = some (.cells #[.slice A0_0 l0_0.length c0_0, .int .i64 a0_1] 29 (0, 0))) := ⟨lJ BK259.out⟩
             have n1_ : Aside0 (((w36.setCell ⟨gb267, 0, none⟩ (.int .i64 ((rd_T97 l1_2 x43_2).f0))).setCell ⟨gb267, 1, none⟩ (.int .i64 ((rd_T97 l1_2 x43_2).f1))).heap[gb260]? = some (.cells #[.int .i64 a1_0, .int .i64 a1_1, .slice (some ad266) l1_2.length c1_2, .int .i64 a1_3, .int .i64 a1_4, .int .i64 a1_5] 44 (0, 0))) := ⟨lJ BK260.out⟩
             have n2_ : Aside0 (((w36.setCell ⟨gb267, 0, none⟩ (.int .i64 ((rd_T97 l1_2 x43_2).f0))).setCell ⟨gb267, 1, none⟩ (.int .i64 ((rd_T97 l1_2 x43_2).f1))).heap[gb267]? = some (.cells #[.int .i64 ((rd_T97 l1_2 x43_2).f0), .int .i64 ((rd_T97 l1_2 x43_2).f1)] 97 (0, 0))) := ⟨by (with_reducible repeat first | apply bN | apply bD | apply bA); refine blk_put (cs := #[.int .i64 ((rd_T97 l1_2 x43_2).f0), .int .i64 0]) ?_ 1 _ rfl; (with_reducible repeat first | apply bN | apply bD | apply bA); refine blk_put (cs := #[.int .i64 0, .int .i64 0]) ?_ 0 _ rfl; (with_reducible repeat first | apply bN | apply bD | apply bA); exact BK267.out⟩
             have n3_ : Aside0 (Below w.heap.size w ((w36.setCell ⟨gb267, 0, none⟩ (.int .i64 ((rd_T97 l1_2 x43_2).f0))).setCell ⟨gb267, 1, none⟩ (.int .i64 ((rd_T97 l1_2 x43_2).f1)))) := ⟨lB⟩
             (try clear BK259)
             (try clear BK260)
             (try clear BK267)
             (try clear HB)
             generalize ((w36.setCell ⟨gb267, 0, none⟩ (.int .i64 ((rd_T97 l1_2 x43_2).f0))).setCell ⟨gb267, 1, none⟩ (.int .i64 ((rd_T97 l1_2 x43_2).f1))) = w49 at n0_ n1_ n2_ n3_ ⊢
             have BK259 := n0_
             have BK260 := n1_
             have BK267 := n2_
             have HB := n3_
             clear n0_ n1_ n2_ n3_
             have n0_ := Aside0.mk (blk_drew BK259.out)
             have n1_ := Aside0.mk (blk_drew BK260.out)
             have n2_ := Aside0.mk (blk_drew BK267.out)
             have n3_ := Aside0.mk (below_drew1 HB.out)
             clear BK259
             clear BK260
             clear BK267
             clear HB
             have BK259 := n0_
             have BK260 := n1_
             have BK267 := n2_
             have HB := n3_
             clear n0_ n1_ n2_ n3_
             refine start_ (n := 32) (S := fun w' => w'.cell? ⟨gb267, 0, none⟩ = some (.int .i64 ((rd_T97 l1_2 x43_2).f0)) ∧ w'.cell? ⟨gb267, 1, none⟩ = some (.int .i64 ((rd_T97 l1_2 x43_2).f1)) ∧ w'.cell? ⟨gb259, 0, none⟩ = some (.slice A0_0 l0_0.length c0_0) ∧ w'.cell? ⟨gb259, 1, none⟩ = some (.int .i64 a0_1) ∧ w'.cell? ⟨gb260, 0, none⟩ = some (.int .i64 a1_0) ∧ w'.cell? ⟨gb260, 1, none⟩ = some (.int .i64 a1_1) ∧ w'.cell? ⟨gb260, 2, none⟩ = some (.slice (some ad266) l1_2.length c1_2) ∧ w'.cell? ⟨gb260, 3, none⟩ = some (.int .i64 a1_3) ∧ w'.cell? ⟨gb260, 4, none⟩ = some (.int .i64 a1_4) ∧ w'.cell? ⟨gb260, 5, none⟩ = some (.int .i64 a1_5)) (ds := []) (bs 32 0) kR rfl kR ⟨bZ BK267.out 0, bZ BK267.out 1, bZ BK259.out 0, bZ BK259.out 1, bZ BK260.out 0, bZ BK260.out 1, bZ BK260.out 2, bZ BK260.out 3, bZ BK260.out 4, bZ BK260.out 5⟩ (fun hHeld => ?_); refine with_tabW impl_isCache.tab6 impl_isCache.bits6 (fun HT_ HW_ => ?_)
             generalize w49.drew = w50 at BK259 BK260 BK267 HB hHeld ⊢
             refine pur_ 0 48 (bs 32 1) (any_of HT_.out kR) ?_
             refine pur_ 2 50 (bs 32 5) (any_of HT_.out kR) ?_
             refine tak_ 1 49 (bs 32 7) (take_ofW HT_.out HW_.out kR) hHeld ?_
             refine tak_ 3 51 (bs 32 15) (take_ofW HT_.out HW_.out kR) hHeld ?_
             refine pur_ 4 52 (bs 32 31) (any_of HT_.out kR) ?_
             refine pur_ 5 53 (bs 32 63) (any_of HT_.out kR) ?_
             refine one_ (i := 6) (N := some 54) (bs 32 127) rfl rfl (one_of HT_.out (by kernel_rfl)) (by decide) (fun K hK => ?_)
             refine goes_ Try.func59 (by kernel_rfl) rfl #[.int .i64 ((rd_T97 l1_2 x43_2).f0), .int .i64 0, .int .i64 (wrap64 ((l0_0.length : Int) - 1))] (by rfl) rfl rfl (by (try simp only [List.map_toArray, List.map_cons, List.map_nil]); first | done | rfl | (simp only [List.length_drop, List.length_take]; rfl)) ?_
             with_reducible refine (impl_in.calls ((rd_T97 l1_2 x43_2).f0) 0 (wrap64 ((l0_0.length : Int) - 1)) true _ A40.out).mono ?_
             rintro e w' ⟨rfl, ⟨nd, rfl⟩⟩
             refine ⟨_, rfl, ?_⟩
             refine hK.out _ _ ⟨bZ BK267.out 0, bZ BK267.out 1, bZ BK259.out 0, bZ BK259.out 1, bZ BK260.out 0, bZ BK260.out 1, bZ BK260.out 2, bZ BK260.out 3, bZ BK260.out 4, bZ BK260.out 5⟩ (fun hHeld => ?_)
             clear hK K
             refine norm_ (a' := ?_) ?_ ?_
             rotate_left
             ·show Act.put _ (some 54) _ = _
              simp only [Act.put, List.setIfInBounds_toArray, List.set_cons_zero, List.set_cons_succ, i64_w, i32_w]
              rfl
             refine pur_ 7 55 (bs 32 255) (any_of HT_.out kR) ?_
             refine pur_ 8 56 (bs 32 511) (any_of HT_.out kR) ?_
             refine pur_ 9 57 (bs 32 1023) (any_of HT_.out kR) ?_
             refine tak_ 10 58 (bs 32 2047) (take_ofW HT_.out HW_.out kR) hHeld ?_
             refine one_ (i := 11) (N := some 59) (bs 32 4095) rfl rfl (one_of HT_.out (by kernel_rfl)) (by decide) (fun K hK => ?_)
             refine goes_ Try.func59 (by kernel_rfl) rfl #[.int .i64 ((rd_T97 l1_2 x43_2).f1), .int .i64 1, .int .i64 1000] (by rfl) rfl rfl (by (try simp only [List.map_toArray, List.map_cons, List.map_nil]); first | done | rfl | (simp only [List.length_drop, List.length_take]; rfl)) ?_
             with_reducible refine (impl_in.calls ((rd_T97 l1_2 x43_2).f1) 1 1000 true _ A42.out).mono ?_
             rintro e w' ⟨rfl, ⟨nd, rfl⟩⟩
             refine ⟨_, rfl, ?_⟩
             refine hK.out _ _ ⟨bZ BK267.out 0, bZ BK267.out 1, bZ BK259.out 0, bZ BK259.out 1, bZ BK260.out 0, bZ BK260.out 1, bZ BK260.out 2, bZ BK260.out 3, bZ BK260.out 4, bZ BK260.out 5⟩ (fun hHeld => ?_)
             clear hK K
             refine norm_ (a' := ?_) ?_ ?_
             rotate_left
             ·show Act.put _ (some 59) _ = _
              simp only [Act.put, List.setIfInBounds_toArray, List.set_cons_zero, List.set_cons_succ, i64_w, i32_w]
              rfl
             refine pur_ 12 60 (bs 32 8191) (any_of HT_.out kR) ?_
             refine pur_ 13 61 (bs 32 16383) (any_of HT_.out kR) ?_
             refine pur_ 14 62 (bs 32 32767) (any_of HT_.out kR) ?_
             refine pur_ 15 63 (bs 32 65535) (any_of HT_.out kR) ?_
             refine pur_ 17 65 (bs 32 196607) (any_of HT_.out kR) ?_
             refine tak_ 16 64 (bs 32 262143) (take_ofW HT_.out HW_.out kR) hHeld ?_
             refine tak_ 18 66 (bs 32 524287) (take_ofW HT_.out HW_.out kR) hHeld ?_
             refine pur_ 19 67 (bs 32 1048575) (any_of HT_.out kR) ?_
             refine pur_ 20 68 (bs 32 2097151) (any_of HT_.out kR) ?_
             refine puu_ 21 69 (bs 32 4194303) (any_of HT_.out kR) ?_
             refine puu_ 22 70 (bs 32 8388607) (any_of HT_.out kR) ?_
             refine puu_ 23 71 (bs 32 16777215) (any_of HT_.out kR) ?_
             refine puu_ 24 72 (bs 32 33554431) (any_of HT_.out kR) ?_
             refine puu_ 25 73 (bs 32 67108863) (any_of HT_.out kR) ?_
             refine puu_ 26 74 (bs 32 134217727) (any_of HT_.out kR) ?_
             refine puu_ 27 75 (bs 32 268435455) (any_of HT_.out kR) ?_
             refine puu_ 28 76 (bs 32 536870911) (any_of HT_.out kR) ?_
             refine puu_ 29 77 (bs 32 1073741823) (any_of HT_.out kR) ?_
             refine pur_ 30 78 (bs 32 2147483647) (any_of HT_.out kR) ?_
             refine pur_ 31 79 (bs 32 4294967295) (any_of HT_.out kR) ?_
             refine done_ (done_of HT_.out (by kernel_rfl)) ?_
             try go_wp2
             go_meet
             case rel => exact ⟨_, (false), lF, H', ⟨by have := HJ2.out; have := HK2.out; first | omega | exact Nat.le_refl _⟩, ⟨lK BK259.out⟩, ⟨lK BK260.out⟩, ⟨lK BK267.out⟩, ⟨lB⟩⟩
           ·replace c43 := Bool.eq_false_iff.mpr c43
            subst c43
            rw [if_neg (show ¬ (false = true) by decide)] at H
            have H' := Aside0.mk H
            clear H
            try go_wp2
            have n0_ : Aside0 (((w36.setCell ⟨gb267, 0, none⟩ (.int .i64 ((rd_T97 l1_2 x43_2).f0))).setCell ⟨gb267, 1, none⟩ (.int .i64 ((rd_T97 l1_2 x43_2).f1))).heap[gb259]? = some (.cells #[.slice A0_0 l0_0.length c0_0, .int .i64 a0_1] 29 (0, 0))) := ⟨lJ BK259.out⟩
            have n1_ : Aside0 (((w36.setCell ⟨gb267, 0, none⟩ (.int .i64 ((rd_T97 l1_2 x43_2).f0))).setCell ⟨gb267, 1, none⟩ (.int .i64 ((rd_T97 l1_2 x43_2).f1))).heap[gb260]? = some (.cells #[.int .i64 a1_0, .int .i64 a1_1, .slice (some ad266) l1_2.length c1_2, .int .i64 a1_3, .int .i64 a1_4, .int .i64 a1_5] 44 (0, 0))) := ⟨lJ BK260.out⟩
            have n2_ : Aside0 (((w36.setCell ⟨gb267, 0, none⟩ (.int .i64 ((rd_T97 l1_2 x43_2).f0))).setCell ⟨gb267, 1, none⟩ (.int .i64 ((rd_T97 l1_2 x43_2).f1))).heap[gb267]? = some (.cells #[.int .i64 ((rd_T97 l1_2 x43_2).f0), .int .i64 ((rd_T97 l1_2 x43_2).f1)] 97 (0, 0))) := ⟨by (with_reducible repeat first | apply bN | apply bD | apply bA); refine blk_put (cs := #[.int .i64 ((rd_T97 l1_2 x43_2).f0), .int .i64 0]) ?_ 1 _ rfl; (with_reducible repeat first | apply bN | apply bD | apply bA); refine blk_put (cs := #[.int .i64 0, .int .i64 0]) ?_ 0 _ rfl; (with_reducible repeat first | apply bN | apply bD | apply bA); exact BK267.out⟩
            have n3_ : Aside0 (Below w.heap.size w ((w36.setCell ⟨gb267, 0, none⟩ (.int .i64 ((rd_T97 l1_2 x43_2).f0))).setCell ⟨gb267, 1, none⟩ (.int .i64 ((rd_T97 l1_2 x43_2).f1)))) := ⟨lB⟩
            (try clear BK259)
            (try clear BK260)
            (try clear BK267)
            (try clear HB)
            generalize ((w36.setCell ⟨gb267, 0, none⟩ (.int .i64 ((rd_T97 l1_2 x43_2).f0))).setCell ⟨gb267, 1, none⟩ (.int .i64 ((rd_T97 l1_2 x43_2).f1))) = w51 at n0_ n1_ n2_ n3_ ⊢
            have BK259 := n0_
            have BK260 := n1_
            have BK267 := n2_
            have HB := n3_
            clear n0_ n1_ n2_ n3_
            have n0_ := Aside0.mk (blk_drew BK259.out)
            have n1_ := Aside0.mk (blk_drew BK260.out)
            have n2_ := Aside0.mk (blk_drew BK267.out)
            have n3_ := Aside0.mk (below_drew1 HB.out)
            clear BK259
            clear BK260
            clear BK267
            clear HB
            have BK259 := n0_
            have BK260 := n1_
            have BK267 := n2_
            have HB := n3_
            clear n0_ n1_ n2_ n3_
            refine start_ (n := 32) (S := fun w' => w'.cell? ⟨gb267, 0, none⟩ = some (.int .i64 ((rd_T97 l1_2 x43_2).f0)) ∧ w'.cell? ⟨gb267, 1, none⟩ = some (.int .i64 ((rd_T97 l1_2 x43_2).f1)) ∧ w'.cell? ⟨gb259, 0, none⟩ = some (.slice A0_0 l0_0.length c0_0) ∧ w'.cell? ⟨gb259, 1, none⟩ = some (.int .i64 a0_1)) (ds := []) (bs 32 0) kR rfl kR ⟨bZ BK267.out 0, bZ BK267.out 1, bZ BK259.out 0, bZ BK259.out 1⟩ (fun hHeld => ?_); refine with_tabW impl_isCache.tab6 impl_isCache.bits6 (fun HT_ HW_ => ?_)
            generalize w51.drew = w52 at BK259 BK260 BK267 HB hHeld ⊢
            refine pur_ 0 48 (bs 32 1) (any_of HT_.out kR) ?_
            refine pur_ 2 50 (bs 32 5) (any_of HT_.out kR) ?_
            refine tak_ 1 49 (bs 32 7) (take_ofW HT_.out HW_.out kR) hHeld ?_
            refine tak_ 3 51 (bs 32 15) (take_ofW HT_.out HW_.out kR) hHeld ?_
            refine pur_ 4 52 (bs 32 31) (any_of HT_.out kR) ?_
            refine pur_ 5 53 (bs 32 63) (any_of HT_.out kR) ?_
            refine one_ (i := 6) (N := some 54) (bs 32 127) rfl rfl (one_of HT_.out (by kernel_rfl)) (by decide) (fun K hK => ?_)
            refine goes_ Try.func59 (by kernel_rfl) rfl #[.int .i64 ((rd_T97 l1_2 x43_2).f0), .int .i64 0, .int .i64 (wrap64 ((l0_0.length : Int) - 1))] (by rfl) rfl rfl (by (try simp only [List.map_toArray, List.map_cons, List.map_nil]); first | done | rfl | (simp only [List.length_drop, List.length_take]; rfl)) ?_
            with_reducible refine (impl_in.calls ((rd_T97 l1_2 x43_2).f0) 0 (wrap64 ((l0_0.length : Int) - 1)) true _ A40.out).mono ?_
            rintro e w' ⟨rfl, ⟨nd, rfl⟩⟩
            refine ⟨_, rfl, ?_⟩
            refine hK.out _ _ ⟨bZ BK267.out 0, bZ BK267.out 1, bZ BK259.out 0, bZ BK259.out 1⟩ (fun hHeld => ?_)
            clear hK K
            refine norm_ (a' := ?_) ?_ ?_
            rotate_left
            ·show Act.put _ (some 54) _ = _
             simp only [Act.put, List.setIfInBounds_toArray, List.set_cons_zero, List.set_cons_succ, i64_w, i32_w]
             rfl
            refine pur_ 7 55 (bs 32 255) (any_of HT_.out kR) ?_
            refine pur_ 8 56 (bs 32 511) (any_of HT_.out kR) ?_
            refine pur_ 9 57 (bs 32 1023) (any_of HT_.out kR) ?_
            refine tak_ 10 58 (bs 32 2047) (take_ofW HT_.out HW_.out kR) hHeld ?_
            refine one_ (i := 11) (N := some 59) (bs 32 4095) rfl rfl (one_of HT_.out (by kernel_rfl)) (by decide) (fun K hK => ?_)
            refine goes_ Try.func59 (by kernel_rfl) rfl #[.int .i64 ((rd_T97 l1_2 x43_2).f1), .int .i64 1, .int .i64 1000] (by rfl) rfl rfl (by (try simp only [List.map_toArray, List.map_cons, List.map_nil]); first | done | rfl | (simp only [List.length_drop, List.length_take]; rfl)) ?_
            with_reducible refine (impl_in.calls ((rd_T97 l1_2 x43_2).f1) 1 1000 false _ A42.out).mono ?_
            rintro e w' ⟨rfl, ⟨nd, rfl⟩⟩
            refine ⟨_, rfl, ?_⟩
            refine hK.out _ _ ⟨bZ BK267.out 0, bZ BK267.out 1, bZ BK259.out 0, bZ BK259.out 1⟩ (fun hHeld => ?_)
            clear hK K
            refine norm_ (a' := ?_) ?_ ?_
            rotate_left
            ·show Act.put _ (some 59) _ = _
             simp only [Act.put, List.setIfInBounds_toArray, List.set_cons_zero, List.set_cons_succ, i64_w, i32_w]
             rfl
            refine pur_ 12 60 (bs 32 8191) (any_of HT_.out kR) ?_
            refine pur_ 13 61 (bs 32 16383) (any_of HT_.out kR) ?_
            refine pur_ 14 62 (bs 32 32767) (any_of HT_.out kR) ?_
            refine puu_ 15 63 (bs 32 65535) (any_of HT_.out kR) ?_
            refine puu_ 16 64 (bs 32 131071) (any_of HT_.out kR) ?_
            refine puu_ 17 65 (bs 32 262143) (any_of HT_.out kR) ?_
            refine puu_ 18 66 (bs 32 524287) (any_of HT_.out kR) ?_
            refine puu_ 19 67 (bs 32 1048575) (any_of HT_.out kR) ?_
            refine puu_ 20 68 (bs 32 2097151) (any_of HT_.out kR) ?_
            refine puu_ 21 69 (bs 32 4194303) (any_of HT_.out kR) ?_
            refine puu_ 22 70 (bs 32 8388607) (any_of HT_.out kR) ?_
            refine puu_ 23 71 (bs 32 16777215) (any_of HT_.out kR) ?_
            refine puu_ 24 72 (bs 32 33554431) (any_of HT_.out kR) ?_
            refine puu_ 25 73 (bs 32 67108863) (any_of HT_.out kR) ?_
            refine puu_ 26 74 (bs 32 134217727) (any_of HT_.out kR) ?_
            refine puu_ 27 75 (bs 32 268435455) (any_of HT_.out kR) ?_
            refine puu_ 28 76 (bs 32 536870911) (any_of HT_.out kR) ?_
            refine puu_ 29 77 (bs 32 1073741823) (any_of HT_.out kR) ?_
            refine puu_ 30 78 (bs 32 2147483647) (any_of HT_.out kR) ?_
            refine pur_ 31 79 (bs 32 4294967295) (any_of HT_.out kR) ?_
            refine done_ (done_of HT_.out (by kernel_rfl)) ?_
            try go_wp2
            go_meet
            case rel => exact ⟨_, (true), lF, H', ⟨by have := HJ2.out; have := HK2.out; first | omega | exact Nat.le_refl _⟩, ⟨lK BK259.out⟩, ⟨lK BK260.out⟩, ⟨lK BK267.out⟩, ⟨lB⟩⟩
          ·replace c41 := Bool.eq_false_iff.mpr c41
           subst c41
           rw [if_neg (show ¬ (false = true) by decide)] at H
           have H' := Aside0.mk H
           clear H
           try go_wp2
           have n0_ : Aside0 (((w36.setCell ⟨gb267, 0, none⟩ (.int .i64 ((rd_T97 l1_2 x43_2).f0))).setCell ⟨gb267, 1, none⟩ (.int .i64 ((rd_T97 l1_2 x43_2).f1))).heap[gb259]? = some (.cells #[.slice A0_0 l0_0.length c0_0, .int .i64 a0_1] 29 (0, 0))) := ⟨lJ BK259.out⟩
           have n1_ : Aside0 (((w36.setCell ⟨gb267, 0, none⟩ (.int .i64 ((rd_T97 l1_2 x43_2).f0))).setCell ⟨gb267, 1, none⟩ (.int .i64 ((rd_T97 l1_2 x43_2).f1))).heap[gb260]? = some (.cells #[.int .i64 a1_0, .int .i64 a1_1, .slice (some ad266) l1_2.length c1_2, .int .i64 a1_3, .int .i64 a1_4, .int .i64 a1_5] 44 (0, 0))) := ⟨lJ BK260.out⟩
           have n2_ : Aside0 (((w36.setCell ⟨gb267, 0, none⟩ (.int .i64 ((rd_T97 l1_2 x43_2).f0))).setCell ⟨gb267, 1, none⟩ (.int .i64 ((rd_T97 l1_2 x43_2).f1))).heap[gb267]? = some (.cells #[.int .i64 ((rd_T97 l1_2 x43_2).f0), .int .i64 ((rd_T97 l1_2 x43_2).f1)] 97 (0, 0))) := ⟨by (with_reducible repeat first | apply bN | apply bD | apply bA); refine blk_put (cs := #[.int .i64 ((rd_T97 l1_2 x43_2).f0), .int .i64 0]) ?_ 1 _ rfl; (with_reducible repeat first | apply bN | apply bD | apply bA); refine blk_put (cs := #[.int .i64 0, .int .i64 0]) ?_ 0 _ rfl; (with_reducible repeat first | apply bN | apply bD | apply bA); exact BK267.out⟩
           have n3_ : Aside0 (Below w.heap.size w ((w36.setCell ⟨gb267, 0, none⟩ (.int .i64 ((rd_T97 l1_2 x43_2).f0))).setCell ⟨gb267, 1, none⟩ (.int .i64 ((rd_T97 l1_2 x43_2).f1)))) := ⟨lB⟩
           (try clear BK259)
           (try clear BK260)
           (try clear BK267)
           (try clear HB)
           generalize ((w36.setCell ⟨gb267, 0, none⟩ (.int .i64 ((rd_T97 l1_2 x43_2).f0))).setCell ⟨gb267, 1, none⟩ (.int .i64 ((rd_T97 l1_2 x43_2).f1))) = w53 at n0_ n1_ n2_ n3_ ⊢
           have BK259 := n0_
           have BK260 := n1_
           have BK267 := n2_
           have HB := n3_
           clear n0_ n1_ n2_ n3_
           have n0_ := Aside0.mk (blk_drew BK259.out)
           have n1_ := Aside0.mk (blk_drew BK260.out)
           have n2_ := Aside0.mk (blk_drew BK267.out)
           have n3_ := Aside0.mk (below_drew1 HB.out)
           clear BK259
           clear BK260
           clear BK267
           clear HB
           have BK259 := n0_
           have BK260 := n1_
           have BK267 := n2_
           have HB := n3_
           clear n0_ n1_ n2_ n3_
           refine start_ (n := 32) (S := fun w' => w'.cell? ⟨gb267, 0, none⟩ = some (.int .i64 ((rd_T97 l1_2 x43_2).f0)) ∧ w'.cell? ⟨gb267, 1, none⟩ = some (.int .i64 ((rd_T97 l1_2 x43_2).f1)) ∧ w'.cell? ⟨gb259, 0, none⟩ = some (.slice A0_0 l0_0.length c0_0) ∧ w'.cell? ⟨gb259, 1, none⟩ = some (.int .i64 a0_1)) (ds := []) (bs 32 0) kR rfl kR ⟨bZ BK267.out 0, bZ BK267.out 1, bZ BK259.out 0, bZ BK259.out 1⟩ (fun hHeld => ?_); refine with_tabW impl_isCache.tab6 impl_isCache.bits6 (fun HT_ HW_ => ?_)
           generalize w53.drew = w54 at BK259 BK260 BK267 HB hHeld ⊢
           refine pur_ 0 48 (bs 32 1) (any_of HT_.out kR) ?_
           refine pur_ 2 50 (bs 32 5) (any_of HT_.out kR) ?_
           refine tak_ 1 49 (bs 32 7) (take_ofW HT_.out HW_.out kR) hHeld ?_
           refine tak_ 3 51 (bs 32 15) (take_ofW HT_.out HW_.out kR) hHeld ?_
           refine pur_ 4 52 (bs 32 31) (any_of HT_.out kR) ?_
           refine pur_ 5 53 (bs 32 63) (any_of HT_.out kR) ?_
           refine one_ (i := 6) (N := some 54) (bs 32 127) rfl rfl (one_of HT_.out (by kernel_rfl)) (by decide) (fun K hK => ?_)
           refine goes_ Try.func59 (by kernel_rfl) rfl #[.int .i64 ((rd_T97 l1_2 x43_2).f0), .int .i64 0, .int .i64 (wrap64 ((l0_0.length : Int) - 1))] (by rfl) rfl rfl (by (try simp only [List.map_toArray, List.map_cons, List.map_nil]); first | done | rfl | (simp only [List.length_drop, List.length_take]; rfl)) ?_
           with_reducible refine (impl_in.calls ((rd_T97 l1_2 x43_2).f0) 0 (wrap64 ((l0_0.length : Int) - 1)) false _ A40.out).mono ?_
           rintro e w' ⟨rfl, ⟨nd, rfl⟩⟩
           refine ⟨_, rfl, ?_⟩
           refine hK.out _ _ ⟨bZ BK267.out 0, bZ BK267.out 1, bZ BK259.out 0, bZ BK259.out 1⟩ (fun hHeld => ?_)
           clear hK K
           refine norm_ (a' := ?_) ?_ ?_
           rotate_left
           ·show Act.put _ (some 54) _ = _
            simp only [Act.put, List.setIfInBounds_toArray, List.set_cons_zero, List.set_cons_succ, i64_w, i32_w]
            rfl
           refine pur_ 7 55 (bs 32 255) (any_of HT_.out kR) ?_
           refine pur_ 8 56 (bs 32 511) (any_of HT_.out kR) ?_
           refine puu_ 9 57 (bs 32 1023) (any_of HT_.out kR) ?_
           refine puu_ 10 58 (bs 32 2047) (any_of HT_.out kR) ?_
           refine puu_ 11 59 (bs 32 4095) (any_of HT_.out kR) ?_
           refine puu_ 12 60 (bs 32 8191) (any_of HT_.out kR) ?_
           refine pur_ 13 61 (bs 32 16383) (any_of HT_.out kR) ?_
           refine pur_ 14 62 (bs 32 32767) (any_of HT_.out kR) ?_
           refine puu_ 15 63 (bs 32 65535) (any_of HT_.out kR) ?_
           refine puu_ 16 64 (bs 32 131071) (any_of HT_.out kR) ?_
           refine puu_ 17 65 (bs 32 262143) (any_of HT_.out kR) ?_
           refine puu_ 18 66 (bs 32 524287) (any_of HT_.out kR) ?_
           refine puu_ 19 67 (bs 32 1048575) (any_of HT_.out kR) ?_
           refine puu_ 20 68 (bs 32 2097151) (any_of HT_.out kR) ?_
           refine puu_ 21 69 (bs 32 4194303) (any_of HT_.out kR) ?_
           refine puu_ 22 70 (bs 32 8388607) (any_of HT_.out kR) ?_
           refine puu_ 23 71 (bs 32 16777215) (any_of HT_.out kR) ?_
           refine puu_ 24 72 (bs 32 33554431) (any_of HT_.out kR) ?_
           refine puu_ 25 73 (bs 32 67108863) (any_of HT_.out kR) ?_
           refine puu_ 26 74 (bs 32 134217727) (any_of HT_.out kR) ?_
           refine puu_ 27 75 (bs 32 268435455) (any_of HT_.out kR) ?_
           refine puu_ 28 76 (bs 32 536870911) (any_of HT_.out kR) ?_
           refine puu_ 29 77 (bs 32 1073741823) (any_of HT_.out kR) ?_
           refine puu_ 30 78 (bs 32 2147483647) (any_of HT_.out kR) ?_
           refine pur_ 31 79 (bs 32 4294967295) (any_of HT_.out kR) ?_
           refine done_ (done_of HT_.out (by kernel_rfl)) ?_
           try go_wp2
           go_meet
           case rel => exact ⟨_, (true), lF, H', ⟨by have := HJ2.out; have := HK2.out; first | omega | exact Nat.le_refl _⟩, ⟨lK BK259.out⟩, ⟨lK BK260.out⟩, ⟨lK BK267.out⟩, ⟨lB⟩⟩
         case rest =>
          clear HC35
          try clear c1
          try clear p2
          try clear c4
          try clear c5
          try clear p6
          try clear c41
          try clear c43
          obtain ⟨kq, x79_34, rfl, HA, HJ34, BK259, BK260, BK267, HB⟩ := hcut
          cases kq with
          | zero => exact absurd HA.out (by simp [impl_isCache.j2])
          | succ kj34 =>
           have H := HA.out
           clear HA
           simp only [impl_isCache.j2] at H
           by_cases c55 : x79_34 = true
           ·subst c55
            rw [if_pos rfl] at H
            obtain rfl := Option.some.inj H
            first | (go_wp2; go_ret; exact ⟨lE, lB⟩) | (exfalso; simp only [decide_eq_false_iff_not, decide_eq_true_eq] at *; omega)
           ·replace c55 := Bool.eq_false_iff.mpr c55
            subst c55
            rw [if_neg (show ¬ (false = true) by decide)] at H
            by_cases c56 : 0 ≤ x43_2
            ·rw [if_pos c56] at H
             have c56b0 := eq_true c56
             have c56b1 : decide (0 ≤ x43_2) = true := decide_eq_true c56
             clear c56
             by_cases c57 : x43_2 ≤ (l1_2.length : Int)
             ·rw [if_pos c57] at H
              have c57b0 := eq_true c57
              have c57b1 : decide (x43_2 ≤ (l1_2.length : Int)) = true := decide_eq_true c57
              clear c57
              obtain ⟨y271, hy271⟩ : ∃ y_ : List (S97), y_ = (l1_2.take (x43_2 : Int).toNat) := ⟨_, rfl⟩
              replace H : (impl_isCache.l1 kj34 l1_2 (l1_2.length : Int) x43_2 y271 (y271.length : Int) 0 l0_0 a0_1 a1_0 a1_1 l1_2 a1_3 a1_4 a1_5 ((rd_T97 l1_2 x43_2).f0) ((rd_T97 l1_2 x43_2).f1)) = some r := by first | (rw [hy271]; with_reducible exact H) | (have H2_ := (Option.bind_some _ _).symm.trans H; rw [hy271]; with_reducible exact H2_) | (have H2_ := (Option.bind_some _ _).symm.trans H; with_reducible exact H2_) | with_reducible exact H | (rw [hy271]; exact H) | exact H
              have Ny271 := Aside0.mk hy271
              clear hy271
              have H' := Aside0.mk H
              clear H
              have hnb58 := NB260_259.out
              have hnc58 := NB259_260.out
              have hnb59 := NB260_267.out
              have hnc59 := NB267_260.out
              obtain ⟨hcz60_0, hfz60_0, hcz60_1, hfz60_1, hcz60_2, hfz60_2, hcz60_3, hfz60_3, hcz60_4, hfz60_4, hcz60_5, hfz60_5⟩ := bk6 BK260.out
              have q61 : (x43_2 : Int) ≤ ((l1_2.length : Int) : Int) := lD
              obtain ⟨i061, hi061, _, hsz61, _⟩ := info_parts info97
              have hroom61 : l1_2.length ≤ c1_2 := HC1_2.out
              have hC61 : Kd.C k97 _ (some ad266) l1_2.length l1_2 := HR1_2.out
              have hcut61 := cut_to (P := Try.prog) 42 97 .i64 Try.underlying42 hi061 (some ad266) l1_2.length c1_2 x43_2 (lD) q61 hroom61
              have hr61 := Kd.C_take (m := (x43_2 : Int).toNat) hC61 (by omega)
              have hy61 : y271.length = (x43_2 : Int).toNat := (by rw [Ny271.out, List.length_take]; omega)
              rw [← Ny271.out] at hr61
              rw [← hy61] at hcut61
              have HR274 := Aside0.mk hr61
              have HC274 := Aside0.mk (show y271.length ≤ c1_2 from by omega)
              clear hr61 hC61 hroom61 hi061 hsz61
              have KY61 := Aside0.mk hy61
              clear hy61
              replace q61 := eq_true q61
              go_wp2
              go_loopg [85] kj34 (fun kq v85 w' => ∃ (x85_4 : Int), v85 = .int .i64 x85_4 ∧ Aside0 (impl_isCache.l1 kq l1_2 (l1_2.length : Int) x43_2 y271 (y271.length : Int) x85_4 l0_0 a0_1 a1_0 a1_1 l1_2 a1_3 a1_4 a1_5 ((rd_T97 l1_2 x43_2).f0) ((rd_T97 l1_2 x43_2).f1) = some r) ∧ Aside0 (kq ≤ kj34) ∧ Aside0 (w'.heap[gb259]? = some (.cells #[(.slice A0_0 l0_0.length c0_0), .int .i64 a0_1] 29 (0, 0))) ∧ Aside0 (w'.heap[gb260]? = some (.cells #[.int .i64 a1_0, .int .i64 a1_1, (.slice (some ad266) l1_2.length c1_2), .int .i64 a1_3, .int .i64 a1_4, .int .i64 a1_5] 44 (0, 0))) ∧ Aside0 (w'.heap[gb267]? = some (.cells #[.int .i64 ((rd_T97 l1_2 x43_2).f0), .int .i64 ((rd_T97 l1_2 x43_2).f1)] 97 (0, 0))) ∧ Aside0 (Below w.heap.size w w'))
              case atStart => exact ⟨(0), lF, H', ⟨Nat.le_refl _⟩, ⟨lK BK259.out⟩, ⟨lK BK260.out⟩, ⟨lK BK267.out⟩, ⟨lB⟩⟩
              case round =>
               clear H'
               try clear c1
               try clear p2
               try clear c4
               try clear c5
               try clear p6
               try clear q6
               try clear c41
               try clear c43
               try clear c55
               try clear c56
               try clear c56b0
               try clear c56b1
               try clear c57
               try clear c57b0
               try clear c57b1
               try clear c58
               try clear c59
               try clear q61
               try clear hcz60_0 hcz60_1 hcz60_2 hcz60_3 hcz60_4 hcz60_5 hfz60_0 hfz60_1 hfz60_2 hfz60_3 hfz60_4 hfz60_5
               try clear p2
               try clear p6
               try clear q61
               obtain ⟨x85_4, rfl, HA, HK4, BK259, BK260, BK267, HB⟩ := hrel
               cases gk with
               | zero => exact absurd HA.out (by simp [impl_isCache.l1])
               | succ k4 =>
                have H := HA.out
                clear HA
                simp only [impl_isCache.l1] at H
                by_cases c62 : x85_4 < (y271.length : Int)
                ·rw [if_pos c62] at H
                 have c62b0 : decide (x85_4 < (y271.length : Int)) = true := decide_eq_true c62
                 clear c62
                 by_cases c63 : 0 ≤ x85_4
                 ·rw [if_pos c63] at H
                  have c63b0 : decide (0 ≤ x85_4) = true := decide_eq_true c63
                  clear c63
                  by_cases c64 : x85_4 < (y271.length : Int)
                  ·rw [if_pos c64] at H
                   have c64b0 : decide (x85_4 < (y271.length : Int)) = true := decide_eq_true c64
                   clear c64
                   by_cases c65 : ((rd_T97 l1_2 x43_2).f0) = ((rd_T97 y271 x85_4).f0)
                   ·rw [if_pos c65] at H
                    have c65b0 : (((rd_T97 l1_2 x43_2).f0) == ((rd_T97 y271 x85_4).f0)) = true := beq_iff_eq.mpr c65
                    have c65b1 : (((rd_T97 l1_2 x43_2).f0) != ((rd_T97 y271 x85_4).f0)) = false := bne_eq_false_iff_eq.mpr c65
                    clear c65
                    obtain rfl := Option.some.inj H
                    have p275 : 0 ≤ (x85_4 : Int) := lD
                    have q275 : x85_4 < (y271.length : Int) := lD
                    obtain ⟨ad275, e275, hx275_0, hx275_1⟩ := at_T97 HR274.out x85_4 p275 q275
                    obtain rfl : ad266 = ad275 := (by injection e275)
                    replace hx275_0 := pw_cell_below HB.out hx275_0
                    replace hx275_1 := pw_cell_below HB.out hx275_1
                    replace p275 := eq_true p275
                    replace q275 := eq_true q275
                    go_wp2_with (first | ((with_reducible refine gate_dst (N := 8) rfl ?_); refine bxe 8 #[.int .i64 0, .int .i64 0] 97 ?_; intro gb276 hg w66 hbox hb; have n0_ := Aside0.mk (blk_below (lK BK259.out) hb); have n1_ := Aside0.mk (blk_below (lK BK260.out) hb); have n2_ := Aside0.mk (blk_below (lK BK267.out) hb); have n3_ := Aside0.mk (below_step lB hb); have n4_ := Aside0.mk (hbox); have n5_ := lG w hg; have n6_ := lG w hg; have n7_ := Aside0.mk ((by rw [hg]; exact Nat.ne_of_lt (blk_lt (lK BK259.out)) : gb259 ≠ gb276)); have n8_ := Aside0.mk ((by rw [hg]; exact Nat.ne_of_gt (blk_lt (lK BK259.out)) : gb276 ≠ gb259)); have n9_ := Aside0.mk ((by rw [hg]; exact Nat.ne_of_lt (blk_lt (lK BK260.out)) : gb260 ≠ gb276)); have n10_ := Aside0.mk ((by rw [hg]; exact Nat.ne_of_gt (blk_lt (lK BK260.out)) : gb276 ≠ gb260)); have n11_ := Aside0.mk ((by rw [hg]; exact Nat.ne_of_lt (blk_lt (lK BK267.out)) : gb267 ≠ gb276)); have n12_ := Aside0.mk ((by rw [hg]; exact Nat.ne_of_gt (blk_lt (lK BK267.out)) : gb276 ≠ gb267)); clear BK259; clear BK260; clear BK267; clear HB; have BK259 := n0_; have BK260 := n1_; have BK267 := n2_; have HB := n3_; have BK276 := n4_; have GW276 := n5_; have GE276 := n6_; have NB259_276 := n7_; have NB276_259 := n8_; have NB260_276 := n9_; have NB276_260 := n10_; have NB267_276 := n11_; have NB276_267 := n12_; clear n0_ n1_ n2_ n3_ n4_ n5_ n6_ n7_ n8_ n9_ n10_ n11_ n12_; clear hb hbox hg; have hnb67 := NB276_259.out; have hnc67 := NB259_276.out; have hnb68 := NB276_260.out; have hnc68 := NB260_276.out; have hnb69 := NB276_267.out; have hnc69 := NB267_276.out; obtain ⟨hcz70_0, hfz70_0, hcz70_1, hfz70_1⟩ := bk2 BK276.out; have hnb71 := NB267_259.out; have hnc71 := NB259_267.out; have hnb72 := NB267_260.out; have hnc72 := NB260_267.out; obtain ⟨hcz73_0, hfz73_0, hcz73_1, hfz73_1⟩ := bk2 BK267.out))
                    go_ret
                    exact ⟨lE, lB⟩
                   ·rw [if_neg c65] at H
                    have c65b0 : (((rd_T97 l1_2 x43_2).f0) == ((rd_T97 y271 x85_4).f0)) = false := beq_eq_false_iff_ne.mpr c65
                    have c65b1 : (((rd_T97 l1_2 x43_2).f0) != ((rd_T97 y271 x85_4).f0)) = true := bne_iff_ne.mpr c65
                    have H' := Aside0.mk H
                    clear H
                    have p275 : 0 ≤ (x85_4 : Int) := lD
                    have q275 : x85_4 < (y271.length : Int) := lD
                    obtain ⟨ad275, e275, hx275_0, hx275_1⟩ := at_T97 HR274.out x85_4 p275 q275
                    obtain rfl : ad266 = ad275 := (by injection e275)
                    replace hx275_0 := pw_cell_below HB.out hx275_0
                    replace hx275_1 := pw_cell_below HB.out hx275_1
                    replace p275 := eq_true p275
                    replace q275 := eq_true q275
                    go_wp2_with (first | ((with_reducible refine gate_dst (N := 8) rfl ?_); refine bxe 8 #[.int .i64 0, .int .i64 0] 97 ?_; intro gb276 hg w74 hbox hb; have n0_ := Aside0.mk (blk_below (lK BK259.out) hb); have n1_ := Aside0.mk (blk_below (lK BK260.out) hb); have n2_ := Aside0.mk (blk_below (lK BK267.out) hb); have n3_ := Aside0.mk (below_step lB hb); have n4_ := Aside0.mk (hbox); have n5_ := lG w hg; have n6_ := lG w hg; have n7_ := Aside0.mk ((by rw [hg]; exact Nat.ne_of_lt (blk_lt (lK BK259.out)) : gb259 ≠ gb276)); have n8_ := Aside0.mk ((by rw [hg]; exact Nat.ne_of_gt (blk_lt (lK BK259.out)) : gb276 ≠ gb259)); have n9_ := Aside0.mk ((by rw [hg]; exact Nat.ne_of_lt (blk_lt (lK BK260.out)) : gb260 ≠ gb276)); have n10_ := Aside0.mk ((by rw [hg]; exact Nat.ne_of_gt (blk_lt (lK BK260.out)) : gb276 ≠ gb260)); have n11_ := Aside0.mk ((by rw [hg]; exact Nat.ne_of_lt (blk_lt (lK BK267.out)) : gb267 ≠ gb276)); have n12_ := Aside0.mk ((by rw [hg]; exact Nat.ne_of_gt (blk_lt (lK BK267.out)) : gb276 ≠ gb267)); clear BK259; clear BK260; clear BK267; clear HB; have BK259 := n0_; have BK260 := n1_; have BK267 := n2_; have HB := n3_; have BK276 := n4_; have GW276 := n5_; have GE276 := n6_; have NB259_276 := n7_; have NB276_259 := n8_; have NB260_276 := n9_; have NB276_260 := n10_; have NB267_276 := n11_; have NB276_267 := n12_; clear n0_ n1_ n2_ n3_ n4_ n5_ n6_ n7_ n8_ n9_ n10_ n11_ n12_; clear hb hbox hg; have hnb75 := NB276_259.out; have hnc75 := NB259_276.out; have hnb76 := NB276_260.out; have hnc76 := NB260_276.out; have hnb77 := NB276_267.out; have hnc77 := NB267_276.out; obtain ⟨hcz78_0, hfz78_0, hcz78_1, hfz78_1⟩ := bk2 BK276.out; have hnb79 := NB267_259.out; have hnc79 := NB259_267.out; have hnb80 := NB267_260.out; have hnc80 := NB260_267.out; obtain ⟨hcz81_0, hfz81_0, hcz81_1, hfz81_1⟩ := bk2 BK267.out))
                    go_roundg k4
                    case measure => have := HJ2.out; have := HK2.out; have := HJ34.out; have := HK4.out; omega
                    case rel => exact ⟨(wrap64 (x85_4 + 1)), lF, H', ⟨by have := HJ2.out; have := HK2.out; have := HJ34.out; have := HK4.out; omega⟩, ⟨lJ BK259.out⟩, ⟨lJ BK260.out⟩, ⟨lJ BK267.out⟩, ⟨lB⟩⟩
                  ·rw [if_neg c64] at H
                   exact absurd H (by simp)
                 ·rw [if_neg c63] at H
                  exact absurd H (by simp)
                ·rw [if_neg c62] at H
                 have c62b0 : decide (x85_4 < (y271.length : Int)) = false := decide_eq_false c62
                 clear c62
                 have H' := Aside0.mk H
                 clear H
                 go_wp2
                 go_roundg k4
                 case measure => have := HJ2.out; have := HK2.out; have := HJ34.out; have := HK4.out; omega
                 case rel => exact ⟨(wrap64 (x43_2 + 1)), lF, H', ⟨by have := HJ2.out; have := HK2.out; have := HJ34.out; have := HK4.out; omega⟩, ⟨lK BK259.out⟩, ⟨lK BK260.out⟩, ⟨lB⟩⟩
             ·rw [if_neg c57] at H
              exact absurd H (by simp)
            ·rw [if_neg c56] at H
             exact absurd H (by simp)
        ·rw [if_neg c34] at H
         exact absurd H (by simp)
       ·rw [if_neg c33] at H
        exact absurd H (by simp)
      ·rw [if_neg c32] at H
       have c32b0 : decide (x43_2 < (l1_2.length : Int)) = false := decide_eq_false c32
       clear c32
       by_cases c82 : a1_1 = 1
       ·rw [if_pos c82] at H
        have c82b0 : (a1_1 == 1) = true := beq_iff_eq.mpr c82
        have c82b1 : (a1_1 != 1) = false := bne_eq_false_iff_eq.mpr c82
        clear c82
        obtain rfl := Option.some.inj H
        have hnb83 := NB260_259.out
        have hnc83 := NB259_260.out
        obtain ⟨hcz84_0, hfz84_0, hcz84_1, hfz84_1, hcz84_2, hfz84_2, hcz84_3, hfz84_3, hcz84_4, hfz84_4, hcz84_5, hfz84_5⟩ := bk6 BK260.out
        first | (go_wp2; go_ret; exact ⟨lE, lB⟩) | (exfalso; simp only [decide_eq_false_iff_not, decide_eq_true_eq] at *; omega)
       ·rw [if_neg c82] at H
        have c82b0 : (a1_1 == 1) = false := beq_eq_false_iff_ne.mpr c82
        have c82b1 : (a1_1 != 1) = true := bne_iff_ne.mpr c82
        by_cases c85 : a1_1 = 2
        ·rw [if_pos c85] at H
         have c85b0 : (a1_1 == 2) = true := beq_iff_eq.mpr c85
         have c85b1 : (a1_1 != 2) = false := bne_eq_false_iff_eq.mpr c85
         clear c85
         replace H := lO H
         obtain ⟨t277, A86, H⟩ := H
         obtain rfl := Option.some.inj H
         have hnb87 := NB260_259.out
         have hnc87 := NB259_260.out
         obtain ⟨hcz88_0, hfz88_0, hcz88_1, hfz88_1, hcz88_2, hfz88_2, hcz88_3, hfz88_3, hcz88_4, hfz88_4, hcz88_5, hfz88_5⟩ := bk6 BK260.out
         go_wp2_with (first | ((with_reducible refine gate_callee (f := 59) rfl ?_); refine gl_ (some 108) (Try.func59) #[.int .i64 (l1_2.length : Int), .int .i64 2, .int .i64 4] ?_; (with_reducible refine (impl_in.calls (l1_2.length : Int) 2 4 t277 _ A86.out).mono ?_); rintro e w' ⟨rfl, ⟨nd, rfl⟩⟩; refine ⟨_, rfl, ?_⟩))
         go_ret
         exact ⟨lE, lB⟩
        ·rw [if_neg c85] at H
         have c85b0 : (a1_1 == 2) = false := beq_eq_false_iff_ne.mpr c85
         have c85b1 : (a1_1 != 2) = true := bne_iff_ne.mpr c85
         obtain rfl := Option.some.inj H
         have hnb89 := NB260_259.out
         have hnc89 := NB259_260.out
         obtain ⟨hcz90_0, hfz90_0, hcz90_1, hfz90_1, hcz90_2, hfz90_2, hcz90_3, hfz90_3, hcz90_4, hfz90_4, hcz90_5, hfz90_5⟩ := bk6 BK260.out
         first | (go_wp2; go_ret; exact ⟨lE, lB⟩) | (exfalso; simp only [decide_eq_false_iff_not, decide_eq_true_eq] at *; omega)

end Go.Proofs.Ytjmgleomljfieaa.Q
