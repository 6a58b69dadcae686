-- Written by the program wip/tools/pr.py of this claim's session, over the kit's print.py.
import Derived.Test.YtjmgleomljfieaaQx0
import Derived.Test.YtjmgleomljfieaaQx6
import Derived.Test.YtjmgleomljfieaaQx7
import Derived.Test.YtjmgleomljfieaaQx9
namespace Go.Proofs.Ytjmgleomljfieaa.Q
open Go.RowKit Go.Proofs.YtjmgleomljfieaaW.PrintWords Go.Proofs.YtjmgleomljfieaaW.PrintLast Go.Proofs.YtjmgleomljfieaaW.PrintMore
attribute [local go_sem] max2_int min2_int max_two min_two max_three min_three max_four min_four   -- for this text's walks alone
set_option linter.unusedVariables false
set_option linter.unusedSimpArgs false

/-! ### impl_PlayCalls: function 45 -/
mutual
def impl_PlayCalls.j0 : Nat → Int → List Int → Bool → List (S82) → Int → Option (Int × Int × (List (S97)) × Int × Int × Int × List Int × Bool)
 | 0, _, _, _, _, _ => none
 | k + 1, x1, x2, x28, x313000, x313001 => if x28 = true then (some (0, 0, ([] : List (S97)), 0, 0, 0, ([] : List Int), false)) else (impl_PlayCalls.l0 k x1 (([] : List Int)) x2 (x2.length : Int) 0 x313000 x313001 x1 0 ([] : List (S97)) x313001 0 0)
def impl_PlayCalls.l0 : Nat → Int → List Int → List Int → Int → Int → List (S82) → Int → Int → Int → List (S97) → Int → Int → Int → Option (Int × Int × (List (S97)) × Int × Int × Int × List Int × Bool)
 | 0, _, _, _, _, _, _, _, _, _, _, _, _, _ => none
 | k + 1, x1, x10, x35, x36, x37, x313000, x313001, x317000, x317001, x317002, x317003, x317004, x317005 => if x37 < x36 then (if 0 ≤ x37 then (if x37 < (x35.length : Int) then ((impl_in.f (rd x35 x37) 0 (wrap64 ((x313000.length : Int) - 1))).bind fun t321 => (if t321 = true then ((impl_World_find.f k x313000 x313001 (rd x35 x37) x1).bind fun t322 => (impl_PlayCalls.j2 k x1 x10 (rd x35 x37) x35 x36 x37 (t322 == 0) x313000 x313001 x317000 x317001 x317002 x317003 x317004 x317005)) else (impl_PlayCalls.j2 k x1 x10 (rd x35 x37) x35 x36 x37 true x313000 x313001 x317000 x317001 x317002 x317003 x317004 x317005))) else (none)) else (none)) else (some (x317000, x317001, x317002, x317003, x317004, x317005, x10, true))
def impl_PlayCalls.j2 : Nat → Int → List Int → Int → List Int → Int → Int → Bool → List (S82) → Int → Int → Int → List (S97) → Int → Int → Int → Option (Int × Int × (List (S97)) × Int × Int × Int × List Int × Bool)
 | 0, _, _, _, _, _, _, _, _, _, _, _, _, _, _, _ => none
 | k + 1, x1, x10, x12, x35, x36, x37, x54, x313000, x313001, x317000, x317001, x317002, x317003, x317004, x317005 => if x54 = true then (some (0, 0, ([] : List (S97)), 0, 0, 0, ([] : List Int), false)) else ((impl_callBy.f k x313000 x313001 x317000 x317001 x317002 x317003 x317004 x317005 x12).bind fun bt323 => (if bt323.2.2.2.2.2.2.2 = true then (if x10.length < 17592186044416 then (impl_PlayCalls.l0 k x1 (x10 ++ [bt323.2.2.2.2.2.2.1]) x35 x36 (wrap64 (x37 + 1)) x313000 x313001 bt323.1 bt323.2.1 bt323.2.2.1 bt323.2.2.2.1 bt323.2.2.2.2.1 bt323.2.2.2.2.2.1) else (none)) else (some (0, 0, ([] : List (S97)), 0, 0, 0, ([] : List Int), false))))
end
def impl_PlayCalls.f (k : Nat) (l0_0 : List (S82)) (a0_1 : Int) (a1 : Int) (l2 : List Int) : Option (Int × Int × (List (S97)) × Int × Int × Int × List Int × Bool) := (impl_isWorld.f k l0_0 a0_1).bind fun t314 => (if t314 = true then ((impl_in.f a1 0 4).bind fun t315 => (if t315 = true then (impl_PlayCalls.j0 k a1 l2 (decide ((l2.length : Int) > 100)) l0_0 a0_1) else (impl_PlayCalls.j0 k a1 l2 true l0_0 a0_1))) else (impl_PlayCalls.j0 k a1 l2 true l0_0 a0_1))
theorem impl_PlayCalls.mono_l : ∀ k, (∀ y0 y1 y2 y3 y4, LeO (impl_PlayCalls.j0 k y0 y1 y2 y3 y4) (impl_PlayCalls.j0 (k + 1) y0 y1 y2 y3 y4)) ∧ (∀ y0 y1 y2 y3 y4 y5 y6 y7 y8 y9 y10 y11 y12, LeO (impl_PlayCalls.l0 k y0 y1 y2 y3 y4 y5 y6 y7 y8 y9 y10 y11 y12) (impl_PlayCalls.l0 (k + 1) y0 y1 y2 y3 y4 y5 y6 y7 y8 y9 y10 y11 y12)) ∧ (∀ y0 y1 y2 y3 y4 y5 y6 y7 y8 y9 y10 y11 y12 y13 y14, LeO (impl_PlayCalls.j2 k y0 y1 y2 y3 y4 y5 y6 y7 y8 y9 y10 y11 y12 y13 y14) (impl_PlayCalls.j2 (k + 1) y0 y1 y2 y3 y4 y5 y6 y7 y8 y9 y10 y11 y12 y13 y14))
 | 0 => ⟨fun _ _ _ _ _ r h => by simp [impl_PlayCalls.j0] at h, fun _ _ _ _ _ _ _ _ _ _ _ _ _ r h => by simp [impl_PlayCalls.l0] at h, fun _ _ _ _ _ _ _ _ _ _ _ _ _ _ _ r h => by simp [impl_PlayCalls.j2] at h⟩
 | k + 1 => by
  obtain ⟨ih0, ih1, ih2⟩ := impl_PlayCalls.mono_l k
  refine ⟨?_, ?_, ?_⟩
  ·intro y0 y1 y2 y3 y4
   unfold impl_PlayCalls.j0
   repeat' first
   | with_reducible apply ih0
   | with_reducible apply ih1
   | with_reducible apply ih2
   | with_reducible apply impl_World_find.mono
   | with_reducible apply impl_callBy.mono
   | with_reducible apply impl_isWorld.mono
   | (with_reducible exact LeO.refl _)
   | (with_reducible exact LeO.none _)
   | (with_reducible refine LeO.ite ?_ ?_)
   | (with_reducible refine LeO.bind ?_ (fun _ => ?_))
   | apply ih0
   | apply ih1
   | apply ih2
   | apply impl_World_find.mono
   | apply impl_callBy.mono
   | apply impl_isWorld.mono
   | exact LeO.none _
   | refine LeO.ite ?_ ?_
   | refine LeO.bind ?_ (fun _ => ?_)
  ·intro y0 y1 y2 y3 y4 y5 y6 y7 y8 y9 y10 y11 y12
   unfold impl_PlayCalls.l0
   repeat' first
   | with_reducible apply ih0
   | with_reducible apply ih1
   | with_reducible apply ih2
   | with_reducible apply impl_World_find.mono
   | with_reducible apply impl_callBy.mono
   | with_reducible apply impl_isWorld.mono
   | (with_reducible exact LeO.refl _)
   | (with_reducible exact LeO.none _)
   | (with_reducible refine LeO.ite ?_ ?_)
   | (with_reducible refine LeO.bind ?_ (fun _ => ?_))
   | apply ih0
   | apply ih1
   | apply ih2
   | apply impl_World_find.mono
   | apply impl_callBy.mono
   | apply impl_isWorld.mono
   | exact LeO.none _
   | refine LeO.ite ?_ ?_
   | refine LeO.bind ?_ (fun _ => ?_)
  ·intro y0 y1 y2 y3 y4 y5 y6 y7 y8 y9 y10 y11 y12 y13 y14
   unfold impl_PlayCalls.j2
   repeat' first
   | with_reducible apply ih0
   | with_reducible apply ih1
   | with_reducible apply ih2
   | with_reducible apply impl_World_find.mono
   | with_reducible apply impl_callBy.mono
   | with_reducible apply impl_isWorld.mono
   | (with_reducible exact LeO.refl _)
   | (with_reducible exact LeO.none _)
   | (with_reducible refine LeO.ite ?_ ?_)
   | (with_reducible refine LeO.bind ?_ (fun _ => ?_))
   | apply ih0
   | apply ih1
   | apply ih2
   | apply impl_World_find.mono
   | apply impl_callBy.mono
   | apply impl_isWorld.mono
   | exact LeO.none _
   | refine LeO.ite ?_ ?_
   | refine LeO.bind ?_ (fun _ => ?_)
theorem impl_PlayCalls.mono : ∀ a0 a1 a2 a3 k, LeO (impl_PlayCalls.f k a0 a1 a2 a3) (impl_PlayCalls.f (k + 1) a0 a1 a2 a3) := by
 intro a0 a1 a2 a3 k
 obtain ⟨ih0, ih1, ih2⟩ := impl_PlayCalls.mono_l k
 unfold impl_PlayCalls.f
 repeat' first
   | with_reducible apply ih0
   | with_reducible apply ih1
   | with_reducible apply ih2
   | with_reducible apply impl_World_find.mono
   | with_reducible apply impl_callBy.mono
   | with_reducible apply impl_isWorld.mono
   | (with_reducible exact LeO.refl _)
   | (with_reducible exact LeO.none _)
   | (with_reducible refine LeO.ite ?_ ?_)
   | (with_reducible refine LeO.bind ?_ (fun _ => ?_))
   | apply ih0
   | apply ih1
   | apply ih2
   | apply impl_World_find.mono
   | apply impl_callBy.mono
   | apply impl_isWorld.mono
   | exact LeO.none _
   | refine LeO.ite ?_ ?_
   | refine LeO.bind ?_ (fun _ => ?_)
set_option maxHeartbeats 8000000 in
set_option maxRecDepth 100000 in
theorem impl_PlayCalls.calls (k : Nat) (A0_0 : Option Addr) (c0_0 : Nat) (l0_0 : List (S82)) (a0_1 : Int) (a1 : Int) (A2 : Option Addr) (c2 : Nat) (l2 : List Int) (r1 : Int) (r2 : Int) (r3 : List (S97)) (r4 : Int) (r5 : Int) (r6 : Int) (r7 : List Int) (r8 : Bool) (w : World) (hr0_0 : Kd.C k82 w A0_0 l0_0.length l0_0) (hc0_0 : l0_0.length ≤ c0_0) (hr2 : Kd.C (Kd.int .i64) w A2 l2.length l2) (hc2 : l2.length ≤ c2) (h : impl_PlayCalls.f k l0_0 a0_1 a1 l2 = some (r1, r2, r3, r4, r5, r6, r7, r8)) :
  Calls Try.prog 45 #[.agg #[.slice A0_0 l0_0.length c0_0, .int .i64 a0_1], .int .i64 a1, .slice A2 l2.length c2] w fun e w' => ∃ v2_ v6_ : Value, e = .returned (.tuple #[.agg #[.int .i64 r1, .int .i64 r2, v2_, .int .i64 r4, .int .i64 r5, .int .i64 r6], v6_, .bool r8]) ∧ Kd.R k97 97 w' w.heap.size (fun _ => True) v2_ r3 ∧ Kd.R (Kd.int .i64) 3 w' w.heap.size (fun _ => True) v6_ r7 ∧ Below w.heap.size w w' := by
 have hu29 := Try.underlying29
 have hu44 := Try.underlying44
 have HR0_0 := Aside0.mk hr0_0
 have HC0_0 := Aside0.mk hc0_0
 clear hr0_0 hc0_0
 have HR2 := Aside0.mk hr2
 have HC2 := Aside0.mk hc2
 clear hr2 hc2
 have HB := Aside0.mk (Below.refl w.heap.size w)
 have H : ((impl_isWorld.f k l0_0 a0_1).bind fun t314 => (if t314 = true then ((impl_in.f a1 0 4).bind fun t315 => (if t315 = true then (impl_PlayCalls.j0 k a1 l2 (decide ((l2.length : Int) > 100)) l0_0 a0_1) else (impl_PlayCalls.j0 k a1 l2 true l0_0 a0_1))) else (impl_PlayCalls.j0 k a1 l2 true l0_0 a0_1))) = some (r1, r2, r3, r4, r5, r6, r7, r8) := h
 clear h
 have HC4 := Aside0.mk H
 clear H
 go_enter Try.func45, Try.ntmps45
 go_upto_region 1 with (first | ((with_reducible refine gate_dst (N := 3) rfl ?_); (try (refine gate_guard (by rfl) ?_; dsimp only)); refine bxe 3 #[.slice A0_0 l0_0.length c0_0, .int .i64 a0_1] 29 ?_; intro gb312 hg w5 hbox hb; have n0_ := Aside0.mk (below_step lB hb); have n1_ := Aside0.mk (hbox); have n2_ := lG w hg; have n3_ := lG w hg; clear HB; have HB := n0_; have BK312 := n1_; have GW312 := n2_; have GE312 := n3_; clear n0_ n1_ n2_ n3_; clear hb hbox hg) | ((with_reducible refine gate_dst (N := 6) rfl ?_); (try (refine gate_guard (by rfl) ?_; dsimp only)); refine bxe 6 #[.int .i64 0, .int .i64 0, .slice none 0 0, .int .i64 0, .int .i64 0, .int .i64 0] 44 ?_; intro gb313 hg w6 hbox hb; have n0_ := Aside0.mk (blk_below (lK BK312.out) hb); have n1_ := Aside0.mk (below_step lB hb); have n2_ := Aside0.mk (hbox); have n3_ := lG w hg; have n4_ := lG w hg; have n5_ := Aside0.mk ((by rw [hg]; exact Nat.ne_of_lt (blk_lt (lK BK312.out)) : gb312 ≠ gb313)); have n6_ := Aside0.mk ((by rw [hg]; exact Nat.ne_of_gt (blk_lt (lK BK312.out)) : gb313 ≠ gb312)); clear BK312; clear HB; have BK312 := n0_; have HB := n1_; have BK313 := n2_; have GW313 := n3_; have GE313 := n4_; have NB312_313 := n5_; have NB313_312 := n6_; clear n0_ n1_ n2_ n3_ n4_ n5_ n6_; clear hb hbox hg))
 (try simp only [Act.put, List.setIfInBounds_toArray, List.set_cons_zero, List.set_cons_succ])
 go_cut [28] (fun v28 wc => ∃ (kq : Nat) (x28_3 : Bool), v28 = .bool x28_3 ∧ Aside0 (impl_PlayCalls.j0 kq a1 l2 x28_3 l0_0 a0_1 = some (r1, r2, r3, r4, r5, r6, r7, r8)) ∧ Aside0 (kq ≤ k) ∧ Aside0 (wc.heap[gb312]? = some (.cells #[(.slice A0_0 l0_0.length c0_0), .int .i64 a0_1] 29 (0, 0))) ∧ Aside0 (wc.heap[gb313]? = some (.cells #[.int .i64 0, .int .i64 0, (.slice none 0 0), .int .i64 0, .int .i64 0, .int .i64 0] 44 (0, 0))) ∧ Aside0 (Below w.heap.size w wc))
 case first =>
  have H := HC4.out
  clear HC4
  replace H := lO H
  obtain ⟨t314, A7, H⟩ := H
  by_cases c8 : t314 = true
  ·subst c8
   rw [if_pos rfl] at H
   replace H := lO H
   obtain ⟨t315, A9, H⟩ := H
   by_cases c10 : t315 = true
   ·subst c10
    rw [if_pos rfl] at H
    have H' := Aside0.mk H
    clear H
    have hnb11 := NB312_313.out
    have hnc11 := NB313_312.out
    obtain ⟨hcz12_0, hfz12_0, hcz12_1, hfz12_1⟩ := bk2 BK312.out
    go_wp2_with (first | ((with_reducible refine gate_callee (f := 56) rfl ?_); refine gl_ (some 17) (Try.func56) #[.agg #[.slice A0_0 l0_0.length c0_0, .int .i64 a0_1]] ?_; (with_reducible refine (impl_isWorld.calls k _ _ l0_0 a0_1 true _ ?side1 ?side2 A7.out).mono ?_); (case side1 => exact lC (Kd.C_below HR0_0.out HB.out)); (case side2 => exact HC0_0.out); rintro e w13 ⟨rfl, hb⟩; refine ⟨_, rfl, ?_⟩; have n0_ := Aside0.mk (blk_below (lK BK312.out) hb); have n1_ := Aside0.mk (blk_below (lK BK313.out) hb); have n2_ := Aside0.mk (below_step lB hb); clear BK312; clear BK313; clear HB; have BK312 := n0_; have BK313 := n1_; have HB := n2_; clear n0_ n1_ n2_; (try clear hb); (try clear hb2); (try clear hk); (try clear hi)) | (go_at_call 59; (with_reducible refine (impl_in.calls a1 0 4 true _ A9.out).mono ?_); rintro e w' ⟨rfl, ⟨nd, rfl⟩⟩))
    go_meet
    case rel => exact ⟨_, (decide ((l2.length : Int) > 100)), lF, H', ⟨lN⟩, ⟨lK BK312.out⟩, ⟨lK BK313.out⟩, ⟨lB⟩⟩
   ·replace c10 := Bool.eq_false_iff.mpr c10
    subst c10
    rw [if_neg (show ¬ (false = true) by decide)] at H
    have H' := Aside0.mk H
    clear H
    have hnb14 := NB312_313.out
    have hnc14 := NB313_312.out
    obtain ⟨hcz15_0, hfz15_0, hcz15_1, hfz15_1⟩ := bk2 BK312.out
    go_wp2_with (first | ((with_reducible refine gate_callee (f := 56) rfl ?_); refine gl_ (some 17) (Try.func56) #[.agg #[.slice A0_0 l0_0.length c0_0, .int .i64 a0_1]] ?_; (with_reducible refine (impl_isWorld.calls k _ _ l0_0 a0_1 true _ ?side1 ?side2 A7.out).mono ?_); (case side1 => exact lC (Kd.C_below HR0_0.out HB.out)); (case side2 => exact HC0_0.out); rintro e w16 ⟨rfl, hb⟩; refine ⟨_, rfl, ?_⟩; have n0_ := Aside0.mk (blk_below (lK BK312.out) hb); have n1_ := Aside0.mk (blk_below (lK BK313.out) hb); have n2_ := Aside0.mk (below_step lB hb); clear BK312; clear BK313; clear HB; have BK312 := n0_; have BK313 := n1_; have HB := n2_; clear n0_ n1_ n2_; (try clear hb); (try clear hb2); (try clear hk); (try clear hi)) | (go_at_call 59; (with_reducible refine (impl_in.calls a1 0 4 false _ A9.out).mono ?_); rintro e w' ⟨rfl, ⟨nd, rfl⟩⟩))
    go_meet
    case rel => exact ⟨_, (true), lF, H', ⟨lN⟩, ⟨lK BK312.out⟩, ⟨lK BK313.out⟩, ⟨lB⟩⟩
  ·replace c8 := Bool.eq_false_iff.mpr c8
   subst c8
   rw [if_neg (show ¬ (false = true) by decide)] at H
   have H' := Aside0.mk H
   clear H
   have hnb17 := NB312_313.out
   have hnc17 := NB313_312.out
   obtain ⟨hcz18_0, hfz18_0, hcz18_1, hfz18_1⟩ := bk2 BK312.out
   go_wp2_with (first | ((with_reducible refine gate_callee (f := 56) rfl ?_); refine gl_ (some 17) (Try.func56) #[.agg #[.slice A0_0 l0_0.length c0_0, .int .i64 a0_1]] ?_; (with_reducible refine (impl_isWorld.calls k _ _ l0_0 a0_1 false _ ?side1 ?side2 A7.out).mono ?_); (case side1 => exact lC (Kd.C_below HR0_0.out HB.out)); (case side2 => exact HC0_0.out); rintro e w19 ⟨rfl, hb⟩; refine ⟨_, rfl, ?_⟩; have n0_ := Aside0.mk (blk_below (lK BK312.out) hb); have n1_ := Aside0.mk (blk_below (lK BK313.out) hb); have n2_ := Aside0.mk (below_step lB hb); clear BK312; clear BK313; clear HB; have BK312 := n0_; have BK313 := n1_; have HB := n2_; clear n0_ n1_ n2_; (try clear hb); (try clear hb2); (try clear hk); (try clear hi)))
   go_meet
   case rel => exact ⟨_, (true), lF, H', ⟨lN⟩, ⟨lK BK312.out⟩, ⟨lK BK313.out⟩, ⟨lB⟩⟩
 case rest =>
  clear HC4
  try clear c1
  try clear c2
  try clear p2
  try clear c4
  try clear c5
  try clear c8
  try clear c10
  try clear c11
  try clear c14
  try clear c17
  try clear hcz12_0 hcz12_1
  try clear hcz15_0 hcz15_1
  try clear hcz18_0 hcz18_1
  try clear hfz12_0 hfz12_1
  try clear hfz15_0 hfz15_1
  try clear hfz18_0 hfz18_1
  obtain ⟨kq, x28_3, rfl, HA, HJ3, BK312, BK313, HB⟩ := hcut
  cases kq with
  | zero => exact absurd HA.out (by simp [impl_PlayCalls.j0])
  | succ kj3 =>
   have H := HA.out
   clear HA
   simp only [impl_PlayCalls.j0] at H
   by_cases c20 : x28_3 = true
   ·subst c20
    rw [if_pos rfl] at H
    simp only [Option.some.injEq, Prod.mk.injEq] at H
    obtain ⟨rfl, rfl, rfl, rfl, rfl, rfl, rfl, rfl⟩ := H
    have hnb21 := NB313_312.out
    have hnc21 := NB312_313.out
    obtain ⟨hcz22_0, hfz22_0, hcz22_1, hfz22_1, hcz22_2, hfz22_2, hcz22_3, hfz22_3, hcz22_4, hfz22_4, hcz22_5, hfz22_5⟩ := bk6 BK313.out
    go_wp2
    refine bodyPost_ret (results_ctt rfl _ _ gb313 44 #[.int .i64 0, .int .i64 0, .slice none 0 0, .int .i64 0, .int .i64 0, .int .i64 0] (0, 0) _ rfl (by (with_reducible repeat first | apply bN | apply bD | apply bA); refine blk_put (cs := #[.int .i64 0, .int .i64 0, .slice none 0 0, .int .i64 0, .int .i64 0, .int .i64 0]) ?_ 5 _ rfl; (with_reducible repeat first | apply bN | apply bD | apply bA); refine blk_put (cs := #[.int .i64 0, .int .i64 0, .slice none 0 0, .int .i64 0, .int .i64 0, .int .i64 0]) ?_ 4 _ rfl; (with_reducible repeat first | apply bN | apply bD | apply bA); refine blk_put (cs := #[.int .i64 0, .int .i64 0, .slice none 0 0, .int .i64 0, .int .i64 0, .int .i64 0]) ?_ 3 _ rfl; (with_reducible repeat first | apply bN | apply bD | apply bA); refine blk_put (cs := #[.int .i64 0, .int .i64 0, .slice none 0 0, .int .i64 0, .int .i64 0, .int .i64 0]) ?_ 2 _ rfl; (with_reducible repeat first | apply bN | apply bD | apply bA); refine blk_put (cs := #[.int .i64 0, .int .i64 0, .slice none 0 0, .int .i64 0, .int .i64 0, .int .i64 0]) ?_ 1 _ rfl; (with_reducible repeat first | apply bN | apply bD | apply bA); refine blk_put (cs := #[.int .i64 0, .int .i64 0, .slice none 0 0, .int .i64 0, .int .i64 0, .int .i64 0]) ?_ 0 _ rfl; (with_reducible repeat first | apply bN | apply bD | apply bA); exact BK313.out) Try.underlying44 rfl (by kernel_rfl)) rfl ?_
    exact ⟨_, _, lE, by first | exact Kd.R_nil _ _ _ _ _ | exact Kd.N_nil _ _ _ _ _ | exact Kd.V_nil _ _ _ _ _ | exact Kd.Q_nil _ _ _ _ _ | exact Kd.S_nil _ _ _ _ _, by first | exact Kd.R_nil _ _ _ _ _ | exact Kd.N_nil _ _ _ _ _ | exact Kd.V_nil _ _ _ _ _ | exact Kd.Q_nil _ _ _ _ _ | exact Kd.S_nil _ _ _ _ _, lB⟩
   ·replace c20 := Bool.eq_false_iff.mpr c20
    subst c20
    rw [if_neg (show ¬ (false = true) by decide)] at H
    obtain ⟨y317, hy317⟩ : ∃ y_ : List Int, y_ = (([] : List Int)) := ⟨_, rfl⟩
    replace H : (impl_PlayCalls.l0 kj3 a1 y317 l2 (l2.length : Int) 0 l0_0 a0_1 a1 0 ([] : List (S97)) a0_1 0 0) = some (r1, r2, r3, r4, r5, r6, r7, r8) := by first | (rw [hy317]; with_reducible exact H) | (have H2_ := (Option.bind_some _ _).symm.trans H; rw [hy317]; with_reducible exact H2_) | (have H2_ := (Option.bind_some _ _).symm.trans H; with_reducible exact H2_) | with_reducible exact H | (rw [hy317]; exact H) | exact H
    have Ny317 := Aside0.mk hy317
    clear hy317
    have H' := Aside0.mk H
    clear H
    have hnb23 := NB312_313.out
    have hnc23 := NB313_312.out
    obtain ⟨hcz24_0, hfz24_0, hcz24_1, hfz24_1⟩ := bk2 BK312.out
    go_wp2_with (first | ((with_reducible refine gate_dst (N := 9) rfl ?_); (try (refine gate_guard (by rfl) ?_; dsimp only)); refine bxe 9 #[.int .i64 0, .int .i64 0, .slice none 0 0, .int .i64 0, .int .i64 0, .int .i64 0] 44 ?_; intro gb316 hg w25 hbox hb; have n0_ := Aside0.mk (blk_below (lK BK312.out) hb); have n1_ := Aside0.mk (blk_below (lK BK313.out) hb); have n2_ := Aside0.mk (below_step lB hb); have n3_ := Aside0.mk (hbox); have n4_ := lG w hg; have n5_ := lG w hg; have n6_ := Aside0.mk ((by rw [hg]; exact Nat.ne_of_lt (blk_lt (lK BK312.out)) : gb312 ≠ gb316)); have n7_ := Aside0.mk ((by rw [hg]; exact Nat.ne_of_gt (blk_lt (lK BK312.out)) : gb316 ≠ gb312)); have n8_ := Aside0.mk ((by rw [hg]; exact Nat.ne_of_lt (blk_lt (lK BK313.out)) : gb313 ≠ gb316)); have n9_ := Aside0.mk ((by rw [hg]; exact Nat.ne_of_gt (blk_lt (lK BK313.out)) : gb316 ≠ gb313)); clear BK312; clear BK313; clear HB; have BK312 := n0_; have BK313 := n1_; have HB := n2_; have BK316 := n3_; have GW316 := n4_; have GE316 := n5_; have NB312_316 := n6_; have NB316_312 := n7_; have NB313_316 := n8_; have NB316_313 := n9_; clear n0_ n1_ n2_ n3_ n4_ n5_ n6_ n7_ n8_ n9_; clear hb hbox hg; have hnb26 := NB316_312.out; have hnc26 := NB312_316.out; have hnb27 := NB316_313.out; have hnc27 := NB313_316.out; obtain ⟨hcz28_0, hfz28_0, hcz28_1, hfz28_1, hcz28_2, hfz28_2, hcz28_3, hfz28_3, hcz28_4, hfz28_4, hcz28_5, hfz28_5⟩ := bk6 BK316.out) | ((with_reducible refine gate_dst (N := 34) rfl ?_); (try (refine gate_guard (by rfl) ?_; dsimp only)); refine Kd.R_lit (Kd.int .i64) _ 3 ?hg (N := 34) ?hd (xs := ([] : List Int)) (inner := []) (ok := fun _ => True) (okp := fun _ => True) ?hr ?hp (fun _ hk => hk) trivial (Below.refl _ _) (Nat.le_refl _) (by simp) ?_; (case hd => rfl); (case hg => rfl); (case hr => first | (go_simp; done) | (go_simp; rfl)); (case hp => exact (Reps.none _ _)); intro v318 w29 ho30 hb hg_ hnew_; clear hg_ hnew_; (first | rw [← Ny317.out] at ho30 | (simp only [Int.reduceToNat] at ho30; rw [← Ny317.out] at ho30)); have n0_ := Aside0.mk (Kd.R_lower ho30 (below_size lB)); have n1_ := Aside0.mk (blk_below (lJ BK312.out) hb); have n2_ := Aside0.mk (blk_below (lJ BK313.out) hb); have n3_ := Aside0.mk (blk_below (g := gb316) (o := .cells #[.int .i64 a1, .int .i64 0, .slice none 0 0, .int .i64 a0_1, .int .i64 0, .int .i64 0] 44 (0, 0)) (by (with_reducible repeat first | apply bN | apply bD | apply bA); refine blk_put (cs := #[.int .i64 a1, .int .i64 0, .slice none 0 0, .int .i64 a0_1, .int .i64 0, .int .i64 0]) ?_ 5 _ rfl; (with_reducible repeat first | apply bN | apply bD | apply bA); refine blk_put (cs := #[.int .i64 a1, .int .i64 0, .slice none 0 0, .int .i64 a0_1, .int .i64 0, .int .i64 0]) ?_ 4 _ rfl; (with_reducible repeat first | apply bN | apply bD | apply bA); refine blk_put (cs := #[.int .i64 a1, .int .i64 0, .slice none 0 0, .int .i64 0, .int .i64 0, .int .i64 0]) ?_ 3 _ rfl; (with_reducible repeat first | apply bN | apply bD | apply bA); refine blk_put (cs := #[.int .i64 a1, .int .i64 0, .slice none 0 0, .int .i64 0, .int .i64 0, .int .i64 0]) ?_ 2 _ rfl; (with_reducible repeat first | apply bN | apply bD | apply bA); refine blk_put (cs := #[.int .i64 a1, .int .i64 0, .slice none 0 0, .int .i64 0, .int .i64 0, .int .i64 0]) ?_ 1 _ rfl; (with_reducible repeat first | apply bN | apply bD | apply bA); refine blk_put (cs := #[.int .i64 0, .int .i64 0, .slice none 0 0, .int .i64 0, .int .i64 0, .int .i64 0]) ?_ 0 _ rfl; (with_reducible repeat first | apply bN | apply bD | apply bA); exact BK316.out) hb); have n4_ := Aside0.mk (below_step lB hb); clear BK312; clear BK313; clear BK316; clear HB; have HO319 := n0_; have BK312 := n1_; have BK313 := n2_; have BK316 := n3_; have HB := n4_; clear n0_ n1_ n2_ n3_ n4_; clear hb ho30))
    go_loopg [10, 37] kj3 (fun kq v10 v37 w' => ∃ (x10_2 : List Int) (x37_2 : Int) (x314000_2 : Int) (x314001_2 : Int) (x314003_2 : Int) (x314004_2 : Int) (x314005_2 : Int) (x317000_2 : Int) (x317001_2 : Int) (x317002_2 : List (S97)) (x317003_2 : Int) (x317004_2 : Int) (x317005_2 : Int) (u317002 : Value), v37 = .int .i64 x37_2 ∧ Aside0 (impl_PlayCalls.l0 kq a1 x10_2 l2 (l2.length : Int) x37_2 l0_0 a0_1 x317000_2 x317001_2 x317002_2 x317003_2 x317004_2 x317005_2 = some (r1, r2, r3, r4, r5, r6, r7, r8)) ∧ Aside0 (kq ≤ kj3) ∧ Aside0 (Kd.R (Kd.int .i64) 3 w' w.heap.size (fun _ => True) v10 x10_2) ∧ Aside0 (Kd.R k97 97 w' w.heap.size (fun _ => True) u317002 x317002_2) ∧ Aside0 (w'.heap[gb312]? = some (.cells #[(.slice A0_0 l0_0.length c0_0), .int .i64 a0_1] 29 (0, 0))) ∧ Aside0 (w'.heap[gb313]? = some (.cells #[.int .i64 x314000_2, .int .i64 x314001_2, (.slice none 0 0), .int .i64 x314003_2, .int .i64 x314004_2, .int .i64 x314005_2] 44 (0, 0))) ∧ Aside0 (w'.heap[gb316]? = some (.cells #[.int .i64 x317000_2, .int .i64 x317001_2, u317002, .int .i64 x317003_2, .int .i64 x317004_2, .int .i64 x317005_2] 44 (0, 0))) ∧ Aside0 (Below w.heap.size w w'))
    case atStart => exact ⟨(y317), (0), (0), (0), (0), (0), (0), (a1), (0), (([] : List (S97))), (a0_1), (0), (0), (.slice none 0 0), lF, H', ⟨Nat.le_refl _⟩, ⟨lR HO319.out⟩, ⟨by first | exact Kd.R_nil _ _ _ _ _ | exact Kd.N_nil _ _ _ _ _ | exact Kd.V_nil _ _ _ _ _ | exact Kd.Q_nil _ _ _ _ _ | exact Kd.S_nil _ _ _ _ _⟩, ⟨lK BK312.out⟩, ⟨lK BK313.out⟩, ⟨lK BK316.out⟩, ⟨lB⟩⟩
    case round =>
     clear H'
     try clear c1
     try clear c2
     try clear p2
     try clear c4
     try clear c5
     try clear c8
     try clear c10
     try clear c11
     try clear c14
     try clear c17
     try clear c20
     try clear c21
     try clear c23
     try clear c26
     try clear c27
     try clear hcz12_0 hcz12_1
     try clear hcz15_0 hcz15_1
     try clear hcz18_0 hcz18_1
     try clear hcz22_0 hcz22_1 hcz22_2 hcz22_3 hcz22_4 hcz22_5
     try clear hcz24_0 hcz24_1
     try clear hcz28_0 hcz28_1 hcz28_2 hcz28_3 hcz28_4 hcz28_5
     try clear hfz12_0 hfz12_1
     try clear hfz15_0 hfz15_1
     try clear hfz18_0 hfz18_1
     try clear hfz22_0 hfz22_1 hfz22_2 hfz22_3 hfz22_4 hfz22_5
     try clear hfz24_0 hfz24_1
     try clear hfz28_0 hfz28_1 hfz28_2 hfz28_3 hfz28_4 hfz28_5
     try clear p2
     obtain ⟨x10_2, x37_2, x314000_2, x314001_2, x314003_2, x314004_2, x314005_2, x317000_2, x317001_2, x317002_2, x317003_2, x317004_2, x317005_2, u317002, rfl, HA, HK2, HO_10, HO_317002, BK312, BK313, BK316, HB⟩ := hrel
     cases gk with
     | zero => exact absurd HA.out (by simp [impl_PlayCalls.l0])
     | succ k2 =>
      have H := HA.out
      clear HA
      simp only [impl_PlayCalls.l0] at H
      by_cases c31 : x37_2 < (l2.length : Int)
      ·rw [if_pos c31] at H
       have c31b0 : decide (x37_2 < (l2.length : Int)) = true := decide_eq_true c31
       clear c31
       by_cases c32 : 0 ≤ x37_2
       ·rw [if_pos c32] at H
        have c32b0 : decide (0 ≤ x37_2) = true := decide_eq_true c32
        clear c32
        by_cases c33 : x37_2 < (l2.length : Int)
        ·rw [if_pos c33] at H
         have c33b0 : decide (x37_2 < (l2.length : Int)) = true := decide_eq_true c33
         clear c33
         have HC34 := Aside0.mk H
         clear H
         have p320 : 0 ≤ (x37_2 : Int) := lD
         have q320 : x37_2 < (l2.length : Int) := lD
         obtain ⟨ad320, e320, hx320_0⟩ := Kd.at_int HR2.out x37_2 p320 q320
         cases e320
         replace hx320_0 := pw_cell_below HB.out hx320_0
         replace p320 := eq_true p320
         replace q320 := eq_true q320
         go_upto_region 8 with (fail)
         go_cut [54] (fun v54 wc => ∃ (kq : Nat) (x54_33 : Bool), v54 = .bool x54_33 ∧ Aside0 (impl_PlayCalls.j2 kq a1 x10_2 (rd l2 x37_2) l2 (l2.length : Int) x37_2 x54_33 l0_0 a0_1 x317000_2 x317001_2 x317002_2 x317003_2 x317004_2 x317005_2 = some (r1, r2, r3, r4, r5, r6, r7, r8)) ∧ Aside0 (kq ≤ k2) ∧ Aside0 (Kd.R (Kd.int .i64) 3 wc w.heap.size (fun _ => True) u10 x10_2) ∧ Aside0 (Kd.R k97 97 wc w.heap.size (fun _ => True) u317002 x317002_2) ∧ Aside0 (wc.heap[gb312]? = some (.cells #[(.slice A0_0 l0_0.length c0_0), .int .i64 a0_1] 29 (0, 0))) ∧ Aside0 (wc.heap[gb313]? = some (.cells #[.int .i64 x314000_2, .int .i64 x314001_2, (.slice none 0 0), .int .i64 x314003_2, .int .i64 x314004_2, .int .i64 x314005_2] 44 (0, 0))) ∧ Aside0 (wc.heap[gb316]? = some (.cells #[.int .i64 x317000_2, .int .i64 x317001_2, u317002, .int .i64 x317003_2, .int .i64 x317004_2, .int .i64 x317005_2] 44 (0, 0))) ∧ Aside0 (Below w.heap.size w wc))
         case first =>
          have H := HC34.out
          clear HC34
          replace H := lO H
          obtain ⟨t321, A35, H⟩ := H
          by_cases c36 : t321 = true
          ·subst c36
           rw [if_pos rfl] at H
           replace H := lO H
           obtain ⟨t322, A37, H⟩ := H
           have H' := Aside0.mk H
           clear H
           have hnb38 := NB312_313.out
           have hnc38 := NB313_312.out
           have hnb39 := NB312_316.out
           have hnc39 := NB316_312.out
           obtain ⟨hcz40_0, hfz40_0, hcz40_1, hfz40_1⟩ := bk2 BK312.out
           go_wp2_with (first | ((with_reducible refine gate_callee (f := 59) rfl ?_); refine gl_ (some 46) (Try.func59) #[.int .i64 (rd l2 x37_2), .int .i64 0, .int .i64 (wrap64 ((l0_0.length : Int) - 1))] ?_; (with_reducible refine (impl_in.calls (rd l2 x37_2) 0 (wrap64 ((l0_0.length : Int) - 1)) true _ A35.out).mono ?_); rintro e w' ⟨rfl, ⟨nd, rfl⟩⟩; refine ⟨_, rfl, ?_⟩) | (go_at_call 62; (with_reducible refine (impl_World_find.calls k2 _ _ l0_0 a0_1 (rd l2 x37_2) a1 t322 _ ?side1 ?side2 A37.out).mono ?_); (case side1 => repeat (first | exact (Kd.C_below HR0_0.out lB) | (with_reducible refine Kd.C_alloc ?_ _) | (with_reducible refine Kd.C_drewN ?_ _) | (with_reducible refine Kd.C_drew ?_))); (case side2 => exact HC0_0.out); rintro e w41 ⟨rfl, hb⟩; have n0_ := Aside0.mk (Kd.R_below (lR HO_10.out) hb); have n1_ := Aside0.mk (Kd.R_below (lR HO_317002.out) hb); have n2_ := Aside0.mk (blk_below (lK BK312.out) hb); have n3_ := Aside0.mk (blk_below (lK BK313.out) hb); have n4_ := Aside0.mk (blk_below (lK BK316.out) hb); have n5_ := Aside0.mk (below_step lB hb); clear HO_10; clear HO_317002; clear BK312; clear BK313; clear BK316; clear HB; have HO_10 := n0_; have HO_317002 := n1_; have BK312 := n2_; have BK313 := n3_; have BK316 := n4_; have HB := n5_; clear n0_ n1_ n2_ n3_ n4_ n5_; (try clear hb); (try clear hb2); (try clear hk); (try clear hi)))
           go_meet
           case rel => exact ⟨_, ((t322 == 0)), lF, H', ⟨by have := HJ3.out; have := HK2.out; first | omega | exact Nat.le_refl _⟩, ⟨lR HO_10.out⟩, ⟨lR HO_317002.out⟩, ⟨lK BK312.out⟩, ⟨lK BK313.out⟩, ⟨lK BK316.out⟩, ⟨lB⟩⟩
          ·replace c36 := Bool.eq_false_iff.mpr c36
           subst c36
           rw [if_neg (show ¬ (false = true) by decide)] at H
           have H' := Aside0.mk H
           clear H
           have hnb42 := NB312_313.out
           have hnc42 := NB313_312.out
           have hnb43 := NB312_316.out
           have hnc43 := NB316_312.out
           obtain ⟨hcz44_0, hfz44_0, hcz44_1, hfz44_1⟩ := bk2 BK312.out
           go_wp2_with (first | ((with_reducible refine gate_callee (f := 59) rfl ?_); refine gl_ (some 46) (Try.func59) #[.int .i64 (rd l2 x37_2), .int .i64 0, .int .i64 (wrap64 ((l0_0.length : Int) - 1))] ?_; (with_reducible refine (impl_in.calls (rd l2 x37_2) 0 (wrap64 ((l0_0.length : Int) - 1)) false _ A35.out).mono ?_); rintro e w' ⟨rfl, ⟨nd, rfl⟩⟩; refine ⟨_, rfl, ?_⟩))
           go_meet
           case rel => exact ⟨_, (true), lF, H', ⟨by have := HJ3.out; have := HK2.out; first | omega | exact Nat.le_refl _⟩, ⟨lR HO_10.out⟩, ⟨lR HO_317002.out⟩, ⟨lK BK312.out⟩, ⟨lK BK313.out⟩, ⟨lK BK316.out⟩, ⟨lB⟩⟩
         case rest =>
          clear HC34
          try clear c1
          try clear c2
          try clear p2
          try clear c3
          try clear p3
          try clear q3
          try clear hx3
          try clear c4
          try clear c5
          try clear p6
          try clear c8
          try clear c10
          try clear c11
          try clear c14
          try clear c17
          try clear c20
          try clear c21
          try clear c23
          try clear c26
          try clear c27
          try clear c31
          try clear c31b0
          try clear c32
          try clear c32b0
          try clear p32
          try clear q32
          try clear hx32
          try clear c33
          try clear c33b0
          try clear c36
          try clear c38
          try clear c39
          try clear c42
          try clear c43
          try clear hcz12_0 hcz12_1
          try clear hcz15_0 hcz15_1
          try clear hcz18_0 hcz18_1
          try clear hcz22_0 hcz22_1 hcz22_2 hcz22_3 hcz22_4 hcz22_5
          try clear hcz24_0 hcz24_1
          try clear hcz28_0 hcz28_1 hcz28_2 hcz28_3 hcz28_4 hcz28_5
          try clear hcz40_0 hcz40_1
          try clear hcz44_0 hcz44_1
          try clear hfz12_0 hfz12_1
          try clear hfz15_0 hfz15_1
          try clear hfz18_0 hfz18_1
          try clear hfz22_0 hfz22_1 hfz22_2 hfz22_3 hfz22_4 hfz22_5
          try clear hfz24_0 hfz24_1
          try clear hfz28_0 hfz28_1 hfz28_2 hfz28_3 hfz28_4 hfz28_5
          try clear hfz40_0 hfz40_1
          try clear hfz44_0 hfz44_1
          try clear hx320_0
          try clear p2
          try clear p320
          try clear q320
          obtain ⟨kq, x54_33, rfl, HA, HJ33, HO_10, HO_317002, BK312, BK313, BK316, HB⟩ := hcut
          cases kq with
          | zero => exact absurd HA.out (by simp [impl_PlayCalls.j2])
          | succ kj33 =>
           have H := HA.out
           clear HA
           simp only [impl_PlayCalls.j2] at H
           by_cases c45 : x54_33 = true
           ·subst c45
            rw [if_pos rfl] at H
            simp only [Option.some.injEq, Prod.mk.injEq] at H
            obtain ⟨rfl, rfl, rfl, rfl, rfl, rfl, rfl, rfl⟩ := H
            have hnb46 := NB313_312.out
            have hnc46 := NB312_313.out
            have hnb47 := NB313_316.out
            have hnc47 := NB316_313.out
            obtain ⟨hcz48_0, hfz48_0, hcz48_1, hfz48_1, hcz48_2, hfz48_2, hcz48_3, hfz48_3, hcz48_4, hfz48_4, hcz48_5, hfz48_5⟩ := bk6 BK313.out
            go_wp2
            refine bodyPost_ret (results_ctt rfl _ _ gb313 44 #[.int .i64 0, .int .i64 0, .slice none 0 0, .int .i64 0, .int .i64 0, .int .i64 0] (0, 0) _ rfl (by (with_reducible repeat first | apply bN | apply bD | apply bA); refine blk_put (cs := #[.int .i64 0, .int .i64 0, .slice none 0 0, .int .i64 0, .int .i64 0, .int .i64 x314005_2]) ?_ 5 _ rfl; (with_reducible repeat first | apply bN | apply bD | apply bA); refine blk_put (cs := #[.int .i64 0, .int .i64 0, .slice none 0 0, .int .i64 0, .int .i64 x314004_2, .int .i64 x314005_2]) ?_ 4 _ rfl; (with_reducible repeat first | apply bN | apply bD | apply bA); refine blk_put (cs := #[.int .i64 0, .int .i64 0, .slice none 0 0, .int .i64 x314003_2, .int .i64 x314004_2, .int .i64 x314005_2]) ?_ 3 _ rfl; (with_reducible repeat first | apply bN | apply bD | apply bA); refine blk_put (cs := #[.int .i64 0, .int .i64 0, .slice none 0 0, .int .i64 x314003_2, .int .i64 x314004_2, .int .i64 x314005_2]) ?_ 2 _ rfl; (with_reducible repeat first | apply bN | apply bD | apply bA); refine blk_put (cs := #[.int .i64 0, .int .i64 x314001_2, .slice none 0 0, .int .i64 x314003_2, .int .i64 x314004_2, .int .i64 x314005_2]) ?_ 1 _ rfl; (with_reducible repeat first | apply bN | apply bD | apply bA); refine blk_put (cs := #[.int .i64 x314000_2, .int .i64 x314001_2, .slice none 0 0, .int .i64 x314003_2, .int .i64 x314004_2, .int .i64 x314005_2]) ?_ 0 _ rfl; (with_reducible repeat first | apply bN | apply bD | apply bA); exact BK313.out) Try.underlying44 rfl (by kernel_rfl)) rfl ?_
            exact ⟨_, _, lE, by first | exact Kd.R_nil _ _ _ _ _ | exact Kd.N_nil _ _ _ _ _ | exact Kd.V_nil _ _ _ _ _ | exact Kd.Q_nil _ _ _ _ _ | exact Kd.S_nil _ _ _ _ _, by first | exact Kd.R_nil _ _ _ _ _ | exact Kd.N_nil _ _ _ _ _ | exact Kd.V_nil _ _ _ _ _ | exact Kd.Q_nil _ _ _ _ _ | exact Kd.S_nil _ _ _ _ _, lB⟩
           ·replace c45 := Bool.eq_false_iff.mpr c45
            subst c45
            rw [if_neg (show ¬ (false = true) by decide)] at H
            replace H := Option.bind_eq_some_iff.mp H
            obtain ⟨⟨t323, t324, t325, t328, t329, t330, t331, t332⟩, A490, H⟩ := H
            replace H : (if t332 = true then (if x10_2.length < 17592186044416 then (impl_PlayCalls.l0 kj33 a1 (x10_2 ++ [t331]) l2 (l2.length : Int) (wrap64 (x37_2 + 1)) l0_0 a0_1 t323 t324 t325 t328 t329 t330) else (none)) else (some (0, 0, ([] : List (S97)), 0, 0, 0, ([] : List Int), false))) = some (r1, r2, r3, r4, r5, r6, r7, r8) := H
            have A49 := Aside0.mk A490
            clear A490
            by_cases c50 : t332 = true
            ·subst c50
             rw [if_pos rfl] at H
             by_cases c51 : x10_2.length < 17592186044416
             ·rw [if_pos c51] at H
              have LMc51 := Aside0.mk c51
              clear c51
              obtain ⟨y334, hy334⟩ : ∃ y_ : List Int, y_ = (x10_2 ++ [t331]) := ⟨_, rfl⟩
              replace H : (impl_PlayCalls.l0 kj33 a1 y334 l2 (l2.length : Int) (wrap64 (x37_2 + 1)) l0_0 a0_1 t323 t324 t325 t328 t329 t330) = some (r1, r2, r3, r4, r5, r6, r7, r8) := by first | (rw [hy334]; with_reducible exact H) | (have H2_ := (Option.bind_some _ _).symm.trans H; rw [hy334]; with_reducible exact H2_) | (have H2_ := (Option.bind_some _ _).symm.trans H; with_reducible exact H2_) | with_reducible exact H | (rw [hy334]; exact H) | exact H
              have Ny334 := Aside0.mk hy334
              clear hy334
              have H' := Aside0.mk H
              clear H
              have hnb52 := NB312_313.out
              have hnc52 := NB313_312.out
              have hnb53 := NB312_316.out
              have hnc53 := NB316_312.out
              obtain ⟨hcz54_0, hfz54_0, hcz54_1, hfz54_1⟩ := bk2 BK312.out
              have hnb55 := NB316_313.out
              have hnc55 := NB313_316.out
              obtain ⟨hcz56_0, hfz56_0, hcz56_1, hfz56_1, hcz56_2, hfz56_2, hcz56_3, hfz56_3, hcz56_4, hfz56_4, hcz56_5, hfz56_5⟩ := bk6 BK316.out
              obtain ⟨Ao57, co57, eo57⟩ := Kd.R_slice HO_317002.out
              subst eo57
              go_wp2_with (first | ((with_reducible refine gate_callee (f := 77) rfl ?_); refine gl_ (some 60) (Try.func77) #[.agg #[.slice A0_0 l0_0.length c0_0, .int .i64 a0_1], .agg #[.int .i64 x317000_2, .int .i64 x317001_2, .slice Ao57 x317002_2.length co57, .int .i64 x317003_2, .int .i64 x317004_2, .int .i64 x317005_2], .int .i64 (rd l2 x37_2)] ?_; (with_reducible refine (impl_callBy.calls kj33 _ _ l0_0 a0_1 x317000_2 x317001_2 _ _ x317002_2 x317003_2 x317004_2 x317005_2 (rd l2 x37_2) t323 t324 t325 t328 t329 t330 t331 true _ ?side1 ?side2 ?side3 ?side4 A49.out).mono ?_); (case side1 => exact lC (Kd.C_below HR0_0.out HB.out)); (case side2 => exact HC0_0.out); (case side3 => repeat (first | exact (Kd.R_reads' HO_317002.out).2.2 | (with_reducible refine Kd.C_alloc ?_ _) | (with_reducible refine Kd.C_drewN ?_ _) | (with_reducible refine Kd.C_drew ?_))); (case side4 => exact (Kd.R_reads' HO_317002.out).2.1); rintro e w58 ⟨v326, rfl, ho0, hb⟩; refine ⟨_, rfl, ?_⟩; have n0_ := Aside0.mk (Kd.R_below (lR HO_10.out) hb); have n1_ := Aside0.mk (Kd.R_elder' (lR HO_317002.out) (Kd.R_base ho0) hb); have n2_ := Aside0.mk (Kd.R_lower (Kd.R_new' ho0 (Kd.R_lt (lR HO_317002.out))) (below_size lB)); have n3_ := Aside0.mk (blk_below (lK BK312.out) hb); have n4_ := Aside0.mk (blk_below (lK BK313.out) hb); have n5_ := Aside0.mk (blk_below (lK BK316.out) hb); have n6_ := Aside0.mk (below_step lB hb); clear HO_10; clear HO_317002; clear BK312; clear BK313; clear BK316; clear HB; have HO_10 := n0_; have HO_317002 := n1_; have HO327 := n2_; have BK312 := n3_; have BK313 := n4_; have BK316 := n5_; have HB := n6_; clear n0_ n1_ n2_ n3_ n4_ n5_ n6_; (try clear hb); (try clear hb2); (try clear hk); (try clear hi); (try clear ho0)) | ((with_reducible refine gate_dst (N := 13) rfl ?_); (try (refine gate_guard (by rfl) ?_; dsimp only)); refine bxe 13 #[.int .i64 0, .int .i64 0, .slice none 0 0, .int .i64 0, .int .i64 0, .int .i64 0] 44 ?_; intro gb333 hg w59 hbox hb; have n0_ := Aside0.mk (Kd.R_below (lR HO_10.out) hb); have n1_ := Aside0.mk (Kd.R_below (lR HO_317002.out) hb); have n2_ := Aside0.mk (Kd.R_below (lR HO327.out) hb); have n3_ := Aside0.mk (blk_below (lK BK312.out) hb); have n4_ := Aside0.mk (blk_below (lK BK313.out) hb); have n5_ := Aside0.mk (blk_below (lK BK316.out) hb); have n6_ := Aside0.mk (below_step lB hb); have n7_ := Aside0.mk (hbox); have n8_ := lG w hg; have n9_ := lG w hg; have n10_ := Aside0.mk ((by rw [hg]; exact Nat.ne_of_lt (blk_lt (lK BK312.out)) : gb312 ≠ gb333)); have n11_ := Aside0.mk ((by rw [hg]; exact Nat.ne_of_gt (blk_lt (lK BK312.out)) : gb333 ≠ gb312)); have n12_ := Aside0.mk ((by rw [hg]; exact Nat.ne_of_lt (blk_lt (lK BK313.out)) : gb313 ≠ gb333)); have n13_ := Aside0.mk ((by rw [hg]; exact Nat.ne_of_gt (blk_lt (lK BK313.out)) : gb333 ≠ gb313)); have n14_ := Aside0.mk ((by rw [hg]; exact Nat.ne_of_lt (blk_lt (lK BK316.out)) : gb316 ≠ gb333)); have n15_ := Aside0.mk ((by rw [hg]; exact Nat.ne_of_gt (blk_lt (lK BK316.out)) : gb333 ≠ gb316)); clear HO_10; clear HO_317002; clear HO327; clear BK312; clear BK313; clear BK316; clear HB; have HO_10 := n0_; have HO_317002 := n1_; have HO327 := n2_; have BK312 := n3_; have BK313 := n4_; have BK316 := n5_; have HB := n6_; have BK333 := n7_; have GW333 := n8_; have GE333 := n9_; have NB312_333 := n10_; have NB333_312 := n11_; have NB313_333 := n12_; have NB333_313 := n13_; have NB316_333 := n14_; have NB333_316 := n15_; clear n0_ n1_ n2_ n3_ n4_ n5_ n6_ n7_ n8_ n9_ n10_ n11_ n12_ n13_ n14_ n15_; clear hb hbox hg; have hnb60 := NB333_312.out; have hnc60 := NB312_333.out; have hnb61 := NB333_313.out; have hnc61 := NB313_333.out; have hnb62 := NB333_316.out; have hnc62 := NB316_333.out; obtain ⟨hcz63_0, hfz63_0, hcz63_1, hfz63_1, hcz63_2, hfz63_2, hcz63_3, hfz63_3, hcz63_4, hfz63_4, hcz63_5, hfz63_5⟩ := bk6 BK333.out; obtain ⟨Ao64, co64, eo64⟩ := Kd.R_slice HO327.out; subst eo64; obtain ⟨hcz65_0, hfz65_0, hcz65_1, hfz65_1, hcz65_2, hfz65_2, hcz65_3, hfz65_3, hcz65_4, hfz65_4, hcz65_5, hfz65_5⟩ := bk6 BK316.out) | ((with_reducible refine gate_builtin (b := .append) (xs := #[.tmp 68, .tmp 70]) rfl ?_); (try (refine gate_guard (by rfl) ?_; dsimp only)); at_builtin; refine Kd.R_append (Kd.int .i64) (w0 := w) w.heap.size rfl (.tmp 68) (.tmp 70) 68 3 (.int .i64 0) 8 rfl Try.underlying68 info3 rfl (by decide) (by omega) u10 x10_2 t331 [.int .i64 t331] (fun _ => True) (fun _ => False) rfl (by first | (go_simp; done) | (go_simp; rfl)) ?aP (fun _ hk => hk.elim) ?aF ?aO ?aB ?aS ?aL ?_; (case aP => exact rfl); (case aB => exact lB); (case aF => exact (fun _ _ => trivial)); (case aO => exact (by (with_reducible repeat (first | apply Kd.R_alloc | apply Kd.R_drewN | apply Kd.R_drew)); exact Kd.R_mono (Kd.R_far (p := ⟨gb316, 5, none⟩) (Kd.R_far (p := ⟨gb316, 4, none⟩) (Kd.R_far (p := ⟨gb316, 3, none⟩) (Kd.R_far (p := ⟨gb316, 2, none⟩) (Kd.R_far (p := ⟨gb316, 1, none⟩) (Kd.R_far (p := ⟨gb316, 0, none⟩) (Kd.R_far (p := ⟨gb333, 5, none⟩) (Kd.R_far (p := ⟨gb333, 4, none⟩) (Kd.R_far (p := ⟨gb333, 3, none⟩) (Kd.R_far (p := ⟨gb333, 2, none⟩) (Kd.R_far (p := ⟨gb333, 1, none⟩) (Kd.R_far (p := ⟨gb333, 0, none⟩) (Kd.R_types (Kd.R_types HO_10.out BK333.out (by decide)) BK316.out (by decide)) (fun _ hk => hk.1.2) (.int .i64 t323)) (fun _ hk => hk.1.2) (.int .i64 t324)) (fun _ hk => hk.1.2) (.slice Ao64 t325.length co64)) (fun _ hk => hk.1.2) (.int .i64 t328)) (fun _ hk => hk.1.2) (.int .i64 t329)) (fun _ hk => hk.1.2) (.int .i64 t330)) (fun _ hk => hk.2) (.int .i64 t323)) (fun _ hk => hk.2) (.int .i64 t324)) (fun _ hk => hk.2) (.slice Ao64 t325.length co64)) (fun _ hk => hk.2) (.int .i64 t328)) (fun _ hk => hk.2) (.int .i64 t329)) (fun _ hk => hk.2) (.int .i64 t330)) (fun _ hk => trivial))); (case aS => exact (below_size lB)); (case aL => have := LMc51.out; omega); intro v335 w66 ho hb hg hat; rw [← Ny334.out] at ho; have n0_ := Aside0.mk (Kd.R_over' (by (with_reducible repeat (first | apply Kd.R_alloc | apply Kd.R_drewN | apply Kd.R_drew)); exact (Kd.R_mono (Kd.R_mono (Kd.R_far (p := ⟨gb316, 5, none⟩) (Kd.R_far (p := ⟨gb316, 4, none⟩) (Kd.R_far (p := ⟨gb316, 3, none⟩) (Kd.R_far (p := ⟨gb316, 2, none⟩) (Kd.R_far (p := ⟨gb316, 1, none⟩) (Kd.R_far (p := ⟨gb316, 0, none⟩) (Kd.R_far (p := ⟨gb333, 5, none⟩) (Kd.R_far (p := ⟨gb333, 4, none⟩) (Kd.R_far (p := ⟨gb333, 3, none⟩) (Kd.R_far (p := ⟨gb333, 2, none⟩) (Kd.R_far (p := ⟨gb333, 1, none⟩) (Kd.R_far (p := ⟨gb333, 0, none⟩) (Kd.R_types (Kd.R_types HO_317002.out BK333.out (by decide)) BK316.out (by decide)) (fun _ hk => hk.1.2) (.int .i64 t323)) (fun _ hk => hk.1.2) (.int .i64 t324)) (fun _ hk => hk.1.2) (.slice Ao64 t325.length co64)) (fun _ hk => hk.1.2) (.int .i64 t328)) (fun _ hk => hk.1.2) (.int .i64 t329)) (fun _ hk => hk.1.2) (.int .i64 t330)) (fun _ hk => hk.2) (.int .i64 t323)) (fun _ hk => hk.2) (.int .i64 t324)) (fun _ hk => hk.2) (.slice Ao64 t325.length co64)) (fun _ hk => hk.2) (.int .i64 t328)) (fun _ hk => hk.2) (.int .i64 t329)) (fun _ hk => hk.2) (.int .i64 t330)) (fun _ h_ => h_.1)) (fun _ h_ => h_.1))) (Kd.R_typed (by (with_reducible repeat (first | apply Kd.R_alloc | apply Kd.R_drewN | apply Kd.R_drew)); exact (Kd.R_mono (Kd.R_mono (Kd.R_far (p := ⟨gb316, 5, none⟩) (Kd.R_far (p := ⟨gb316, 4, none⟩) (Kd.R_far (p := ⟨gb316, 3, none⟩) (Kd.R_far (p := ⟨gb316, 2, none⟩) (Kd.R_far (p := ⟨gb316, 1, none⟩) (Kd.R_far (p := ⟨gb316, 0, none⟩) (Kd.R_far (p := ⟨gb333, 5, none⟩) (Kd.R_far (p := ⟨gb333, 4, none⟩) (Kd.R_far (p := ⟨gb333, 3, none⟩) (Kd.R_far (p := ⟨gb333, 2, none⟩) (Kd.R_far (p := ⟨gb333, 1, none⟩) (Kd.R_far (p := ⟨gb333, 0, none⟩) (Kd.R_types (Kd.R_types HO_10.out BK333.out (by decide)) BK316.out (by decide)) (fun _ hk => hk.1.2) (.int .i64 t323)) (fun _ hk => hk.1.2) (.int .i64 t324)) (fun _ hk => hk.1.2) (.slice Ao64 t325.length co64)) (fun _ hk => hk.1.2) (.int .i64 t328)) (fun _ hk => hk.1.2) (.int .i64 t329)) (fun _ hk => hk.1.2) (.int .i64 t330)) (fun _ hk => hk.2) (.int .i64 t323)) (fun _ hk => hk.2) (.int .i64 t324)) (fun _ hk => hk.2) (.slice Ao64 t325.length co64)) (fun _ hk => hk.2) (.int .i64 t328)) (fun _ hk => hk.2) (.int .i64 t329)) (fun _ hk => hk.2) (.int .i64 t330)) (fun _ h_ => h_.1)) (fun _ h_ => h_.1)))) (by decide) hg); have n1_ := Aside0.mk (blk_grown (lJ BK312.out) hg (Kd.R_ne HO_10.out BK312.out (by decide))); have n2_ := Aside0.mk (blk_grown (lJ BK313.out) hg (Kd.R_ne HO_10.out BK313.out (by decide))); have n3_ := Aside0.mk (blk_grown (g := gb316) (o := .cells #[.int .i64 t323, .int .i64 t324, .slice Ao64 t325.length co64, .int .i64 t328, .int .i64 t329, .int .i64 t330] 44 (0, 0)) (by (with_reducible repeat first | apply bN | apply bD | apply bA); refine blk_put (cs := #[.int .i64 t323, .int .i64 t324, .slice Ao64 t325.length co64, .int .i64 t328, .int .i64 t329, .int .i64 x317005_2]) ?_ 5 _ rfl; (with_reducible repeat first | apply bN | apply bD | apply bA); refine blk_put (cs := #[.int .i64 t323, .int .i64 t324, .slice Ao64 t325.length co64, .int .i64 t328, .int .i64 x317004_2, .int .i64 x317005_2]) ?_ 4 _ rfl; (with_reducible repeat first | apply bN | apply bD | apply bA); refine blk_put (cs := #[.int .i64 t323, .int .i64 t324, .slice Ao64 t325.length co64, .int .i64 x317003_2, .int .i64 x317004_2, .int .i64 x317005_2]) ?_ 3 _ rfl; (with_reducible repeat first | apply bN | apply bD | apply bA); refine blk_put (cs := #[.int .i64 t323, .int .i64 t324, .slice Ao57 x317002_2.length co57, .int .i64 x317003_2, .int .i64 x317004_2, .int .i64 x317005_2]) ?_ 2 _ rfl; (with_reducible repeat first | apply bN | apply bD | apply bA); refine blk_put (cs := #[.int .i64 t323, .int .i64 x317001_2, .slice Ao57 x317002_2.length co57, .int .i64 x317003_2, .int .i64 x317004_2, .int .i64 x317005_2]) ?_ 1 _ rfl; (with_reducible repeat first | apply bN | apply bD | apply bA); refine blk_put (cs := #[.int .i64 x317000_2, .int .i64 x317001_2, .slice Ao57 x317002_2.length co57, .int .i64 x317003_2, .int .i64 x317004_2, .int .i64 x317005_2]) ?_ 0 _ rfl; (with_reducible repeat first | apply bN | apply bD | apply bA); refine blk_far ?_ NB316_333.out _; (with_reducible repeat first | apply bN | apply bD | apply bA); refine blk_far ?_ NB316_333.out _; (with_reducible repeat first | apply bN | apply bD | apply bA); refine blk_far ?_ NB316_333.out _; (with_reducible repeat first | apply bN | apply bD | apply bA); refine blk_far ?_ NB316_333.out _; (with_reducible repeat first | apply bN | apply bD | apply bA); refine blk_far ?_ NB316_333.out _; (with_reducible repeat first | apply bN | apply bD | apply bA); refine blk_far ?_ NB316_333.out _; (with_reducible repeat first | apply bN | apply bD | apply bA); exact BK316.out) hg (Kd.R_ne HO_10.out BK316.out (by decide))); have n4_ := Aside0.mk (Kd.R_over' (by (with_reducible repeat (first | apply Kd.R_alloc | apply Kd.R_drewN | apply Kd.R_drew)); exact (Kd.R_mono (Kd.R_mono (Kd.R_far (p := ⟨gb316, 5, none⟩) (Kd.R_far (p := ⟨gb316, 4, none⟩) (Kd.R_far (p := ⟨gb316, 3, none⟩) (Kd.R_far (p := ⟨gb316, 2, none⟩) (Kd.R_far (p := ⟨gb316, 1, none⟩) (Kd.R_far (p := ⟨gb316, 0, none⟩) (Kd.R_far (p := ⟨gb333, 5, none⟩) (Kd.R_far (p := ⟨gb333, 4, none⟩) (Kd.R_far (p := ⟨gb333, 3, none⟩) (Kd.R_far (p := ⟨gb333, 2, none⟩) (Kd.R_far (p := ⟨gb333, 1, none⟩) (Kd.R_far (p := ⟨gb333, 0, none⟩) (Kd.R_types (Kd.R_types HO327.out BK333.out (by decide)) BK316.out (by decide)) (fun _ hk => hk.1.2) (.int .i64 t323)) (fun _ hk => hk.1.2) (.int .i64 t324)) (fun _ hk => hk.1.2) (.slice Ao64 t325.length co64)) (fun _ hk => hk.1.2) (.int .i64 t328)) (fun _ hk => hk.1.2) (.int .i64 t329)) (fun _ hk => hk.1.2) (.int .i64 t330)) (fun _ hk => hk.2) (.int .i64 t323)) (fun _ hk => hk.2) (.int .i64 t324)) (fun _ hk => hk.2) (.slice Ao64 t325.length co64)) (fun _ hk => hk.2) (.int .i64 t328)) (fun _ hk => hk.2) (.int .i64 t329)) (fun _ hk => hk.2) (.int .i64 t330)) (fun _ h_ => h_.1)) (fun _ h_ => h_.1))) (Kd.R_typed (by (with_reducible repeat (first | apply Kd.R_alloc | apply Kd.R_drewN | apply Kd.R_drew)); exact (Kd.R_mono (Kd.R_mono (Kd.R_far (p := ⟨gb316, 5, none⟩) (Kd.R_far (p := ⟨gb316, 4, none⟩) (Kd.R_far (p := ⟨gb316, 3, none⟩) (Kd.R_far (p := ⟨gb316, 2, none⟩) (Kd.R_far (p := ⟨gb316, 1, none⟩) (Kd.R_far (p := ⟨gb316, 0, none⟩) (Kd.R_far (p := ⟨gb333, 5, none⟩) (Kd.R_far (p := ⟨gb333, 4, none⟩) (Kd.R_far (p := ⟨gb333, 3, none⟩) (Kd.R_far (p := ⟨gb333, 2, none⟩) (Kd.R_far (p := ⟨gb333, 1, none⟩) (Kd.R_far (p := ⟨gb333, 0, none⟩) (Kd.R_types (Kd.R_types HO_10.out BK333.out (by decide)) BK316.out (by decide)) (fun _ hk => hk.1.2) (.int .i64 t323)) (fun _ hk => hk.1.2) (.int .i64 t324)) (fun _ hk => hk.1.2) (.slice Ao64 t325.length co64)) (fun _ hk => hk.1.2) (.int .i64 t328)) (fun _ hk => hk.1.2) (.int .i64 t329)) (fun _ hk => hk.1.2) (.int .i64 t330)) (fun _ hk => hk.2) (.int .i64 t323)) (fun _ hk => hk.2) (.int .i64 t324)) (fun _ hk => hk.2) (.slice Ao64 t325.length co64)) (fun _ hk => hk.2) (.int .i64 t328)) (fun _ hk => hk.2) (.int .i64 t329)) (fun _ hk => hk.2) (.int .i64 t330)) (fun _ h_ => h_.1)) (fun _ h_ => h_.1)))) (by decide) hg); have n5_ := Aside0.mk (blk_grown (g := gb333) (o := .cells #[.int .i64 t323, .int .i64 t324, .slice Ao64 t325.length co64, .int .i64 t328, .int .i64 t329, .int .i64 t330] 44 (0, 0)) (by (with_reducible repeat first | apply bN | apply bD | apply bA); refine blk_far ?_ NB333_316.out _; (with_reducible repeat first | apply bN | apply bD | apply bA); refine blk_far ?_ NB333_316.out _; (with_reducible repeat first | apply bN | apply bD | apply bA); refine blk_far ?_ NB333_316.out _; (with_reducible repeat first | apply bN | apply bD | apply bA); refine blk_far ?_ NB333_316.out _; (with_reducible repeat first | apply bN | apply bD | apply bA); refine blk_far ?_ NB333_316.out _; (with_reducible repeat first | apply bN | apply bD | apply bA); refine blk_far ?_ NB333_316.out _; (with_reducible repeat first | apply bN | apply bD | apply bA); refine blk_put (cs := #[.int .i64 t323, .int .i64 t324, .slice Ao64 t325.length co64, .int .i64 t328, .int .i64 t329, .int .i64 0]) ?_ 5 _ rfl; (with_reducible repeat first | apply bN | apply bD | apply bA); refine blk_put (cs := #[.int .i64 t323, .int .i64 t324, .slice Ao64 t325.length co64, .int .i64 t328, .int .i64 0, .int .i64 0]) ?_ 4 _ rfl; (with_reducible repeat first | apply bN | apply bD | apply bA); refine blk_put (cs := #[.int .i64 t323, .int .i64 t324, .slice Ao64 t325.length co64, .int .i64 0, .int .i64 0, .int .i64 0]) ?_ 3 _ rfl; (with_reducible repeat first | apply bN | apply bD | apply bA); refine blk_put (cs := #[.int .i64 t323, .int .i64 t324, .slice none 0 0, .int .i64 0, .int .i64 0, .int .i64 0]) ?_ 2 _ rfl; (with_reducible repeat first | apply bN | apply bD | apply bA); refine blk_put (cs := #[.int .i64 t323, .int .i64 0, .slice none 0 0, .int .i64 0, .int .i64 0, .int .i64 0]) ?_ 1 _ rfl; (with_reducible repeat first | apply bN | apply bD | apply bA); refine blk_put (cs := #[.int .i64 0, .int .i64 0, .slice none 0 0, .int .i64 0, .int .i64 0, .int .i64 0]) ?_ 0 _ rfl; (with_reducible repeat first | apply bN | apply bD | apply bA); exact BK333.out) hg (Kd.R_ne HO_10.out BK333.out (by decide))); have n6_ := Aside0.mk (hb); have n7_ := Aside0.mk (ho); clear HO_317002; clear BK312; clear BK313; clear BK316; clear HO327; clear BK333; clear HB; clear HO_10; have HO_317002 := n0_; have BK312 := n1_; have BK313 := n2_; have BK316 := n3_; have HO327 := n4_; have BK333 := n5_; have HB := n6_; have HO336 := n7_; clear n0_ n1_ n2_ n3_ n4_ n5_ n6_ n7_; clear ho hb hg hat))
              go_roundg kj33
              case measure => have := HJ3.out; have := HK2.out; have := HJ33.out; omega
              case rel => exact ⟨(y334), (wrap64 (x37_2 + 1)), (x314000_2), (x314001_2), (x314003_2), (x314004_2), (x314005_2), (t323), (t324), (t325), (t328), (t329), (t330), (.slice Ao64 t325.length co64), lF, H', ⟨by have := HJ3.out; have := HK2.out; have := HJ33.out; omega⟩, ⟨lR HO336.out⟩, ⟨by (with_reducible repeat (first | apply Kd.R_alloc | apply Kd.R_drewN | apply Kd.R_drew)); exact Kd.R_mono HO327.out (fun _ hk => trivial)⟩, ⟨lK BK312.out⟩, ⟨lK BK313.out⟩, ⟨lK BK316.out⟩, ⟨lB⟩⟩
             ·rw [if_neg c51] at H
              exact absurd H (by simp)
            ·replace c50 := Bool.eq_false_iff.mpr c50
             subst c50
             rw [if_neg (show ¬ (false = true) by decide)] at H
             simp only [Option.some.injEq, Prod.mk.injEq] at H
             obtain ⟨rfl, rfl, rfl, rfl, rfl, rfl, rfl, rfl⟩ := H
             have hnb67 := NB312_313.out
             have hnc67 := NB313_312.out
             have hnb68 := NB312_316.out
             have hnc68 := NB316_312.out
             obtain ⟨hcz69_0, hfz69_0, hcz69_1, hfz69_1⟩ := bk2 BK312.out
             have hnb70 := NB316_313.out
             have hnc70 := NB313_316.out
             obtain ⟨hcz71_0, hfz71_0, hcz71_1, hfz71_1, hcz71_2, hfz71_2, hcz71_3, hfz71_3, hcz71_4, hfz71_4, hcz71_5, hfz71_5⟩ := bk6 BK316.out
             obtain ⟨Ao72, co72, eo72⟩ := Kd.R_slice HO_317002.out
             subst eo72
             go_wp2_with (first | ((with_reducible refine gate_callee (f := 77) rfl ?_); refine gl_ (some 60) (Try.func77) #[.agg #[.slice A0_0 l0_0.length c0_0, .int .i64 a0_1], .agg #[.int .i64 x317000_2, .int .i64 x317001_2, .slice Ao72 x317002_2.length co72, .int .i64 x317003_2, .int .i64 x317004_2, .int .i64 x317005_2], .int .i64 (rd l2 x37_2)] ?_; (with_reducible refine (impl_callBy.calls kj33 _ _ l0_0 a0_1 x317000_2 x317001_2 _ _ x317002_2 x317003_2 x317004_2 x317005_2 (rd l2 x37_2) t323 t324 t325 t328 t329 t330 t331 false _ ?side1 ?side2 ?side3 ?side4 A49.out).mono ?_); (case side1 => exact lC (Kd.C_below HR0_0.out HB.out)); (case side2 => exact HC0_0.out); (case side3 => repeat (first | exact (Kd.R_reads' HO_317002.out).2.2 | (with_reducible refine Kd.C_alloc ?_ _) | (with_reducible refine Kd.C_drewN ?_ _) | (with_reducible refine Kd.C_drew ?_))); (case side4 => exact (Kd.R_reads' HO_317002.out).2.1); rintro e w73 ⟨v326, rfl, ho0, hb⟩; refine ⟨_, rfl, ?_⟩; have n0_ := Aside0.mk (Kd.R_below (lR HO_10.out) hb); have n1_ := Aside0.mk (Kd.R_elder' (lR HO_317002.out) (Kd.R_base ho0) hb); have n2_ := Aside0.mk (Kd.R_lower (Kd.R_new' ho0 (Kd.R_lt (lR HO_317002.out))) (below_size lB)); have n3_ := Aside0.mk (blk_below (lK BK312.out) hb); have n4_ := Aside0.mk (blk_below (lK BK313.out) hb); have n5_ := Aside0.mk (blk_below (lK BK316.out) hb); have n6_ := Aside0.mk (below_step lB hb); clear HO_10; clear HO_317002; clear BK312; clear BK313; clear BK316; clear HB; have HO_10 := n0_; have HO_317002 := n1_; have HO327 := n2_; have BK312 := n3_; have BK313 := n4_; have BK316 := n5_; have HB := n6_; clear n0_ n1_ n2_ n3_ n4_ n5_ n6_; (try clear hb); (try clear hb2); (try clear hk); (try clear hi); (try clear ho0)) | ((with_reducible refine gate_dst (N := 13) rfl ?_); (try (refine gate_guard (by rfl) ?_; dsimp only)); refine bxe 13 #[.int .i64 0, .int .i64 0, .slice none 0 0, .int .i64 0, .int .i64 0, .int .i64 0] 44 ?_; intro gb333 hg w74 hbox hb; have n0_ := Aside0.mk (Kd.R_below (lR HO_10.out) hb); have n1_ := Aside0.mk (Kd.R_below (lR HO_317002.out) hb); have n2_ := Aside0.mk (Kd.R_below (lR HO327.out) hb); have n3_ := Aside0.mk (blk_below (lK BK312.out) hb); have n4_ := Aside0.mk (blk_below (lK BK313.out) hb); have n5_ := Aside0.mk (blk_below (lK BK316.out) hb); have n6_ := Aside0.mk (below_step lB hb); have n7_ := Aside0.mk (hbox); have n8_ := lG w hg; have n9_ := lG w hg; have n10_ := Aside0.mk ((by rw [hg]; exact Nat.ne_of_lt (blk_lt (lK BK312.out)) : gb312 ≠ gb333)); have n11_ := Aside0.mk ((by rw [hg]; exact Nat.ne_of_gt (blk_lt (lK BK312.out)) : gb333 ≠ gb312)); have n12_ := Aside0.mk ((by rw [hg]; exact Nat.ne_of_lt (blk_lt (lK BK313.out)) : gb313 ≠ gb333)); have n13_ := Aside0.mk ((by rw [hg]; exact Nat.ne_of_gt (blk_lt (lK BK313.out)) : gb333 ≠ gb313)); have n14_ := Aside0.mk ((by rw [hg]; exact Nat.ne_of_lt (blk_lt (lK BK316.out)) : gb316 ≠ gb333)); have n15_ := Aside0.mk ((by rw [hg]; exact Nat.ne_of_gt (blk_lt (lK BK316.out)) : gb333 ≠ gb316)); clear HO_10; clear HO_317002; clear HO327; clear BK312; clear BK313; clear BK316; clear HB; have HO_10 := n0_; have HO_317002 := n1_; have HO327 := n2_; have BK312 := n3_; have BK313 := n4_; have BK316 := n5_; have HB := n6_; have BK333 := n7_; have GW333 := n8_; have GE333 := n9_; have NB312_333 := n10_; have NB333_312 := n11_; have NB313_333 := n12_; have NB333_313 := n13_; have NB316_333 := n14_; have NB333_316 := n15_; clear n0_ n1_ n2_ n3_ n4_ n5_ n6_ n7_ n8_ n9_ n10_ n11_ n12_ n13_ n14_ n15_; clear hb hbox hg; have hnb75 := NB333_312.out; have hnc75 := NB312_333.out; have hnb76 := NB333_313.out; have hnc76 := NB313_333.out; have hnb77 := NB333_316.out; have hnc77 := NB316_333.out; obtain ⟨hcz78_0, hfz78_0, hcz78_1, hfz78_1, hcz78_2, hfz78_2, hcz78_3, hfz78_3, hcz78_4, hfz78_4, hcz78_5, hfz78_5⟩ := bk6 BK333.out; obtain ⟨Ao79, co79, eo79⟩ := Kd.R_slice HO327.out; subst eo79; obtain ⟨hcz80_0, hfz80_0, hcz80_1, hfz80_1, hcz80_2, hfz80_2, hcz80_3, hfz80_3, hcz80_4, hfz80_4, hcz80_5, hfz80_5⟩ := bk6 BK313.out))
             refine bodyPost_ret (results_ctt rfl _ _ gb313 44 #[.int .i64 0, .int .i64 0, .slice none 0 0, .int .i64 0, .int .i64 0, .int .i64 0] (0, 0) _ rfl (by (with_reducible repeat first | apply bN | apply bD | apply bA); refine blk_put (cs := #[.int .i64 0, .int .i64 0, .slice none 0 0, .int .i64 0, .int .i64 0, .int .i64 x314005_2]) ?_ 5 _ rfl; (with_reducible repeat first | apply bN | apply bD | apply bA); refine blk_put (cs := #[.int .i64 0, .int .i64 0, .slice none 0 0, .int .i64 0, .int .i64 x314004_2, .int .i64 x314005_2]) ?_ 4 _ rfl; (with_reducible repeat first | apply bN | apply bD | apply bA); refine blk_put (cs := #[.int .i64 0, .int .i64 0, .slice none 0 0, .int .i64 x314003_2, .int .i64 x314004_2, .int .i64 x314005_2]) ?_ 3 _ rfl; (with_reducible repeat first | apply bN | apply bD | apply bA); refine blk_put (cs := #[.int .i64 0, .int .i64 0, .slice none 0 0, .int .i64 x314003_2, .int .i64 x314004_2, .int .i64 x314005_2]) ?_ 2 _ rfl; (with_reducible repeat first | apply bN | apply bD | apply bA); refine blk_put (cs := #[.int .i64 0, .int .i64 x314001_2, .slice none 0 0, .int .i64 x314003_2, .int .i64 x314004_2, .int .i64 x314005_2]) ?_ 1 _ rfl; (with_reducible repeat first | apply bN | apply bD | apply bA); refine blk_put (cs := #[.int .i64 x314000_2, .int .i64 x314001_2, .slice none 0 0, .int .i64 x314003_2, .int .i64 x314004_2, .int .i64 x314005_2]) ?_ 0 _ rfl; (with_reducible repeat first | apply bN | apply bD | apply bA); refine blk_far ?_ NB313_333.out _; (with_reducible repeat first | apply bN | apply bD | apply bA); refine blk_far ?_ NB313_333.out _; (with_reducible repeat first | apply bN | apply bD | apply bA); refine blk_far ?_ NB313_333.out _; (with_reducible repeat first | apply bN | apply bD | apply bA); refine blk_far ?_ NB313_333.out _; (with_reducible repeat first | apply bN | apply bD | apply bA); refine blk_far ?_ NB313_333.out _; (with_reducible repeat first | apply bN | apply bD | apply bA); refine blk_far ?_ NB313_333.out _; (with_reducible repeat first | apply bN | apply bD | apply bA); exact BK313.out) Try.underlying44 rfl (by kernel_rfl)) rfl ?_
             exact ⟨_, _, lE, by first | exact Kd.R_nil _ _ _ _ _ | exact Kd.N_nil _ _ _ _ _ | exact Kd.V_nil _ _ _ _ _ | exact Kd.Q_nil _ _ _ _ _ | exact Kd.S_nil _ _ _ _ _, by first | exact Kd.R_nil _ _ _ _ _ | exact Kd.N_nil _ _ _ _ _ | exact Kd.V_nil _ _ _ _ _ | exact Kd.Q_nil _ _ _ _ _ | exact Kd.S_nil _ _ _ _ _, lB⟩
        ·rw [if_neg c33] at H
         exact absurd H (by simp)
       ·rw [if_neg c32] at H
        exact absurd H (by simp)
      ·rw [if_neg c31] at H
       have c31b0 : decide (x37_2 < (l2.length : Int)) = false := decide_eq_false c31
       clear c31
       simp only [Option.some.injEq, Prod.mk.injEq] at H
       obtain ⟨rfl, rfl, rfl, rfl, rfl, rfl, rfl, rfl⟩ := H
       have hnb81 := NB316_312.out
       have hnc81 := NB312_316.out
       have hnb82 := NB316_313.out
       have hnc82 := NB313_316.out
       obtain ⟨hcz83_0, hfz83_0, hcz83_1, hfz83_1, hcz83_2, hfz83_2, hcz83_3, hfz83_3, hcz83_4, hfz83_4, hcz83_5, hfz83_5⟩ := bk6 BK316.out
       have hnb84 := NB313_312.out
       have hnc84 := NB312_313.out
       obtain ⟨hcz85_0, hfz85_0, hcz85_1, hfz85_1, hcz85_2, hfz85_2, hcz85_3, hfz85_3, hcz85_4, hfz85_4, hcz85_5, hfz85_5⟩ := bk6 BK313.out
       obtain ⟨Ao86, co86, eo86⟩ := Kd.R_slice HO_317002.out
       subst eo86
       go_wp2
       refine bodyPost_ret (results_ctt rfl _ _ gb313 44 #[.int .i64 x317000_2, .int .i64 x317001_2, .slice Ao86 x317002_2.length co86, .int .i64 x317003_2, .int .i64 x317004_2, .int .i64 x317005_2] (0, 0) _ rfl (by (with_reducible repeat first | apply bN | apply bD | apply bA); refine blk_put (cs := #[.int .i64 x317000_2, .int .i64 x317001_2, .slice Ao86 x317002_2.length co86, .int .i64 x317003_2, .int .i64 x317004_2, .int .i64 x314005_2]) ?_ 5 _ rfl; (with_reducible repeat first | apply bN | apply bD | apply bA); refine blk_put (cs := #[.int .i64 x317000_2, .int .i64 x317001_2, .slice Ao86 x317002_2.length co86, .int .i64 x317003_2, .int .i64 x314004_2, .int .i64 x314005_2]) ?_ 4 _ rfl; (with_reducible repeat first | apply bN | apply bD | apply bA); refine blk_put (cs := #[.int .i64 x317000_2, .int .i64 x317001_2, .slice Ao86 x317002_2.length co86, .int .i64 x314003_2, .int .i64 x314004_2, .int .i64 x314005_2]) ?_ 3 _ rfl; (with_reducible repeat first | apply bN | apply bD | apply bA); refine blk_put (cs := #[.int .i64 x317000_2, .int .i64 x317001_2, .slice none 0 0, .int .i64 x314003_2, .int .i64 x314004_2, .int .i64 x314005_2]) ?_ 2 _ rfl; (with_reducible repeat first | apply bN | apply bD | apply bA); refine blk_put (cs := #[.int .i64 x317000_2, .int .i64 x314001_2, .slice none 0 0, .int .i64 x314003_2, .int .i64 x314004_2, .int .i64 x314005_2]) ?_ 1 _ rfl; (with_reducible repeat first | apply bN | apply bD | apply bA); refine blk_put (cs := #[.int .i64 x314000_2, .int .i64 x314001_2, .slice none 0 0, .int .i64 x314003_2, .int .i64 x314004_2, .int .i64 x314005_2]) ?_ 0 _ rfl; (with_reducible repeat first | apply bN | apply bD | apply bA); exact BK313.out) Try.underlying44 rfl (by kernel_rfl)) rfl ?_
       exact ⟨_, _, lE, by (with_reducible repeat (first | apply Kd.R_alloc | apply Kd.R_drewN | apply Kd.R_drew)); exact Kd.R_mono (Kd.R_far (p := ⟨gb313, 5, none⟩) (Kd.R_far (p := ⟨gb313, 4, none⟩) (Kd.R_far (p := ⟨gb313, 3, none⟩) (Kd.R_far (p := ⟨gb313, 2, none⟩) (Kd.R_far (p := ⟨gb313, 1, none⟩) (Kd.R_far (p := ⟨gb313, 0, none⟩) (Kd.R_types HO_317002.out BK313.out (by decide)) (fun _ hk => hk.2) (.int .i64 x317000_2)) (fun _ hk => hk.2) (.int .i64 x317001_2)) (fun _ hk => hk.2) (.slice Ao86 x317002_2.length co86)) (fun _ hk => hk.2) (.int .i64 x317003_2)) (fun _ hk => hk.2) (.int .i64 x317004_2)) (fun _ hk => hk.2) (.int .i64 x317005_2)) (fun _ hk => trivial), by (with_reducible repeat (first | apply Kd.R_alloc | apply Kd.R_drewN | apply Kd.R_drew)); exact Kd.R_mono (Kd.R_far (p := ⟨gb313, 5, none⟩) (Kd.R_far (p := ⟨gb313, 4, none⟩) (Kd.R_far (p := ⟨gb313, 3, none⟩) (Kd.R_far (p := ⟨gb313, 2, none⟩) (Kd.R_far (p := ⟨gb313, 1, none⟩) (Kd.R_far (p := ⟨gb313, 0, none⟩) (Kd.R_types HO_10.out BK313.out (by decide)) (fun _ hk => hk.2) (.int .i64 x317000_2)) (fun _ hk => hk.2) (.int .i64 x317001_2)) (fun _ hk => hk.2) (.slice Ao86 x317002_2.length co86)) (fun _ hk => hk.2) (.int .i64 x317003_2)) (fun _ hk => hk.2) (.int .i64 x317004_2)) (fun _ hk => hk.2) (.int .i64 x317005_2)) (fun _ hk => trivial), lB⟩

/-! ### laws_heldIntS: function 48 -/
def laws_heldIntS.l0 : Nat → List Int → Int → Int → Option (Int)
 | 0, _, _, _ => none
 | k + 1, x0, x1, x5 => if x5 < (x0.length : Int) then (if 0 ≤ x5 then (if (rd x0 x5) = x1 then (laws_heldIntS.l0 k x0 (wrap64 (x1 + 1)) (wrap64 (x5 + 1))) else (some (-1))) else (none)) else (some x1)
def laws_heldIntS.f (k : Nat) (l0 : List Int) (a1 : Int) : Option (Int) := laws_heldIntS.l0 k l0 a1 0
theorem laws_heldIntS.mono_l : ∀ k, (∀ y0 y1 y2, LeO (laws_heldIntS.l0 k y0 y1 y2) (laws_heldIntS.l0 (k + 1) y0 y1 y2))
 | 0 => fun _ _ _ r h => by simp [laws_heldIntS.l0] at h
 | k + 1 => by
  have ih0 := laws_heldIntS.mono_l k
  ·intro y0 y1 y2
   unfold laws_heldIntS.l0
   repeat' first
   | with_reducible apply ih0
   | (with_reducible exact LeO.refl _)
   | (with_reducible exact LeO.none _)
   | (with_reducible refine LeO.ite ?_ ?_)
   | (with_reducible refine LeO.bind ?_ (fun _ => ?_))
   | apply ih0
   | exact LeO.none _
   | refine LeO.ite ?_ ?_
   | refine LeO.bind ?_ (fun _ => ?_)
theorem laws_heldIntS.mono : ∀ a0 a1 k, LeO (laws_heldIntS.f k a0 a1) (laws_heldIntS.f (k + 1) a0 a1) := by
 intro a0 a1 k
 have ih0 := laws_heldIntS.mono_l k
 unfold laws_heldIntS.f
 repeat' first
   | with_reducible apply ih0
   | (with_reducible exact LeO.refl _)
   | (with_reducible exact LeO.none _)
   | (with_reducible refine LeO.ite ?_ ?_)
   | (with_reducible refine LeO.bind ?_ (fun _ => ?_))
   | apply ih0
   | exact LeO.none _
   | refine LeO.ite ?_ ?_
   | refine LeO.bind ?_ (fun _ => ?_)
set_option maxHeartbeats 8000000 in
set_option maxRecDepth 100000 in
theorem laws_heldIntS.calls (k : Nat) (A0 : Option Addr) (c0 : Nat) (l0 : List Int) (a1 : Int) (r : Int) (w : World) (hr0 : Kd.C (Kd.int .i64) w A0 l0.length l0) (hc0 : l0.length ≤ c0) (h : laws_heldIntS.f k l0 a1 = some r) :
  Calls Try.prog 48 #[.slice A0 l0.length c0, .int .i64 a1] w fun e w' => e = .returned (.int .i64 r) ∧ Drawn0 w w' := by
 have HR0 := Aside0.mk hr0
 have HC0 := Aside0.mk hc0
 clear hr0 hc0
 have H : (laws_heldIntS.l0 k l0 a1 0) = some r := h
 clear h
 have H' := Aside0.mk H
 clear H
 go_enter Try.func48, Try.ntmps48
 go_wp2
 go_loopg [1, 5] k (fun kq v1 v5 w' => ∃ (x1_1 : Int) (x5_1 : Int), v1 = .int .i64 x1_1 ∧ v5 = .int .i64 x5_1 ∧ Aside0 (laws_heldIntS.l0 kq l0 x1_1 x5_1 = some r) ∧ Aside0 (kq ≤ k) ∧ Drawn0 w w')
 case atStart => exact ⟨(a1), (0), lF, lF, H', ⟨Nat.le_refl _⟩, by repeat (first | exact Drawn0.refl _ | apply Drawn0.step)⟩
 case round =>
  clear H'
  try clear p2
  obtain ⟨x1_1, x5_1, rfl, rfl, HA, HK1, ⟨m1, rfl⟩⟩ := hrel
  cases gk with
  | zero => exact absurd HA.out (by simp [laws_heldIntS.l0])
  | succ k1 =>
   have H := HA.out
   clear HA
   simp only [laws_heldIntS.l0] at H
   by_cases c3 : x5_1 < (l0.length : Int)
   ·rw [if_pos c3] at H
    have c3b0 : decide (x5_1 < (l0.length : Int)) = true := decide_eq_true c3
    clear c3
    by_cases c4 : 0 ≤ x5_1
    ·rw [if_pos c4] at H
     have c4b0 : decide (0 ≤ x5_1) = true := decide_eq_true c4
     clear c4
     by_cases c5 : (rd l0 x5_1) = x1_1
     ·rw [if_pos c5] at H
      have c5b0 : ((rd l0 x5_1) == x1_1) = true := beq_iff_eq.mpr c5
      have c5b1 : ((rd l0 x5_1) != x1_1) = false := bne_eq_false_iff_eq.mpr c5
      clear c5
      have H' := Aside0.mk H
      clear H
      have p337 : 0 ≤ (x5_1 : Int) := lD
      have q337 : x5_1 < (l0.length : Int) := lD
      obtain ⟨ad337, e337, hx337_0⟩ := Kd.at_int HR0.out x5_1 p337 q337
      cases e337
      replace p337 := eq_true p337
      replace q337 := eq_true q337
      go_wp2
      go_roundg k1
      case measure => have := HK1.out; omega
      case rel => exact ⟨(wrap64 (x1_1 + 1)), (wrap64 (x5_1 + 1)), lF, lF, H', ⟨by have := HK1.out; omega⟩, by repeat (first | exact Drawn0.refl _ | apply Drawn0.step)⟩
     ·rw [if_neg c5] at H
      have c5b0 : ((rd l0 x5_1) == x1_1) = false := beq_eq_false_iff_ne.mpr c5
      have c5b1 : ((rd l0 x5_1) != x1_1) = true := bne_iff_ne.mpr c5
      obtain rfl := Option.some.inj H
      have p337 : 0 ≤ (x5_1 : Int) := lD
      have q337 : x5_1 < (l0.length : Int) := lD
      obtain ⟨ad337, e337, hx337_0⟩ := Kd.at_int HR0.out x5_1 p337 q337
      cases e337
      replace p337 := eq_true p337
      replace q337 := eq_true q337
      first | (go_wp2; go_ret; exact ⟨by first | rfl | (simp; done) | (simp [*]; done), by repeat (first | exact Drawn0.refl _ | apply Drawn0.step)⟩) | (exfalso; simp only [decide_eq_false_iff_not, decide_eq_true_eq] at *; omega)
    ·rw [if_neg c4] at H
     exact absurd H (by simp)
   ·rw [if_neg c3] at H
    have c3b0 : decide (x5_1 < (l0.length : Int)) = false := decide_eq_false c3
    clear c3
    obtain rfl := Option.some.inj H
    first | (go_wp2; go_ret; exact ⟨by first | rfl | (simp; done) | (simp [*]; done), by repeat (first | exact Drawn0.refl _ | apply Drawn0.step)⟩) | (exfalso; simp only [decide_eq_false_iff_not, decide_eq_true_eq] at *; omega)

-- NOT PRINTED: function 11 (laws_FnExactPlayCalls)

end Go.Proofs.Ytjmgleomljfieaa.Q
