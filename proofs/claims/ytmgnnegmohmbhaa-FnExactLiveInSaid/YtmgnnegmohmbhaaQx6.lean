-- Written by the program wip/tools/pr.py of this claim's session, over the kit's print.py.
import Derived.Test.YtmgnnegmohmbhaaQx0
import Derived.Test.YtmgnnegmohmbhaaQx5
namespace Go.Proofs.Ytmgnnegmohmbhaa.Q
open Go.RowKit Go.Proofs.YtmgnnegmohmbhaaW.PrintWords Go.Proofs.YtmgnnegmohmbhaaW.PrintLast Go.Proofs.YtmgnnegmohmbhaaW.PrintMore
attribute [local go_sem] max2_int min2_int max_two min_two max_three min_three max_four min_four   -- for this text's walks alone
set_option linter.unusedVariables false
set_option linter.unusedSimpArgs false

/-! ### impl_isMarker: function 35 -/
mutual
def impl_isMarker.j0 : Nat → Bool → List (S44) → List Int → Bool → Option (Bool)
 | 0, _, _, _, _ => none
 | k + 1, x17, x235000, x235001, x235002 => if x17 = true then (some false) else (impl_isMarker.l0 k x235000 (x235000.length : Int) 0 x235000 x235001 x235002)
def impl_isMarker.l0 : Nat → List (S44) → Int → Int → List (S44) → List Int → Bool → Option (Bool)
 | 0, _, _, _, _, _, _ => none
 | k + 1, x19, x20, x21, x235000, x235001, x235002 => if x21 < x20 then (if 0 ≤ x21 then (if x21 < (x19.length : Int) then (if (((rd_T44 x19 x21).f0).length : Int) = 2 then ((impl_in.f ((rd_T44 x19 x21).f1) 0 2).bind fun t239 => (if t239 = true then (if ((rd_T44 x19 x21).f1) = 0 then (impl_isMarker.j2 k x19 x20 x21 false x235000 x235001 x235002 ((rd_T44 x19 x21).f0) ((rd_T44 x19 x21).f1) ((rd_T44 x19 x21).f2)) else (if (rd_T44 x19 x21).f2 = true then (impl_isMarker.j2 k x19 x20 x21 true x235000 x235001 x235002 ((rd_T44 x19 x21).f0) ((rd_T44 x19 x21).f1) ((rd_T44 x19 x21).f2)) else (impl_isMarker.j2 k x19 x20 x21 (!x235002) x235000 x235001 x235002 ((rd_T44 x19 x21).f0) ((rd_T44 x19 x21).f1) ((rd_T44 x19 x21).f2)))) else (impl_isMarker.j2 k x19 x20 x21 true x235000 x235001 x235002 ((rd_T44 x19 x21).f0) ((rd_T44 x19 x21).f1) ((rd_T44 x19 x21).f2)))) else (impl_isMarker.j2 k x19 x20 x21 true x235000 x235001 x235002 ((rd_T44 x19 x21).f0) ((rd_T44 x19 x21).f1) ((rd_T44 x19 x21).f2))) else (none)) else (none)) else ((slices_ContainsFunc_int_int_45.f x235001 x235000 x235001 x235002).bind fun t236 => (some (!t236)))
def impl_isMarker.j2 : Nat → List (S44) → Int → Int → Bool → List (S44) → List Int → Bool → List Int → Int → Bool → Option (Bool)
 | 0, _, _, _, _, _, _, _, _, _, _ => none
 | k + 1, x19, x20, x21, x48, x235000, x235001, x235002, x239000, x239001, x239002 => if x48 = true then (some false) else (impl_isMarker.l1 k x19 x20 x21 x239000 (x239000.length : Int) 0 x235000 x235001 x235002 x239000 x239001 x239002)
def impl_isMarker.l1 : Nat → List (S44) → Int → Int → List Int → Int → Int → List (S44) → List Int → Bool → List Int → Int → Bool → Option (Bool)
 | 0, _, _, _, _, _, _, _, _, _, _, _, _ => none
 | k + 1, x19, x20, x21, x50, x51, x52, x235000, x235001, x235002, x239000, x239001, x239002 => if x52 < x51 then (if 0 ≤ x52 then (if x52 < (x50.length : Int) then ((impl_Marker_isTaken.f x235000 x235001 x235002 (rd x50 x52)).bind fun t241 => (if t241 = true then (if x239002 = true then (if (rd x50 x52) = (-1) then (if x235002 = true then (if x239001 = 2 then (if (rd x50 x52) ≥ 0 then (if 0 ≤ (rd x50 x52) then (if (rd x50 x52) < (x235000.length : Int) then (if ((rd_T44 x235000 (rd x50 x52)).f1) = 0 then (some false) else (impl_isMarker.l1 k x19 x20 x21 x50 x51 (wrap64 (x52 + 1)) x235000 x235001 x235002 x239000 x239001 x239002)) else (none)) else (none)) else (impl_isMarker.l1 k x19 x20 x21 x50 x51 (wrap64 (x52 + 1)) x235000 x235001 x235002 x239000 x239001 x239002)) else (impl_isMarker.l1 k x19 x20 x21 x50 x51 (wrap64 (x52 + 1)) x235000 x235001 x235002 x239000 x239001 x239002)) else (impl_isMarker.l1 k x19 x20 x21 x50 x51 (wrap64 (x52 + 1)) x235000 x235001 x235002 x239000 x239001 x239002)) else (some false)) else (if x235002 = true then (if x239001 = 2 then (if (rd x50 x52) ≥ 0 then (if 0 ≤ (rd x50 x52) then (if (rd x50 x52) < (x235000.length : Int) then (if ((rd_T44 x235000 (rd x50 x52)).f1) = 0 then (some false) else (impl_isMarker.l1 k x19 x20 x21 x50 x51 (wrap64 (x52 + 1)) x235000 x235001 x235002 x239000 x239001 x239002)) else (none)) else (none)) else (impl_isMarker.l1 k x19 x20 x21 x50 x51 (wrap64 (x52 + 1)) x235000 x235001 x235002 x239000 x239001 x239002)) else (impl_isMarker.l1 k x19 x20 x21 x50 x51 (wrap64 (x52 + 1)) x235000 x235001 x235002 x239000 x239001 x239002)) else (impl_isMarker.l1 k x19 x20 x21 x50 x51 (wrap64 (x52 + 1)) x235000 x235001 x235002 x239000 x239001 x239002))) else (some false))) else (none)) else (none)) else (impl_isMarker.l0 k x19 x20 (wrap64 (x21 + 1)) x235000 x235001 x235002)
end
def impl_isMarker.f (k : Nat) (l0_0 : List (S44)) (l0_1 : List Int) (a0_2 : Bool) : Option (Bool) := (impl_in.f (l0_0.length : Int) 2 10).bind fun t235 => (if t235 = true then (impl_isMarker.j0 k ((l0_1.length : Int) != 2) l0_0 l0_1 a0_2) else (impl_isMarker.j0 k true l0_0 l0_1 a0_2))
theorem impl_isMarker.mono_l : ∀ k, (∀ y0 y1 y2 y3, LeO (impl_isMarker.j0 k y0 y1 y2 y3) (impl_isMarker.j0 (k + 1) y0 y1 y2 y3)) ∧ (∀ y0 y1 y2 y3 y4 y5, LeO (impl_isMarker.l0 k y0 y1 y2 y3 y4 y5) (impl_isMarker.l0 (k + 1) y0 y1 y2 y3 y4 y5)) ∧ (∀ y0 y1 y2 y3 y4 y5 y6 y7 y8 y9, LeO (impl_isMarker.j2 k y0 y1 y2 y3 y4 y5 y6 y7 y8 y9) (impl_isMarker.j2 (k + 1) y0 y1 y2 y3 y4 y5 y6 y7 y8 y9)) ∧ (∀ y0 y1 y2 y3 y4 y5 y6 y7 y8 y9 y10 y11, LeO (impl_isMarker.l1 k y0 y1 y2 y3 y4 y5 y6 y7 y8 y9 y10 y11) (impl_isMarker.l1 (k + 1) y0 y1 y2 y3 y4 y5 y6 y7 y8 y9 y10 y11))
 | 0 => ⟨fun _ _ _ _ r h => by simp [impl_isMarker.j0] at h, fun _ _ _ _ _ _ r h => by simp [impl_isMarker.l0] at h, fun _ _ _ _ _ _ _ _ _ _ r h => by simp [impl_isMarker.j2] at h, fun _ _ _ _ _ _ _ _ _ _ _ _ r h => by simp [impl_isMarker.l1] at h⟩
 | k + 1 => by
  obtain ⟨ih0, ih1, ih2, ih3⟩ := impl_isMarker.mono_l k
  refine ⟨?_, ?_, ?_, ?_⟩
  ·intro y0 y1 y2 y3
   unfold impl_isMarker.j0
   repeat' first
   | with_reducible apply ih0
   | with_reducible apply ih1
   | with_reducible apply ih2
   | with_reducible apply ih3
   | (with_reducible exact LeO.refl _)
   | (with_reducible exact LeO.none _)
   | (with_reducible refine LeO.ite ?_ ?_)
   | (with_reducible refine LeO.bind ?_ (fun _ => ?_))
   | apply ih0
   | apply ih1
   | apply ih2
   | apply ih3
   | exact LeO.none _
   | refine LeO.ite ?_ ?_
   | refine LeO.bind ?_ (fun _ => ?_)
  ·intro y0 y1 y2 y3 y4 y5
   unfold impl_isMarker.l0
   repeat' first
   | with_reducible apply ih0
   | with_reducible apply ih1
   | with_reducible apply ih2
   | with_reducible apply ih3
   | (with_reducible exact LeO.refl _)
   | (with_reducible exact LeO.none _)
   | (with_reducible refine LeO.ite ?_ ?_)
   | (with_reducible refine LeO.bind ?_ (fun _ => ?_))
   | apply ih0
   | apply ih1
   | apply ih2
   | apply ih3
   | exact LeO.none _
   | refine LeO.ite ?_ ?_
   | refine LeO.bind ?_ (fun _ => ?_)
  ·intro y0 y1 y2 y3 y4 y5 y6 y7 y8 y9
   unfold impl_isMarker.j2
   repeat' first
   | with_reducible apply ih0
   | with_reducible apply ih1
   | with_reducible apply ih2
   | with_reducible apply ih3
   | (with_reducible exact LeO.refl _)
   | (with_reducible exact LeO.none _)
   | (with_reducible refine LeO.ite ?_ ?_)
   | (with_reducible refine LeO.bind ?_ (fun _ => ?_))
   | apply ih0
   | apply ih1
   | apply ih2
   | apply ih3
   | exact LeO.none _
   | refine LeO.ite ?_ ?_
   | refine LeO.bind ?_ (fun _ => ?_)
  ·intro y0 y1 y2 y3 y4 y5 y6 y7 y8 y9 y10 y11
   unfold impl_isMarker.l1
   repeat' first
   | with_reducible apply ih0
   | with_reducible apply ih1
   | with_reducible apply ih2
   | with_reducible apply ih3
   | (with_reducible exact LeO.refl _)
   | (with_reducible exact LeO.none _)
   | (with_reducible refine LeO.ite ?_ ?_)
   | (with_reducible refine LeO.bind ?_ (fun _ => ?_))
   | apply ih0
   | apply ih1
   | apply ih2
   | apply ih3
   | exact LeO.none _
   | refine LeO.ite ?_ ?_
   | refine LeO.bind ?_ (fun _ => ?_)
theorem impl_isMarker.mono : ∀ a0 a1 a2 k, LeO (impl_isMarker.f k a0 a1 a2) (impl_isMarker.f (k + 1) a0 a1 a2) := by
 intro a0 a1 a2 k
 obtain ⟨ih0, ih1, ih2, ih3⟩ := impl_isMarker.mono_l k
 unfold impl_isMarker.f
 repeat' first
   | with_reducible apply ih0
   | with_reducible apply ih1
   | with_reducible apply ih2
   | with_reducible apply ih3
   | (with_reducible exact LeO.refl _)
   | (with_reducible exact LeO.none _)
   | (with_reducible refine LeO.ite ?_ ?_)
   | (with_reducible refine LeO.bind ?_ (fun _ => ?_))
   | apply ih0
   | apply ih1
   | apply ih2
   | apply ih3
   | exact LeO.none _
   | refine LeO.ite ?_ ?_
   | refine LeO.bind ?_ (fun _ => ?_)
set_option maxHeartbeats 8000000 in
set_option maxRecDepth 100000 in
theorem impl_isMarker.calls (k : Nat) (A0_0 : Option Addr) (c0_0 : Nat) (l0_0 : List (S44)) (A0_1 : Option Addr) (c0_1 : Nat) (l0_1 : List Int) (a0_2 : Bool) (r : Bool) (w : World) (hr0_0 : Kd.C k44 w A0_0 l0_0.length l0_0) (hc0_0 : l0_0.length ≤ c0_0) (hr0_1 : Kd.C (Kd.int .i64) w A0_1 l0_1.length l0_1) (hc0_1 : l0_1.length ≤ c0_1) (h : impl_isMarker.f k l0_0 l0_1 a0_2 = some r) :
  Calls Try.prog 35 #[.agg #[.slice A0_0 l0_0.length c0_0, .slice A0_1 l0_1.length c0_1, .bool a0_2]] w fun e w' => e = .returned (.bool r) ∧ Below w.heap.size w w' := by
 have hu25 := Try.underlying25
 have hu44 := Try.underlying44
 have HR0_0 := Aside0.mk hr0_0
 have HC0_0 := Aside0.mk hc0_0
 clear hr0_0 hc0_0
 have HR0_1 := Aside0.mk hr0_1
 have HC0_1 := Aside0.mk hc0_1
 clear hr0_1 hc0_1
 have HB := Aside0.mk (Below.refl w.heap.size w)
 have H : ((impl_in.f (l0_0.length : Int) 2 10).bind fun t235 => (if t235 = true then (impl_isMarker.j0 k ((l0_1.length : Int) != 2) l0_0 l0_1 a0_2) else (impl_isMarker.j0 k true l0_0 l0_1 a0_2))) = some r := h
 clear h
 have HC2 := Aside0.mk H
 clear H
 go_enter Try.func35, Try.ntmps35
 go_upto_region 1 with (first | ((with_reducible refine gate_dst (N := 1) rfl ?_); (try (refine gate_guard (by rfl) ?_; dsimp only)); refine bxe 1 #[.slice A0_0 l0_0.length c0_0, .slice A0_1 l0_1.length c0_1, .bool a0_2] 25 ?_; intro gb234 hg w3 hbox hb; have n0_ := Aside0.mk (below_step lB hb); have n1_ := Aside0.mk (hbox); have n2_ := lG w hg; have n3_ := lG w hg; clear HB; have HB := n0_; have BK234 := n1_; have GW234 := n2_; have GE234 := n3_; clear n0_ n1_ n2_ n3_; clear hb hbox hg))
 (try simp only [Act.put, List.setIfInBounds_toArray, List.set_cons_zero, List.set_cons_succ])
 go_cut [17] (fun v17 wc => ∃ (kq : Nat) (x17_1 : Bool), v17 = .bool x17_1 ∧ Aside0 (impl_isMarker.j0 kq x17_1 l0_0 l0_1 a0_2 = some r) ∧ Aside0 (kq ≤ k) ∧ Aside0 (wc.heap[gb234]? = some (.cells #[(.slice A0_0 l0_0.length c0_0), (.slice A0_1 l0_1.length c0_1), .bool a0_2] 25 (0, 0))) ∧ Aside0 (Below w.heap.size w wc))
 case first =>
  have H := HC2.out
  clear HC2
  replace H := lO H
  obtain ⟨t235, A4, H⟩ := H
  by_cases c5 : t235 = true
  ·subst c5
   rw [if_pos rfl] at H
   have H' := Aside0.mk H
   clear H
   obtain ⟨hcz6_0, hfz6_0, hcz6_1, hfz6_1, hcz6_2, hfz6_2⟩ := bk3 BK234.out
   go_wp2_with (first | ((with_reducible refine gate_callee (f := 24) rfl ?_); refine gl_ (some 10) (Try.func24) #[.int .i64 (l0_0.length : Int), .int .i64 2, .int .i64 10] ?_; (with_reducible refine (impl_in.calls (l0_0.length : Int) 2 10 true _ A4.out).mono ?_); rintro e w' ⟨rfl, ⟨nd, rfl⟩⟩; refine ⟨_, rfl, ?_⟩))
   go_meet
   case rel => exact ⟨_, (((l0_1.length : Int) != 2)), lF, H', ⟨lN⟩, ⟨lK BK234.out⟩, ⟨lB⟩⟩
  ·replace c5 := Bool.eq_false_iff.mpr c5
   subst c5
   rw [if_neg (show ¬ (false = true) by decide)] at H
   have H' := Aside0.mk H
   clear H
   obtain ⟨hcz7_0, hfz7_0, hcz7_1, hfz7_1, hcz7_2, hfz7_2⟩ := bk3 BK234.out
   go_wp2_with (first | ((with_reducible refine gate_callee (f := 24) rfl ?_); refine gl_ (some 10) (Try.func24) #[.int .i64 (l0_0.length : Int), .int .i64 2, .int .i64 10] ?_; (with_reducible refine (impl_in.calls (l0_0.length : Int) 2 10 false _ A4.out).mono ?_); rintro e w' ⟨rfl, ⟨nd, rfl⟩⟩; refine ⟨_, rfl, ?_⟩))
   go_meet
   case rel => exact ⟨_, (true), lF, H', ⟨lN⟩, ⟨lK BK234.out⟩, ⟨lB⟩⟩
 case rest =>
  clear HC2
  try clear c2
  try clear p2
  try clear c3
  try clear c5
  try clear hcz6_0 hcz6_1 hcz6_2
  try clear hcz7_0 hcz7_1 hcz7_2
  try clear hfz6_0 hfz6_1 hfz6_2
  try clear hfz7_0 hfz7_1 hfz7_2
  obtain ⟨kq, x17_1, rfl, HA, HJ1, BK234, HB⟩ := hcut
  cases kq with
  | zero => exact absurd HA.out (by simp [impl_isMarker.j0])
  | succ kj1 =>
   have H := HA.out
   clear HA
   simp only [impl_isMarker.j0] at H
   by_cases c8 : x17_1 = true
   ·subst c8
    rw [if_pos rfl] at H
    obtain rfl := Option.some.inj H
    first | (go_wp2; go_ret; exact ⟨lE, lB⟩) | (exfalso; simp only [decide_eq_false_iff_not, decide_eq_true_eq] at *; omega)
   ·replace c8 := Bool.eq_false_iff.mpr c8
    subst c8
    rw [if_neg (show ¬ (false = true) by decide)] at H
    have H' := Aside0.mk H
    clear H
    obtain ⟨hcz9_0, hfz9_0, hcz9_1, hfz9_1, hcz9_2, hfz9_2⟩ := bk3 BK234.out
    go_wp2
    go_loopg [21] kj1 (fun kq v21 w' => ∃ (x21_2 : Int), v21 = .int .i64 x21_2 ∧ Aside0 (impl_isMarker.l0 kq l0_0 (l0_0.length : Int) x21_2 l0_0 l0_1 a0_2 = some r) ∧ Aside0 (kq ≤ kj1) ∧ Aside0 (w'.heap[gb234]? = some (.cells #[(.slice A0_0 l0_0.length c0_0), (.slice A0_1 l0_1.length c0_1), .bool a0_2] 25 (0, 0))) ∧ Aside0 (Below w.heap.size w w'))
    case atStart => exact ⟨(0), lF, H', ⟨Nat.le_refl _⟩, ⟨lK BK234.out⟩, ⟨lB⟩⟩
    case round =>
     clear H'
     try clear c2
     try clear p2
     try clear c3
     try clear c5
     try clear c8
     try clear hcz6_0 hcz6_1 hcz6_2
     try clear hcz7_0 hcz7_1 hcz7_2
     try clear hcz9_0 hcz9_1 hcz9_2
     try clear hfz6_0 hfz6_1 hfz6_2
     try clear hfz7_0 hfz7_1 hfz7_2
     try clear hfz9_0 hfz9_1 hfz9_2
     try clear p2
     obtain ⟨x21_2, rfl, HA, HK2, BK234, HB⟩ := hrel
     cases gk with
     | zero => exact absurd HA.out (by simp [impl_isMarker.l0])
     | succ k2 =>
      have H := HA.out
      clear HA
      simp only [impl_isMarker.l0] at H
      by_cases c10 : x21_2 < (l0_0.length : Int)
      ·rw [if_pos c10] at H
       have c10b0 : decide (x21_2 < (l0_0.length : Int)) = true := decide_eq_true c10
       clear c10
       by_cases c11 : 0 ≤ x21_2
       ·rw [if_pos c11] at H
        have c11b0 : decide (0 ≤ x21_2) = true := decide_eq_true c11
        clear c11
        by_cases c12 : x21_2 < (l0_0.length : Int)
        ·rw [if_pos c12] at H
         have c12b0 : decide (x21_2 < (l0_0.length : Int)) = true := decide_eq_true c12
         clear c12
         have HC13 := Aside0.mk H
         clear H
         have p237 : 0 ≤ (x21_2 : Int) := lD
         have q237 : x21_2 < (l0_0.length : Int) := lD
         obtain ⟨ad237, A237_0, c237_0, e237, hx237_0, hx237_1, hx237_2, hl237_0, hi237_0⟩ := at_T44 HR0_0.out x21_2 p237 q237
         cases e237
         replace hx237_0 := pw_cell_below HB.out hx237_0
         replace hx237_1 := pw_cell_below HB.out hx237_1
         replace hx237_2 := pw_cell_below HB.out hx237_2
         have HR237_0 := Aside0.mk hi237_0
         have HC237_0 := Aside0.mk hl237_0
         clear hi237_0 hl237_0
         replace p237 := eq_true p237
         replace q237 := eq_true q237
         go_upto_region 6 with (first | ((with_reducible refine gate_dst (N := 4) rfl ?_); (try (refine gate_guard (by rfl) ?_; dsimp only)); refine bxe 4 #[.slice none 0 0, .int .i64 0, .bool false] 44 ?_; intro gb238 hg w14 hbox hb; have n0_ := Aside0.mk (blk_below (lK BK234.out) hb); have n1_ := Aside0.mk (below_step lB hb); have n2_ := Aside0.mk (hbox); have n3_ := lG w hg; have n4_ := lG w hg; have n5_ := Aside0.mk ((by rw [hg]; exact Nat.ne_of_lt (blk_lt (lK BK234.out)) : gb234 ≠ gb238)); have n6_ := Aside0.mk ((by rw [hg]; exact Nat.ne_of_gt (blk_lt (lK BK234.out)) : gb238 ≠ gb234)); clear BK234; clear HB; have BK234 := n0_; have HB := n1_; have BK238 := n2_; have GW238 := n3_; have GE238 := n4_; have NB234_238 := n5_; have NB238_234 := n6_; clear n0_ n1_ n2_ n3_ n4_ n5_ n6_; clear hb hbox hg; have hnb15 := NB238_234.out; have hnc15 := NB234_238.out; obtain ⟨hcz16_0, hfz16_0, hcz16_1, hfz16_1, hcz16_2, hfz16_2⟩ := bk3 BK238.out))
         (try simp only [Act.put, List.setIfInBounds_toArray, List.set_cons_zero, List.set_cons_succ])
         go_cut [48] (fun v48 wc => ∃ (kq : Nat) (x48_12 : Bool), v48 = .bool x48_12 ∧ Aside0 (impl_isMarker.j2 kq l0_0 (l0_0.length : Int) x21_2 x48_12 l0_0 l0_1 a0_2 ((rd_T44 l0_0 x21_2).f0) ((rd_T44 l0_0 x21_2).f1) ((rd_T44 l0_0 x21_2).f2) = some r) ∧ Aside0 (kq ≤ k2) ∧ Aside0 (wc.heap[gb234]? = some (.cells #[(.slice (some ad237) l0_0.length c0_0), (.slice A0_1 l0_1.length c0_1), .bool a0_2] 25 (0, 0))) ∧ Aside0 (wc.heap[gb238]? = some (.cells #[(.slice A237_0 ((rd_T44 l0_0 x21_2).f0).length c237_0), .int .i64 ((rd_T44 l0_0 x21_2).f1), .bool ((rd_T44 l0_0 x21_2).f2)] 44 (0, 0))) ∧ Aside0 (Below w.heap.size w wc))
         case first =>
          have H := HC13.out
          clear HC13
          by_cases c17 : (((rd_T44 l0_0 x21_2).f0).length : Int) = 2
          ·rw [if_pos c17] at H
           have c17b0 : ((((rd_T44 l0_0 x21_2).f0).length : Int) == 2) = true := beq_iff_eq.mpr c17
           have c17b1 : ((((rd_T44 l0_0 x21_2).f0).length : Int) != 2) = false := bne_eq_false_iff_eq.mpr c17
           clear c17
           (first | rw [c17b0] | (simp only [i64_w, i32_w]; rw [c17b0]) | skip)
           replace H := lO H
           obtain ⟨t239, A18, H⟩ := H
           by_cases c19 : t239 = true
           ·subst c19
            rw [if_pos rfl] at H
            by_cases c20 : ((rd_T44 l0_0 x21_2).f1) = 0
            ·rw [if_pos c20] at H
             have c20b0 : (((rd_T44 l0_0 x21_2).f1) == 0) = true := beq_iff_eq.mpr c20
             have c20b1 : (((rd_T44 l0_0 x21_2).f1) != 0) = false := bne_eq_false_iff_eq.mpr c20
             clear c20
             have H' := Aside0.mk H
             clear H
             have hnb21 := NB238_234.out
             have hnc21 := NB234_238.out
             obtain ⟨hcz22_0, hfz22_0, hcz22_1, hfz22_1, hcz22_2, hfz22_2⟩ := bk3 BK238.out
             go_wp2_with (first | (go_at_call 24; (with_reducible refine (impl_in.calls ((rd_T44 l0_0 x21_2).f1) 0 2 true _ A18.out).mono ?_); rintro e w' ⟨rfl, ⟨nd, rfl⟩⟩))
             go_meet
             case rel => exact ⟨_, (false), lF, H', ⟨by have := HJ1.out; have := HK2.out; first | omega | exact Nat.le_refl _⟩, ⟨lJ BK234.out⟩, ⟨by (with_reducible repeat first | apply bN | apply bD | apply bA); refine blk_put (cs := #[.slice A237_0 ((rd_T44 l0_0 x21_2).f0).length c237_0, .int .i64 ((rd_T44 l0_0 x21_2).f1), .bool false]) ?_ 2 _ rfl; (with_reducible repeat first | apply bN | apply bD | apply bA); refine blk_put (cs := #[.slice A237_0 ((rd_T44 l0_0 x21_2).f0).length c237_0, .int .i64 0, .bool false]) ?_ 1 _ rfl; (with_reducible repeat first | apply bN | apply bD | apply bA); refine blk_put (cs := #[.slice none 0 0, .int .i64 0, .bool false]) ?_ 0 _ rfl; (with_reducible repeat first | apply bN | apply bD | apply bA); exact BK238.out⟩, ⟨lB⟩⟩
            ·rw [if_neg c20] at H
             have c20b0 : (((rd_T44 l0_0 x21_2).f1) == 0) = false := beq_eq_false_iff_ne.mpr c20
             have c20b1 : (((rd_T44 l0_0 x21_2).f1) != 0) = true := bne_iff_ne.mpr c20
             obtain ⟨bq23, hbq23⟩ : ∃ b_ : Bool, b_ = ((rd_T44 l0_0 x21_2).f2) := ⟨_, rfl⟩
             replace H : (if bq23 = true then (impl_isMarker.j2 k2 l0_0 (l0_0.length : Int) x21_2 true l0_0 l0_1 a0_2 ((rd_T44 l0_0 x21_2).f0) ((rd_T44 l0_0 x21_2).f1) bq23) else (impl_isMarker.j2 k2 l0_0 (l0_0.length : Int) x21_2 (!a0_2) l0_0 l0_1 a0_2 ((rd_T44 l0_0 x21_2).f0) ((rd_T44 l0_0 x21_2).f1) bq23)) = some r := by rw [← hbq23] at H; exact H
             have Nbq23 := Aside0.mk hbq23
             clear hbq23
             (try rw [← Nbq23.out])
             by_cases c24 : bq23 = true
             ·subst c24
              rw [if_pos rfl] at H
              have H' := Aside0.mk H
              clear H
              have hnb25 := NB238_234.out
              have hnc25 := NB234_238.out
              obtain ⟨hcz26_0, hfz26_0, hcz26_1, hfz26_1, hcz26_2, hfz26_2⟩ := bk3 BK238.out
              go_wp2_with (first | (go_at_call 24; (with_reducible refine (impl_in.calls ((rd_T44 l0_0 x21_2).f1) 0 2 true _ A18.out).mono ?_); rintro e w' ⟨rfl, ⟨nd, rfl⟩⟩))
              go_meet
              case rel => (try rw [← Nbq23.out]); exact ⟨_, (true), lF, H', ⟨by have := HJ1.out; have := HK2.out; first | omega | exact Nat.le_refl _⟩, ⟨lJ BK234.out⟩, ⟨by (with_reducible repeat first | apply bN | apply bD | apply bA); refine blk_put (cs := #[.slice A237_0 ((rd_T44 l0_0 x21_2).f0).length c237_0, .int .i64 ((rd_T44 l0_0 x21_2).f1), .bool false]) ?_ 2 _ rfl; (with_reducible repeat first | apply bN | apply bD | apply bA); refine blk_put (cs := #[.slice A237_0 ((rd_T44 l0_0 x21_2).f0).length c237_0, .int .i64 0, .bool false]) ?_ 1 _ rfl; (with_reducible repeat first | apply bN | apply bD | apply bA); refine blk_put (cs := #[.slice none 0 0, .int .i64 0, .bool false]) ?_ 0 _ rfl; (with_reducible repeat first | apply bN | apply bD | apply bA); exact BK238.out⟩, ⟨lB⟩⟩
             ·replace c24 := Bool.eq_false_iff.mpr c24
              subst c24
              rw [if_neg (show ¬ (false = true) by decide)] at H
              have H' := Aside0.mk H
              clear H
              have hnb27 := NB238_234.out
              have hnc27 := NB234_238.out
              obtain ⟨hcz28_0, hfz28_0, hcz28_1, hfz28_1, hcz28_2, hfz28_2⟩ := bk3 BK238.out
              go_wp2_with (first | (go_at_call 24; (with_reducible refine (impl_in.calls ((rd_T44 l0_0 x21_2).f1) 0 2 true _ A18.out).mono ?_); rintro e w' ⟨rfl, ⟨nd, rfl⟩⟩; obtain ⟨hcz29_0, hfz29_0, hcz29_1, hfz29_1, hcz29_2, hfz29_2⟩ := bk3 BK234.out))
              go_meet
              case rel => (try rw [← Nbq23.out]); exact ⟨_, (!a0_2), lF, H', ⟨by have := HJ1.out; have := HK2.out; first | omega | exact Nat.le_refl _⟩, ⟨lJ BK234.out⟩, ⟨by (with_reducible repeat first | apply bN | apply bD | apply bA); refine blk_put (cs := #[.slice A237_0 ((rd_T44 l0_0 x21_2).f0).length c237_0, .int .i64 ((rd_T44 l0_0 x21_2).f1), .bool false]) ?_ 2 _ rfl; (with_reducible repeat first | apply bN | apply bD | apply bA); refine blk_put (cs := #[.slice A237_0 ((rd_T44 l0_0 x21_2).f0).length c237_0, .int .i64 0, .bool false]) ?_ 1 _ rfl; (with_reducible repeat first | apply bN | apply bD | apply bA); refine blk_put (cs := #[.slice none 0 0, .int .i64 0, .bool false]) ?_ 0 _ rfl; (with_reducible repeat first | apply bN | apply bD | apply bA); exact BK238.out⟩, ⟨lB⟩⟩
           ·replace c19 := Bool.eq_false_iff.mpr c19
            subst c19
            rw [if_neg (show ¬ (false = true) by decide)] at H
            have H' := Aside0.mk H
            clear H
            have hnb30 := NB238_234.out
            have hnc30 := NB234_238.out
            obtain ⟨hcz31_0, hfz31_0, hcz31_1, hfz31_1, hcz31_2, hfz31_2⟩ := bk3 BK238.out
            go_wp2_with (first | (go_at_call 24; (with_reducible refine (impl_in.calls ((rd_T44 l0_0 x21_2).f1) 0 2 false _ A18.out).mono ?_); rintro e w' ⟨rfl, ⟨nd, rfl⟩⟩))
            go_meet
            case rel => exact ⟨_, (true), lF, H', ⟨by have := HJ1.out; have := HK2.out; first | omega | exact Nat.le_refl _⟩, ⟨lJ BK234.out⟩, ⟨by (with_reducible repeat first | apply bN | apply bD | apply bA); refine blk_put (cs := #[.slice A237_0 ((rd_T44 l0_0 x21_2).f0).length c237_0, .int .i64 ((rd_T44 l0_0 x21_2).f1), .bool false]) ?_ 2 _ rfl; (with_reducible repeat first | apply bN | apply bD | apply bA); refine blk_put (cs := #[.slice A237_0 ((rd_T44 l0_0 x21_2).f0).length c237_0, .int .i64 0, .bool false]) ?_ 1 _ rfl; (with_reducible repeat first | apply bN | apply bD | apply bA); refine blk_put (cs := #[.slice none 0 0, .int .i64 0, .bool false]) ?_ 0 _ rfl; (with_reducible repeat first | apply bN | apply bD | apply bA); exact BK238.out⟩, ⟨lB⟩⟩
          ·rw [if_neg c17] at H
           have c17b0 : ((((rd_T44 l0_0 x21_2).f0).length : Int) == 2) = false := beq_eq_false_iff_ne.mpr c17
           have c17b1 : ((((rd_T44 l0_0 x21_2).f0).length : Int) != 2) = true := bne_iff_ne.mpr c17
           (first | rw [c17b0] | (simp only [i64_w, i32_w]; rw [c17b0]) | skip)
           have H' := Aside0.mk H
           clear H
           have hnb32 := NB238_234.out
           have hnc32 := NB234_238.out
           obtain ⟨hcz33_0, hfz33_0, hcz33_1, hfz33_1, hcz33_2, hfz33_2⟩ := bk3 BK238.out
           go_wp2
           go_meet
           case rel => exact ⟨_, (true), lF, H', ⟨by have := HJ1.out; have := HK2.out; first | omega | exact Nat.le_refl _⟩, ⟨lJ BK234.out⟩, ⟨by (with_reducible repeat first | apply bN | apply bD | apply bA); refine blk_put (cs := #[.slice A237_0 ((rd_T44 l0_0 x21_2).f0).length c237_0, .int .i64 ((rd_T44 l0_0 x21_2).f1), .bool false]) ?_ 2 _ rfl; (with_reducible repeat first | apply bN | apply bD | apply bA); refine blk_put (cs := #[.slice A237_0 ((rd_T44 l0_0 x21_2).f0).length c237_0, .int .i64 0, .bool false]) ?_ 1 _ rfl; (with_reducible repeat first | apply bN | apply bD | apply bA); refine blk_put (cs := #[.slice none 0 0, .int .i64 0, .bool false]) ?_ 0 _ rfl; (with_reducible repeat first | apply bN | apply bD | apply bA); exact BK238.out⟩, ⟨lB⟩⟩
         case rest =>
          clear HC13
          try clear c1
          try clear c2
          try clear p2
          try clear q2
          try clear hx2
          try clear c3
          try clear c5
          try clear c8
          try clear c10
          try clear c10b0
          try clear c11
          try clear c11b0
          try clear c12
          try clear c12b0
          try clear c15
          try clear c17
          try clear c17b0
          try clear c17b1
          try clear c19
          try clear c20
          try clear c20b0
          try clear c20b1
          try clear c21
          try clear c23
          try clear p23
          try clear q23
          try clear hx23
          try clear c24
          try clear c25
          try clear c27
          try clear c30
          try clear c32
          try clear hcz16_0 hcz16_1 hcz16_2
          try clear hcz22_0 hcz22_1 hcz22_2
          try clear hcz26_0 hcz26_1 hcz26_2
          try clear hcz28_0 hcz28_1 hcz28_2
          try clear hcz29_0 hcz29_1 hcz29_2
          try clear hcz31_0 hcz31_1 hcz31_2
          try clear hcz33_0 hcz33_1 hcz33_2
          try clear hcz6_0 hcz6_1 hcz6_2
          try clear hcz7_0 hcz7_1 hcz7_2
          try clear hcz9_0 hcz9_1 hcz9_2
          try clear hfz16_0 hfz16_1 hfz16_2
          try clear hfz22_0 hfz22_1 hfz22_2
          try clear hfz26_0 hfz26_1 hfz26_2
          try clear hfz28_0 hfz28_1 hfz28_2
          try clear hfz29_0 hfz29_1 hfz29_2
          try clear hfz31_0 hfz31_1 hfz31_2
          try clear hfz33_0 hfz33_1 hfz33_2
          try clear hfz6_0 hfz6_1 hfz6_2
          try clear hfz7_0 hfz7_1 hfz7_2
          try clear hfz9_0 hfz9_1 hfz9_2
          try clear hx237_0
          try clear hx237_1
          try clear hx237_2
          try clear p2
          try clear p237
          try clear q237
          obtain ⟨kq, x48_12, rfl, HA, HJ12, BK234, BK238, HB⟩ := hcut
          cases kq with
          | zero => exact absurd HA.out (by simp [impl_isMarker.j2])
          | succ kj12 =>
           have H := HA.out
           clear HA
           simp only [impl_isMarker.j2] at H
           by_cases c34 : x48_12 = true
           ·subst c34
            rw [if_pos rfl] at H
            obtain rfl := Option.some.inj H
            first | (go_wp2; go_ret; exact ⟨lE, lB⟩) | (exfalso; simp only [decide_eq_false_iff_not, decide_eq_true_eq] at *; omega)
           ·replace c34 := Bool.eq_false_iff.mpr c34
            subst c34
            rw [if_neg (show ¬ (false = true) by decide)] at H
            have H' := Aside0.mk H
            clear H
            have hnb35 := NB238_234.out
            have hnc35 := NB234_238.out
            obtain ⟨hcz36_0, hfz36_0, hcz36_1, hfz36_1, hcz36_2, hfz36_2⟩ := bk3 BK238.out
            go_wp2
            go_loopg [52] kj12 (fun kq v52 w' => ∃ (x52_4 : Int), v52 = .int .i64 x52_4 ∧ Aside0 (impl_isMarker.l1 kq l0_0 (l0_0.length : Int) x21_2 ((rd_T44 l0_0 x21_2).f0) (((rd_T44 l0_0 x21_2).f0).length : Int) x52_4 l0_0 l0_1 a0_2 ((rd_T44 l0_0 x21_2).f0) ((rd_T44 l0_0 x21_2).f1) ((rd_T44 l0_0 x21_2).f2) = some r) ∧ Aside0 (kq ≤ kj12) ∧ Aside0 (w'.heap[gb234]? = some (.cells #[(.slice (some ad237) l0_0.length c0_0), (.slice A0_1 l0_1.length c0_1), .bool a0_2] 25 (0, 0))) ∧ Aside0 (w'.heap[gb238]? = some (.cells #[(.slice A237_0 ((rd_T44 l0_0 x21_2).f0).length c237_0), .int .i64 ((rd_T44 l0_0 x21_2).f1), .bool ((rd_T44 l0_0 x21_2).f2)] 44 (0, 0))) ∧ Aside0 (Below w.heap.size w w'))
            case atStart => exact ⟨(0), lF, H', ⟨Nat.le_refl _⟩, ⟨lK BK234.out⟩, ⟨lK BK238.out⟩, ⟨lB⟩⟩
            case round =>
             clear H'
             try clear c1
             try clear c2
             try clear p2
             try clear q2
             try clear hx2
             try clear c3
             try clear c5
             try clear c8
             try clear c10
             try clear c10b0
             try clear c11
             try clear c11b0
             try clear c12
             try clear c12b0
             try clear c15
             try clear c17
             try clear c17b0
             try clear c17b1
             try clear c19
             try clear c20
             try clear c20b0
             try clear c20b1
             try clear c21
             try clear c23
             try clear p23
             try clear q23
             try clear hx23
             try clear c24
             try clear c25
             try clear c27
             try clear c30
             try clear c32
             try clear c34
             try clear c35
             try clear hcz16_0 hcz16_1 hcz16_2
             try clear hcz22_0 hcz22_1 hcz22_2
             try clear hcz26_0 hcz26_1 hcz26_2
             try clear hcz28_0 hcz28_1 hcz28_2
             try clear hcz29_0 hcz29_1 hcz29_2
             try clear hcz31_0 hcz31_1 hcz31_2
             try clear hcz33_0 hcz33_1 hcz33_2
             try clear hcz36_0 hcz36_1 hcz36_2
             try clear hcz6_0 hcz6_1 hcz6_2
             try clear hcz7_0 hcz7_1 hcz7_2
             try clear hcz9_0 hcz9_1 hcz9_2
             try clear hfz16_0 hfz16_1 hfz16_2
             try clear hfz22_0 hfz22_1 hfz22_2
             try clear hfz26_0 hfz26_1 hfz26_2
             try clear hfz28_0 hfz28_1 hfz28_2
             try clear hfz29_0 hfz29_1 hfz29_2
             try clear hfz31_0 hfz31_1 hfz31_2
             try clear hfz33_0 hfz33_1 hfz33_2
             try clear hfz36_0 hfz36_1 hfz36_2
             try clear hfz6_0 hfz6_1 hfz6_2
             try clear hfz7_0 hfz7_1 hfz7_2
             try clear hfz9_0 hfz9_1 hfz9_2
             try clear hx237_0
             try clear hx237_1
             try clear hx237_2
             try clear p2
             try clear p23
             try clear p237
             try clear q2
             try clear q23
             try clear q237
             obtain ⟨x52_4, rfl, HA, HK4, BK234, BK238, HB⟩ := hrel
             cases gk with
             | zero => exact absurd HA.out (by simp [impl_isMarker.l1])
             | succ k4 =>
              have H := HA.out
              clear HA
              simp only [impl_isMarker.l1] at H
              by_cases c37 : x52_4 < (((rd_T44 l0_0 x21_2).f0).length : Int)
              ·rw [if_pos c37] at H
               have c37b0 : decide (x52_4 < (((rd_T44 l0_0 x21_2).f0).length : Int)) = true := decide_eq_true c37
               clear c37
               by_cases c38 : 0 ≤ x52_4
               ·rw [if_pos c38] at H
                have c38b0 : decide (0 ≤ x52_4) = true := decide_eq_true c38
                clear c38
                by_cases c39 : x52_4 < (((rd_T44 l0_0 x21_2).f0).length : Int)
                ·rw [if_pos c39] at H
                 have c39b0 : decide (x52_4 < (((rd_T44 l0_0 x21_2).f0).length : Int)) = true := decide_eq_true c39
                 clear c39
                 replace H := lO H
                 obtain ⟨t241, A40, H⟩ := H
                 by_cases c41 : t241 = true
                 ·subst c41
                  rw [if_pos rfl] at H
                  by_cases c42 : ((rd_T44 l0_0 x21_2).f2) = true
                  ·rw [if_pos c42] at H
                   have c42b0 : ((rd_T44 l0_0 x21_2).f2) = true := c42
                   clear c42
                   by_cases c43 : (rd ((rd_T44 l0_0 x21_2).f0) x52_4) = (-1)
                   ·rw [if_pos c43] at H
                    have c43b0 : ((rd ((rd_T44 l0_0 x21_2).f0) x52_4) == (-1)) = true := beq_iff_eq.mpr c43
                    have c43b1 : ((rd ((rd_T44 l0_0 x21_2).f0) x52_4) != (-1)) = false := bne_eq_false_iff_eq.mpr c43
                    clear c43
                    by_cases c44 : a0_2 = true
                    ·subst c44
                     rw [if_pos rfl] at H
                     by_cases c45 : ((rd_T44 l0_0 x21_2).f1) = 2
                     ·rw [if_pos c45] at H
                      have c45b0 : (((rd_T44 l0_0 x21_2).f1) == 2) = true := beq_iff_eq.mpr c45
                      have c45b1 : (((rd_T44 l0_0 x21_2).f1) != 2) = false := bne_eq_false_iff_eq.mpr c45
                      clear c45
                      by_cases c46 : (rd ((rd_T44 l0_0 x21_2).f0) x52_4) ≥ 0
                      ·rw [if_pos c46] at H
                       have c46b0 : decide (0 ≤ (rd ((rd_T44 l0_0 x21_2).f0) x52_4)) = true := decide_eq_true c46
                       clear c46
                       by_cases c47 : 0 ≤ (rd ((rd_T44 l0_0 x21_2).f0) x52_4)
                       ·rw [if_pos c47] at H
                        have c47b0 : decide (0 ≤ (rd ((rd_T44 l0_0 x21_2).f0) x52_4)) = true := decide_eq_true c47
                        clear c47
                        by_cases c48 : (rd ((rd_T44 l0_0 x21_2).f0) x52_4) < (l0_0.length : Int)
                        ·rw [if_pos c48] at H
                         have c48b0 : decide ((rd ((rd_T44 l0_0 x21_2).f0) x52_4) < (l0_0.length : Int)) = true := decide_eq_true c48
                         clear c48
                         by_cases c49 : ((rd_T44 l0_0 (rd ((rd_T44 l0_0 x21_2).f0) x52_4)).f1) = 0
                         ·rw [if_pos c49] at H
                          have c49b0 : (((rd_T44 l0_0 (rd ((rd_T44 l0_0 x21_2).f0) x52_4)).f1) == 0) = true := beq_iff_eq.mpr c49
                          have c49b1 : (((rd_T44 l0_0 (rd ((rd_T44 l0_0 x21_2).f0) x52_4)).f1) != 0) = false := bne_eq_false_iff_eq.mpr c49
                          clear c49
                          obtain rfl := Option.some.inj H
                          have p240 : 0 ≤ (x52_4 : Int) := lD
                          have q240 : x52_4 < (((rd_T44 l0_0 x21_2).f0).length : Int) := lD
                          obtain ⟨ad240, e240, hx240_0⟩ := Kd.at_int HR237_0.out x52_4 p240 q240
                          cases e240
                          replace hx240_0 := pw_cell_below HB.out hx240_0
                          replace p240 := eq_true p240
                          replace q240 := eq_true q240
                          go_wp2_with (first | ((with_reducible refine gate_callee (f := 43) rfl ?_); refine gl_ (some 57) (Try.func43) #[.pointer (some ⟨gb234, 0, none⟩), .int .i64 (rd ((rd_T44 l0_0 x21_2).f0) x52_4)] ?_; (with_reducible refine (impl_Marker_isTaken.calls gb234 (some ad237) c0_0 l0_0 A0_1 c0_1 l0_1 true (rd ((rd_T44 l0_0 x21_2).f0) x52_4) true _ ?side1 ?side2 ?side3 ?side4 ?side5 A40.out).mono ?_); (case side1 => exact (lK BK234.out)); (case side2 => exact lC (Kd.C_below HR0_0.out HB.out)); (case side3 => exact HC0_0.out); (case side4 => exact lC (Kd.C_below HR0_1.out HB.out)); (case side5 => exact HC0_1.out); rintro e w' ⟨rfl, ⟨nd, rfl⟩⟩; refine ⟨_, rfl, ?_⟩; have hnb50 := NB238_234.out; have hnc50 := NB234_238.out; obtain ⟨hcz51_0, hfz51_0, hcz51_1, hfz51_1, hcz51_2, hfz51_2⟩ := bk3 BK238.out; obtain ⟨hcz52_0, hfz52_0, hcz52_1, hfz52_1, hcz52_2, hfz52_2⟩ := bk3 BK234.out; have p242 : 0 ≤ ((rd ((rd_T44 l0_0 x21_2).f0) x52_4) : Int) := lD; have q242 : (rd ((rd_T44 l0_0 x21_2).f0) x52_4) < (l0_0.length : Int) := lD; obtain ⟨ad242, A242_0, c242_0, e242, hx242_0, hx242_1, hx242_2, hl242_0, hi242_0⟩ := at_T44 HR0_0.out (rd ((rd_T44 l0_0 x21_2).f0) x52_4) p242 q242; obtain rfl : ad237 = ad242 := (by injection e242); replace hx242_0 := pw_cell_below HB.out hx242_0; replace hx242_1 := pw_cell_below HB.out hx242_1; replace hx242_2 := pw_cell_below HB.out hx242_2; have HR242_0 := Aside0.mk hi242_0; have HC242_0 := Aside0.mk hl242_0; clear hi242_0 hl242_0; replace p242 := eq_true p242; replace q242 := eq_true q242))
                          go_ret
                          exact ⟨lE, lB⟩
                         ·rw [if_neg c49] at H
                          have c49b0 : (((rd_T44 l0_0 (rd ((rd_T44 l0_0 x21_2).f0) x52_4)).f1) == 0) = false := beq_eq_false_iff_ne.mpr c49
                          have c49b1 : (((rd_T44 l0_0 (rd ((rd_T44 l0_0 x21_2).f0) x52_4)).f1) != 0) = true := bne_iff_ne.mpr c49
                          have H' := Aside0.mk H
                          clear H
                          have p240 : 0 ≤ (x52_4 : Int) := lD
                          have q240 : x52_4 < (((rd_T44 l0_0 x21_2).f0).length : Int) := lD
                          obtain ⟨ad240, e240, hx240_0⟩ := Kd.at_int HR237_0.out x52_4 p240 q240
                          cases e240
                          replace hx240_0 := pw_cell_below HB.out hx240_0
                          replace p240 := eq_true p240
                          replace q240 := eq_true q240
                          go_wp2_with (first | ((with_reducible refine gate_callee (f := 43) rfl ?_); refine gl_ (some 57) (Try.func43) #[.pointer (some ⟨gb234, 0, none⟩), .int .i64 (rd ((rd_T44 l0_0 x21_2).f0) x52_4)] ?_; (with_reducible refine (impl_Marker_isTaken.calls gb234 (some ad237) c0_0 l0_0 A0_1 c0_1 l0_1 true (rd ((rd_T44 l0_0 x21_2).f0) x52_4) true _ ?side1 ?side2 ?side3 ?side4 ?side5 A40.out).mono ?_); (case side1 => exact (lK BK234.out)); (case side2 => exact lC (Kd.C_below HR0_0.out HB.out)); (case side3 => exact HC0_0.out); (case side4 => exact lC (Kd.C_below HR0_1.out HB.out)); (case side5 => exact HC0_1.out); rintro e w' ⟨rfl, ⟨nd, rfl⟩⟩; refine ⟨_, rfl, ?_⟩; have hnb53 := NB238_234.out; have hnc53 := NB234_238.out; obtain ⟨hcz54_0, hfz54_0, hcz54_1, hfz54_1, hcz54_2, hfz54_2⟩ := bk3 BK238.out; obtain ⟨hcz55_0, hfz55_0, hcz55_1, hfz55_1, hcz55_2, hfz55_2⟩ := bk3 BK234.out; have p242 : 0 ≤ ((rd ((rd_T44 l0_0 x21_2).f0) x52_4) : Int) := lD; have q242 : (rd ((rd_T44 l0_0 x21_2).f0) x52_4) < (l0_0.length : Int) := lD; obtain ⟨ad242, A242_0, c242_0, e242, hx242_0, hx242_1, hx242_2, hl242_0, hi242_0⟩ := at_T44 HR0_0.out (rd ((rd_T44 l0_0 x21_2).f0) x52_4) p242 q242; obtain rfl : ad237 = ad242 := (by injection e242); replace hx242_0 := pw_cell_below HB.out hx242_0; replace hx242_1 := pw_cell_below HB.out hx242_1; replace hx242_2 := pw_cell_below HB.out hx242_2; have HR242_0 := Aside0.mk hi242_0; have HC242_0 := Aside0.mk hl242_0; clear hi242_0 hl242_0; replace p242 := eq_true p242; replace q242 := eq_true q242))
                          go_roundg k4
                          case measure => have := HJ1.out; have := HK2.out; have := HJ12.out; have := HK4.out; omega
                          case rel => exact ⟨(wrap64 (x52_4 + 1)), lF, H', ⟨by have := HJ1.out; have := HK2.out; have := HJ12.out; have := HK4.out; omega⟩, ⟨lK BK234.out⟩, ⟨lK BK238.out⟩, ⟨lB⟩⟩
                        ·rw [if_neg c48] at H
                         exact absurd H (by simp)
                       ·rw [if_neg c47] at H
                        exact absurd H (by simp)
                      ·rw [if_neg c46] at H
                       have c46b0 : decide (0 ≤ (rd ((rd_T44 l0_0 x21_2).f0) x52_4)) = false := decide_eq_false c46
                       clear c46
                       have H' := Aside0.mk H
                       clear H
                       have p240 : 0 ≤ (x52_4 : Int) := lD
                       have q240 : x52_4 < (((rd_T44 l0_0 x21_2).f0).length : Int) := lD
                       obtain ⟨ad240, e240, hx240_0⟩ := Kd.at_int HR237_0.out x52_4 p240 q240
                       cases e240
                       replace hx240_0 := pw_cell_below HB.out hx240_0
                       replace p240 := eq_true p240
                       replace q240 := eq_true q240
                       go_wp2_with (first | ((with_reducible refine gate_callee (f := 43) rfl ?_); refine gl_ (some 57) (Try.func43) #[.pointer (some ⟨gb234, 0, none⟩), .int .i64 (rd ((rd_T44 l0_0 x21_2).f0) x52_4)] ?_; (with_reducible refine (impl_Marker_isTaken.calls gb234 (some ad237) c0_0 l0_0 A0_1 c0_1 l0_1 true (rd ((rd_T44 l0_0 x21_2).f0) x52_4) true _ ?side1 ?side2 ?side3 ?side4 ?side5 A40.out).mono ?_); (case side1 => exact (lK BK234.out)); (case side2 => exact lC (Kd.C_below HR0_0.out HB.out)); (case side3 => exact HC0_0.out); (case side4 => exact lC (Kd.C_below HR0_1.out HB.out)); (case side5 => exact HC0_1.out); rintro e w' ⟨rfl, ⟨nd, rfl⟩⟩; refine ⟨_, rfl, ?_⟩; have hnb56 := NB238_234.out; have hnc56 := NB234_238.out; obtain ⟨hcz57_0, hfz57_0, hcz57_1, hfz57_1, hcz57_2, hfz57_2⟩ := bk3 BK238.out; obtain ⟨hcz58_0, hfz58_0, hcz58_1, hfz58_1, hcz58_2, hfz58_2⟩ := bk3 BK234.out))
                       go_roundg k4
                       case measure => have := HJ1.out; have := HK2.out; have := HJ12.out; have := HK4.out; omega
                       case rel => exact ⟨(wrap64 (x52_4 + 1)), lF, H', ⟨by have := HJ1.out; have := HK2.out; have := HJ12.out; have := HK4.out; omega⟩, ⟨lK BK234.out⟩, ⟨lK BK238.out⟩, ⟨lB⟩⟩
                     ·rw [if_neg c45] at H
                      have c45b0 : (((rd_T44 l0_0 x21_2).f1) == 2) = false := beq_eq_false_iff_ne.mpr c45
                      have c45b1 : (((rd_T44 l0_0 x21_2).f1) != 2) = true := bne_iff_ne.mpr c45
                      have H' := Aside0.mk H
                      clear H
                      have p240 : 0 ≤ (x52_4 : Int) := lD
                      have q240 : x52_4 < (((rd_T44 l0_0 x21_2).f0).length : Int) := lD
                      obtain ⟨ad240, e240, hx240_0⟩ := Kd.at_int HR237_0.out x52_4 p240 q240
                      cases e240
                      replace hx240_0 := pw_cell_below HB.out hx240_0
                      replace p240 := eq_true p240
                      replace q240 := eq_true q240
                      go_wp2_with (first | ((with_reducible refine gate_callee (f := 43) rfl ?_); refine gl_ (some 57) (Try.func43) #[.pointer (some ⟨gb234, 0, none⟩), .int .i64 (rd ((rd_T44 l0_0 x21_2).f0) x52_4)] ?_; (with_reducible refine (impl_Marker_isTaken.calls gb234 (some ad237) c0_0 l0_0 A0_1 c0_1 l0_1 true (rd ((rd_T44 l0_0 x21_2).f0) x52_4) true _ ?side1 ?side2 ?side3 ?side4 ?side5 A40.out).mono ?_); (case side1 => exact (lK BK234.out)); (case side2 => exact lC (Kd.C_below HR0_0.out HB.out)); (case side3 => exact HC0_0.out); (case side4 => exact lC (Kd.C_below HR0_1.out HB.out)); (case side5 => exact HC0_1.out); rintro e w' ⟨rfl, ⟨nd, rfl⟩⟩; refine ⟨_, rfl, ?_⟩; have hnb59 := NB238_234.out; have hnc59 := NB234_238.out; obtain ⟨hcz60_0, hfz60_0, hcz60_1, hfz60_1, hcz60_2, hfz60_2⟩ := bk3 BK238.out; obtain ⟨hcz61_0, hfz61_0, hcz61_1, hfz61_1, hcz61_2, hfz61_2⟩ := bk3 BK234.out))
                      go_roundg k4
                      case measure => have := HJ1.out; have := HK2.out; have := HJ12.out; have := HK4.out; omega
                      case rel => exact ⟨(wrap64 (x52_4 + 1)), lF, H', ⟨by have := HJ1.out; have := HK2.out; have := HJ12.out; have := HK4.out; omega⟩, ⟨lK BK234.out⟩, ⟨lK BK238.out⟩, ⟨lB⟩⟩
                    ·replace c44 := Bool.eq_false_iff.mpr c44
                     subst c44
                     rw [if_neg (show ¬ (false = true) by decide)] at H
                     have H' := Aside0.mk H
                     clear H
                     have p240 : 0 ≤ (x52_4 : Int) := lD
                     have q240 : x52_4 < (((rd_T44 l0_0 x21_2).f0).length : Int) := lD
                     obtain ⟨ad240, e240, hx240_0⟩ := Kd.at_int HR237_0.out x52_4 p240 q240
                     cases e240
                     replace hx240_0 := pw_cell_below HB.out hx240_0
                     replace p240 := eq_true p240
                     replace q240 := eq_true q240
                     go_wp2_with (first | ((with_reducible refine gate_callee (f := 43) rfl ?_); refine gl_ (some 57) (Try.func43) #[.pointer (some ⟨gb234, 0, none⟩), .int .i64 (rd ((rd_T44 l0_0 x21_2).f0) x52_4)] ?_; (with_reducible refine (impl_Marker_isTaken.calls gb234 (some ad237) c0_0 l0_0 A0_1 c0_1 l0_1 false (rd ((rd_T44 l0_0 x21_2).f0) x52_4) true _ ?side1 ?side2 ?side3 ?side4 ?side5 A40.out).mono ?_); (case side1 => exact (lK BK234.out)); (case side2 => exact lC (Kd.C_below HR0_0.out HB.out)); (case side3 => exact HC0_0.out); (case side4 => exact lC (Kd.C_below HR0_1.out HB.out)); (case side5 => exact HC0_1.out); rintro e w' ⟨rfl, ⟨nd, rfl⟩⟩; refine ⟨_, rfl, ?_⟩; have hnb62 := NB238_234.out; have hnc62 := NB234_238.out; obtain ⟨hcz63_0, hfz63_0, hcz63_1, hfz63_1, hcz63_2, hfz63_2⟩ := bk3 BK238.out; obtain ⟨hcz64_0, hfz64_0, hcz64_1, hfz64_1, hcz64_2, hfz64_2⟩ := bk3 BK234.out))
                     go_roundg k4
                     case measure => have := HJ1.out; have := HK2.out; have := HJ12.out; have := HK4.out; omega
                     case rel => exact ⟨(wrap64 (x52_4 + 1)), lF, H', ⟨by have := HJ1.out; have := HK2.out; have := HJ12.out; have := HK4.out; omega⟩, ⟨lK BK234.out⟩, ⟨lK BK238.out⟩, ⟨lB⟩⟩
                   ·rw [if_neg c43] at H
                    have c43b0 : ((rd ((rd_T44 l0_0 x21_2).f0) x52_4) == (-1)) = false := beq_eq_false_iff_ne.mpr c43
                    have c43b1 : ((rd ((rd_T44 l0_0 x21_2).f0) x52_4) != (-1)) = true := bne_iff_ne.mpr c43
                    obtain rfl := Option.some.inj H
                    have p240 : 0 ≤ (x52_4 : Int) := lD
                    have q240 : x52_4 < (((rd_T44 l0_0 x21_2).f0).length : Int) := lD
                    obtain ⟨ad240, e240, hx240_0⟩ := Kd.at_int HR237_0.out x52_4 p240 q240
                    cases e240
                    replace hx240_0 := pw_cell_below HB.out hx240_0
                    replace p240 := eq_true p240
                    replace q240 := eq_true q240
                    go_wp2_with (first | ((with_reducible refine gate_callee (f := 43) rfl ?_); refine gl_ (some 57) (Try.func43) #[.pointer (some ⟨gb234, 0, none⟩), .int .i64 (rd ((rd_T44 l0_0 x21_2).f0) x52_4)] ?_; (with_reducible refine (impl_Marker_isTaken.calls gb234 (some ad237) c0_0 l0_0 A0_1 c0_1 l0_1 a0_2 (rd ((rd_T44 l0_0 x21_2).f0) x52_4) true _ ?side1 ?side2 ?side3 ?side4 ?side5 A40.out).mono ?_); (case side1 => exact (lK BK234.out)); (case side2 => exact lC (Kd.C_below HR0_0.out HB.out)); (case side3 => exact HC0_0.out); (case side4 => exact lC (Kd.C_below HR0_1.out HB.out)); (case side5 => exact HC0_1.out); rintro e w' ⟨rfl, ⟨nd, rfl⟩⟩; refine ⟨_, rfl, ?_⟩; have hnb65 := NB238_234.out; have hnc65 := NB234_238.out; obtain ⟨hcz66_0, hfz66_0, hcz66_1, hfz66_1, hcz66_2, hfz66_2⟩ := bk3 BK238.out))
                    go_ret
                    exact ⟨lE, lB⟩
                  ·rw [if_neg c42] at H
                   have c42b0 : ((rd_T44 l0_0 x21_2).f2) = false := by simpa using c42
                   clear c42
                   by_cases c67 : a0_2 = true
                   ·subst c67
                    rw [if_pos rfl] at H
                    by_cases c68 : ((rd_T44 l0_0 x21_2).f1) = 2
                    ·rw [if_pos c68] at H
                     have c68b0 : (((rd_T44 l0_0 x21_2).f1) == 2) = true := beq_iff_eq.mpr c68
                     have c68b1 : (((rd_T44 l0_0 x21_2).f1) != 2) = false := bne_eq_false_iff_eq.mpr c68
                     clear c68
                     by_cases c69 : (rd ((rd_T44 l0_0 x21_2).f0) x52_4) ≥ 0
                     ·rw [if_pos c69] at H
                      have c69b0 : decide (0 ≤ (rd ((rd_T44 l0_0 x21_2).f0) x52_4)) = true := decide_eq_true c69
                      clear c69
                      by_cases c70 : 0 ≤ (rd ((rd_T44 l0_0 x21_2).f0) x52_4)
                      ·rw [if_pos c70] at H
                       have c70b0 : decide (0 ≤ (rd ((rd_T44 l0_0 x21_2).f0) x52_4)) = true := decide_eq_true c70
                       clear c70
                       by_cases c71 : (rd ((rd_T44 l0_0 x21_2).f0) x52_4) < (l0_0.length : Int)
                       ·rw [if_pos c71] at H
                        have c71b0 : decide ((rd ((rd_T44 l0_0 x21_2).f0) x52_4) < (l0_0.length : Int)) = true := decide_eq_true c71
                        clear c71
                        by_cases c72 : ((rd_T44 l0_0 (rd ((rd_T44 l0_0 x21_2).f0) x52_4)).f1) = 0
                        ·rw [if_pos c72] at H
                         have c72b0 : (((rd_T44 l0_0 (rd ((rd_T44 l0_0 x21_2).f0) x52_4)).f1) == 0) = true := beq_iff_eq.mpr c72
                         have c72b1 : (((rd_T44 l0_0 (rd ((rd_T44 l0_0 x21_2).f0) x52_4)).f1) != 0) = false := bne_eq_false_iff_eq.mpr c72
                         clear c72
                         obtain rfl := Option.some.inj H
                         have p240 : 0 ≤ (x52_4 : Int) := lD
                         have q240 : x52_4 < (((rd_T44 l0_0 x21_2).f0).length : Int) := lD
                         obtain ⟨ad240, e240, hx240_0⟩ := Kd.at_int HR237_0.out x52_4 p240 q240
                         cases e240
                         replace hx240_0 := pw_cell_below HB.out hx240_0
                         replace p240 := eq_true p240
                         replace q240 := eq_true q240
                         go_wp2_with (first | ((with_reducible refine gate_callee (f := 43) rfl ?_); refine gl_ (some 57) (Try.func43) #[.pointer (some ⟨gb234, 0, none⟩), .int .i64 (rd ((rd_T44 l0_0 x21_2).f0) x52_4)] ?_; (with_reducible refine (impl_Marker_isTaken.calls gb234 (some ad237) c0_0 l0_0 A0_1 c0_1 l0_1 true (rd ((rd_T44 l0_0 x21_2).f0) x52_4) true _ ?side1 ?side2 ?side3 ?side4 ?side5 A40.out).mono ?_); (case side1 => exact (lK BK234.out)); (case side2 => exact lC (Kd.C_below HR0_0.out HB.out)); (case side3 => exact HC0_0.out); (case side4 => exact lC (Kd.C_below HR0_1.out HB.out)); (case side5 => exact HC0_1.out); rintro e w' ⟨rfl, ⟨nd, rfl⟩⟩; refine ⟨_, rfl, ?_⟩; have hnb73 := NB238_234.out; have hnc73 := NB234_238.out; obtain ⟨hcz74_0, hfz74_0, hcz74_1, hfz74_1, hcz74_2, hfz74_2⟩ := bk3 BK238.out; obtain ⟨hcz75_0, hfz75_0, hcz75_1, hfz75_1, hcz75_2, hfz75_2⟩ := bk3 BK234.out; have p243 : 0 ≤ ((rd ((rd_T44 l0_0 x21_2).f0) x52_4) : Int) := lD; have q243 : (rd ((rd_T44 l0_0 x21_2).f0) x52_4) < (l0_0.length : Int) := lD; obtain ⟨ad243, A243_0, c243_0, e243, hx243_0, hx243_1, hx243_2, hl243_0, hi243_0⟩ := at_T44 HR0_0.out (rd ((rd_T44 l0_0 x21_2).f0) x52_4) p243 q243; obtain rfl : ad237 = ad243 := (by injection e243); replace hx243_0 := pw_cell_below HB.out hx243_0; replace hx243_1 := pw_cell_below HB.out hx243_1; replace hx243_2 := pw_cell_below HB.out hx243_2; have HR243_0 := Aside0.mk hi243_0; have HC243_0 := Aside0.mk hl243_0; clear hi243_0 hl243_0; replace p243 := eq_true p243; replace q243 := eq_true q243))
                         go_ret
                         exact ⟨lE, lB⟩
                        ·rw [if_neg c72] at H
                         have c72b0 : (((rd_T44 l0_0 (rd ((rd_T44 l0_0 x21_2).f0) x52_4)).f1) == 0) = false := beq_eq_false_iff_ne.mpr c72
                         have c72b1 : (((rd_T44 l0_0 (rd ((rd_T44 l0_0 x21_2).f0) x52_4)).f1) != 0) = true := bne_iff_ne.mpr c72
                         have H' := Aside0.mk H
                         clear H
                         have p240 : 0 ≤ (x52_4 : Int) := lD
                         have q240 : x52_4 < (((rd_T44 l0_0 x21_2).f0).length : Int) := lD
                         obtain ⟨ad240, e240, hx240_0⟩ := Kd.at_int HR237_0.out x52_4 p240 q240
                         cases e240
                         replace hx240_0 := pw_cell_below HB.out hx240_0
                         replace p240 := eq_true p240
                         replace q240 := eq_true q240
                         go_wp2_with (first | ((with_reducible refine gate_callee (f := 43) rfl ?_); refine gl_ (some 57) (Try.func43) #[.pointer (some ⟨gb234, 0, none⟩), .int .i64 (rd ((rd_T44 l0_0 x21_2).f0) x52_4)] ?_; (with_reducible refine (impl_Marker_isTaken.calls gb234 (some ad237) c0_0 l0_0 A0_1 c0_1 l0_1 true (rd ((rd_T44 l0_0 x21_2).f0) x52_4) true _ ?side1 ?side2 ?side3 ?side4 ?side5 A40.out).mono ?_); (case side1 => exact (lK BK234.out)); (case side2 => exact lC (Kd.C_below HR0_0.out HB.out)); (case side3 => exact HC0_0.out); (case side4 => exact lC (Kd.C_below HR0_1.out HB.out)); (case side5 => exact HC0_1.out); rintro e w' ⟨rfl, ⟨nd, rfl⟩⟩; refine ⟨_, rfl, ?_⟩; have hnb76 := NB238_234.out; have hnc76 := NB234_238.out; obtain ⟨hcz77_0, hfz77_0, hcz77_1, hfz77_1, hcz77_2, hfz77_2⟩ := bk3 BK238.out; obtain ⟨hcz78_0, hfz78_0, hcz78_1, hfz78_1, hcz78_2, hfz78_2⟩ := bk3 BK234.out; have p243 : 0 ≤ ((rd ((rd_T44 l0_0 x21_2).f0) x52_4) : Int) := lD; have q243 : (rd ((rd_T44 l0_0 x21_2).f0) x52_4) < (l0_0.length : Int) := lD; obtain ⟨ad243, A243_0, c243_0, e243, hx243_0, hx243_1, hx243_2, hl243_0, hi243_0⟩ := at_T44 HR0_0.out (rd ((rd_T44 l0_0 x21_2).f0) x52_4) p243 q243; obtain rfl : ad237 = ad243 := (by injection e243); replace hx243_0 := pw_cell_below HB.out hx243_0; replace hx243_1 := pw_cell_below HB.out hx243_1; replace hx243_2 := pw_cell_below HB.out hx243_2; have HR243_0 := Aside0.mk hi243_0; have HC243_0 := Aside0.mk hl243_0; clear hi243_0 hl243_0; replace p243 := eq_true p243; replace q243 := eq_true q243))
                         go_roundg k4
                         case measure => have := HJ1.out; have := HK2.out; have := HJ12.out; have := HK4.out; omega
                         case rel => exact ⟨(wrap64 (x52_4 + 1)), lF, H', ⟨by have := HJ1.out; have := HK2.out; have := HJ12.out; have := HK4.out; omega⟩, ⟨lK BK234.out⟩, ⟨lK BK238.out⟩, ⟨lB⟩⟩
                       ·rw [if_neg c71] at H
                        exact absurd H (by simp)
                      ·rw [if_neg c70] at H
                       exact absurd H (by simp)
                     ·rw [if_neg c69] at H
                      have c69b0 : decide (0 ≤ (rd ((rd_T44 l0_0 x21_2).f0) x52_4)) = false := decide_eq_false c69
                      clear c69
                      have H' := Aside0.mk H
                      clear H
                      have p240 : 0 ≤ (x52_4 : Int) := lD
                      have q240 : x52_4 < (((rd_T44 l0_0 x21_2).f0).length : Int) := lD
                      obtain ⟨ad240, e240, hx240_0⟩ := Kd.at_int HR237_0.out x52_4 p240 q240
                      cases e240
                      replace hx240_0 := pw_cell_below HB.out hx240_0
                      replace p240 := eq_true p240
                      replace q240 := eq_true q240
                      go_wp2_with (first | ((with_reducible refine gate_callee (f := 43) rfl ?_); refine gl_ (some 57) (Try.func43) #[.pointer (some ⟨gb234, 0, none⟩), .int .i64 (rd ((rd_T44 l0_0 x21_2).f0) x52_4)] ?_; (with_reducible refine (impl_Marker_isTaken.calls gb234 (some ad237) c0_0 l0_0 A0_1 c0_1 l0_1 true (rd ((rd_T44 l0_0 x21_2).f0) x52_4) true _ ?side1 ?side2 ?side3 ?side4 ?side5 A40.out).mono ?_); (case side1 => exact (lK BK234.out)); (case side2 => exact lC (Kd.C_below HR0_0.out HB.out)); (case side3 => exact HC0_0.out); (case side4 => exact lC (Kd.C_below HR0_1.out HB.out)); (case side5 => exact HC0_1.out); rintro e w' ⟨rfl, ⟨nd, rfl⟩⟩; refine ⟨_, rfl, ?_⟩; have hnb79 := NB238_234.out; have hnc79 := NB234_238.out; obtain ⟨hcz80_0, hfz80_0, hcz80_1, hfz80_1, hcz80_2, hfz80_2⟩ := bk3 BK238.out; obtain ⟨hcz81_0, hfz81_0, hcz81_1, hfz81_1, hcz81_2, hfz81_2⟩ := bk3 BK234.out))
                      go_roundg k4
                      case measure => have := HJ1.out; have := HK2.out; have := HJ12.out; have := HK4.out; omega
                      case rel => exact ⟨(wrap64 (x52_4 + 1)), lF, H', ⟨by have := HJ1.out; have := HK2.out; have := HJ12.out; have := HK4.out; omega⟩, ⟨lK BK234.out⟩, ⟨lK BK238.out⟩, ⟨lB⟩⟩
                    ·rw [if_neg c68] at H
                     have c68b0 : (((rd_T44 l0_0 x21_2).f1) == 2) = false := beq_eq_false_iff_ne.mpr c68
                     have c68b1 : (((rd_T44 l0_0 x21_2).f1) != 2) = true := bne_iff_ne.mpr c68
                     have H' := Aside0.mk H
                     clear H
                     have p240 : 0 ≤ (x52_4 : Int) := lD
                     have q240 : x52_4 < (((rd_T44 l0_0 x21_2).f0).length : Int) := lD
                     obtain ⟨ad240, e240, hx240_0⟩ := Kd.at_int HR237_0.out x52_4 p240 q240
                     cases e240
                     replace hx240_0 := pw_cell_below HB.out hx240_0
                     replace p240 := eq_true p240
                     replace q240 := eq_true q240
                     go_wp2_with (first | ((with_reducible refine gate_callee (f := 43) rfl ?_); refine gl_ (some 57) (Try.func43) #[.pointer (some ⟨gb234, 0, none⟩), .int .i64 (rd ((rd_T44 l0_0 x21_2).f0) x52_4)] ?_; (with_reducible refine (impl_Marker_isTaken.calls gb234 (some ad237) c0_0 l0_0 A0_1 c0_1 l0_1 true (rd ((rd_T44 l0_0 x21_2).f0) x52_4) true _ ?side1 ?side2 ?side3 ?side4 ?side5 A40.out).mono ?_); (case side1 => exact (lK BK234.out)); (case side2 => exact lC (Kd.C_below HR0_0.out HB.out)); (case side3 => exact HC0_0.out); (case side4 => exact lC (Kd.C_below HR0_1.out HB.out)); (case side5 => exact HC0_1.out); rintro e w' ⟨rfl, ⟨nd, rfl⟩⟩; refine ⟨_, rfl, ?_⟩; have hnb82 := NB238_234.out; have hnc82 := NB234_238.out; obtain ⟨hcz83_0, hfz83_0, hcz83_1, hfz83_1, hcz83_2, hfz83_2⟩ := bk3 BK238.out; obtain ⟨hcz84_0, hfz84_0, hcz84_1, hfz84_1, hcz84_2, hfz84_2⟩ := bk3 BK234.out))
                     go_roundg k4
                     case measure => have := HJ1.out; have := HK2.out; have := HJ12.out; have := HK4.out; omega
                     case rel => exact ⟨(wrap64 (x52_4 + 1)), lF, H', ⟨by have := HJ1.out; have := HK2.out; have := HJ12.out; have := HK4.out; omega⟩, ⟨lK BK234.out⟩, ⟨lK BK238.out⟩, ⟨lB⟩⟩
                   ·replace c67 := Bool.eq_false_iff.mpr c67
                    subst c67
                    rw [if_neg (show ¬ (false = true) by decide)] at H
                    have H' := Aside0.mk H
                    clear H
                    have p240 : 0 ≤ (x52_4 : Int) := lD
                    have q240 : x52_4 < (((rd_T44 l0_0 x21_2).f0).length : Int) := lD
                    obtain ⟨ad240, e240, hx240_0⟩ := Kd.at_int HR237_0.out x52_4 p240 q240
                    cases e240
                    replace hx240_0 := pw_cell_below HB.out hx240_0
                    replace p240 := eq_true p240
                    replace q240 := eq_true q240
                    go_wp2_with (first | ((with_reducible refine gate_callee (f := 43) rfl ?_); refine gl_ (some 57) (Try.func43) #[.pointer (some ⟨gb234, 0, none⟩), .int .i64 (rd ((rd_T44 l0_0 x21_2).f0) x52_4)] ?_; (with_reducible refine (impl_Marker_isTaken.calls gb234 (some ad237) c0_0 l0_0 A0_1 c0_1 l0_1 false (rd ((rd_T44 l0_0 x21_2).f0) x52_4) true _ ?side1 ?side2 ?side3 ?side4 ?side5 A40.out).mono ?_); (case side1 => exact (lK BK234.out)); (case side2 => exact lC (Kd.C_below HR0_0.out HB.out)); (case side3 => exact HC0_0.out); (case side4 => exact lC (Kd.C_below HR0_1.out HB.out)); (case side5 => exact HC0_1.out); rintro e w' ⟨rfl, ⟨nd, rfl⟩⟩; refine ⟨_, rfl, ?_⟩; have hnb85 := NB238_234.out; have hnc85 := NB234_238.out; obtain ⟨hcz86_0, hfz86_0, hcz86_1, hfz86_1, hcz86_2, hfz86_2⟩ := bk3 BK238.out; obtain ⟨hcz87_0, hfz87_0, hcz87_1, hfz87_1, hcz87_2, hfz87_2⟩ := bk3 BK234.out))
                    go_roundg k4
                    case measure => have := HJ1.out; have := HK2.out; have := HJ12.out; have := HK4.out; omega
                    case rel => exact ⟨(wrap64 (x52_4 + 1)), lF, H', ⟨by have := HJ1.out; have := HK2.out; have := HJ12.out; have := HK4.out; omega⟩, ⟨lK BK234.out⟩, ⟨lK BK238.out⟩, ⟨lB⟩⟩
                 ·replace c41 := Bool.eq_false_iff.mpr c41
                  subst c41
                  rw [if_neg (show ¬ (false = true) by decide)] at H
                  obtain rfl := Option.some.inj H
                  have p240 : 0 ≤ (x52_4 : Int) := lD
                  have q240 : x52_4 < (((rd_T44 l0_0 x21_2).f0).length : Int) := lD
                  obtain ⟨ad240, e240, hx240_0⟩ := Kd.at_int HR237_0.out x52_4 p240 q240
                  cases e240
                  replace hx240_0 := pw_cell_below HB.out hx240_0
                  replace p240 := eq_true p240
                  replace q240 := eq_true q240
                  go_wp2_with (first | ((with_reducible refine gate_callee (f := 43) rfl ?_); refine gl_ (some 57) (Try.func43) #[.pointer (some ⟨gb234, 0, none⟩), .int .i64 (rd ((rd_T44 l0_0 x21_2).f0) x52_4)] ?_; (with_reducible refine (impl_Marker_isTaken.calls gb234 (some ad237) c0_0 l0_0 A0_1 c0_1 l0_1 a0_2 (rd ((rd_T44 l0_0 x21_2).f0) x52_4) false _ ?side1 ?side2 ?side3 ?side4 ?side5 A40.out).mono ?_); (case side1 => exact (lK BK234.out)); (case side2 => exact lC (Kd.C_below HR0_0.out HB.out)); (case side3 => exact HC0_0.out); (case side4 => exact lC (Kd.C_below HR0_1.out HB.out)); (case side5 => exact HC0_1.out); rintro e w' ⟨rfl, ⟨nd, rfl⟩⟩; refine ⟨_, rfl, ?_⟩))
                  go_ret
                  exact ⟨lE, lB⟩
                ·rw [if_neg c39] at H
                 exact absurd H (by simp)
               ·rw [if_neg c38] at H
                exact absurd H (by simp)
              ·rw [if_neg c37] at H
               have c37b0 : decide (x52_4 < (((rd_T44 l0_0 x21_2).f0).length : Int)) = false := decide_eq_false c37
               clear c37
               have H' := Aside0.mk H
               clear H
               go_wp2
               go_roundg k4
               case measure => have := HJ1.out; have := HK2.out; have := HJ12.out; have := HK4.out; omega
               case rel => exact ⟨(wrap64 (x21_2 + 1)), lF, H', ⟨by have := HJ1.out; have := HK2.out; have := HJ12.out; have := HK4.out; omega⟩, ⟨lK BK234.out⟩, ⟨lB⟩⟩
        ·rw [if_neg c12] at H
         exact absurd H (by simp)
       ·rw [if_neg c11] at H
        exact absurd H (by simp)
      ·rw [if_neg c10] at H
       have c10b0 : decide (x21_2 < (l0_0.length : Int)) = false := decide_eq_false c10
       clear c10
       replace H := lO H
       obtain ⟨t236, A88, H⟩ := H
       obtain rfl := Option.some.inj H
       obtain ⟨hcz89_0, hfz89_0, hcz89_1, hfz89_1, hcz89_2, hfz89_2⟩ := bk3 BK234.out
       go_wp2_with (first | ((with_reducible refine gate_callee (f := 44) rfl ?_); refine gl_ (some 94) (Try.func44) #[.slice A0_1 l0_1.length c0_1, .func (.func 45) #[] #[.pointer (some ⟨gb234, 0, none⟩)]] ?_; (with_reducible refine (slices_ContainsFunc_int_int_45.calls _ _ l0_1 gb234 A0_0 c0_0 l0_0 A0_1 c0_1 l0_1 a0_2 t236 _ ?side1 ?side2 ?side3 ?side4 ?side5 ?side6 ?side7 A88.out).mono ?_); (case side1 => exact lC (Kd.C_below HR0_1.out HB.out)); (case side2 => exact HC0_1.out); (case side3 => exact (lK BK234.out)); (case side4 => exact lC (Kd.C_below HR0_0.out HB.out)); (case side5 => exact HC0_0.out); (case side6 => exact lC (Kd.C_below HR0_1.out HB.out)); (case side7 => exact HC0_1.out); rintro e w90 ⟨rfl, hb⟩; refine ⟨_, rfl, ?_⟩; have n0_ := Aside0.mk (blk_below (lK BK234.out) hb); have n1_ := Aside0.mk (below_step lB hb); clear BK234; clear HB; have BK234 := n0_; have HB := n1_; clear n0_ n1_; (try clear hb); (try clear hb2); (try clear hk); (try clear hi)))
       go_ret
       exact ⟨lE, lB⟩

/-! ### slices_Index_int_int: function 52 -/
def slices_Index_int_int.l0 : Nat → List Int → Int → Int → Int → Option (Int)
 | 0, _, _, _, _ => none
 | k + 1, x0, x1, x7, x8 => if x8 < x7 then (if 0 ≤ x8 then (if x8 < (x0.length : Int) then (if x1 = (rd x0 x8) then (some x8) else (slices_Index_int_int.l0 k x0 x1 x7 (wrap64 (x8 + 1)))) else (none)) else (none)) else (some (-1))
def slices_Index_int_int.f (k : Nat) (l0 : List Int) (a1 : Int) : Option (Int) := slices_Index_int_int.l0 k l0 a1 (l0.length : Int) 0
theorem slices_Index_int_int.mono_l : ∀ k, (∀ y0 y1 y2 y3, LeO (slices_Index_int_int.l0 k y0 y1 y2 y3) (slices_Index_int_int.l0 (k + 1) y0 y1 y2 y3))
 | 0 => fun _ _ _ _ r h => by simp [slices_Index_int_int.l0] at h
 | k + 1 => by
  have ih0 := slices_Index_int_int.mono_l k
  ·intro y0 y1 y2 y3
   unfold slices_Index_int_int.l0
   repeat' first
   | with_reducible apply ih0
   | (with_reducible exact LeO.refl _)
   | (with_reducible exact LeO.none _)
   | (with_reducible refine LeO.ite ?_ ?_)
   | (with_reducible refine LeO.bind ?_ (fun _ => ?_))
   | apply ih0
   | exact LeO.none _
   | refine LeO.ite ?_ ?_
   | refine LeO.bind ?_ (fun _ => ?_)
theorem slices_Index_int_int.mono : ∀ a0 a1 k, LeO (slices_Index_int_int.f k a0 a1) (slices_Index_int_int.f (k + 1) a0 a1) := by
 intro a0 a1 k
 have ih0 := slices_Index_int_int.mono_l k
 unfold slices_Index_int_int.f
 repeat' first
   | with_reducible apply ih0
   | (with_reducible exact LeO.refl _)
   | (with_reducible exact LeO.none _)
   | (with_reducible refine LeO.ite ?_ ?_)
   | (with_reducible refine LeO.bind ?_ (fun _ => ?_))
   | apply ih0
   | exact LeO.none _
   | refine LeO.ite ?_ ?_
   | refine LeO.bind ?_ (fun _ => ?_)
set_option maxHeartbeats 8000000 in
set_option maxRecDepth 100000 in
theorem slices_Index_int_int.calls (k : Nat) (A0 : Option Addr) (c0 : Nat) (l0 : List Int) (a1 : Int) (r : Int) (w : World) (hr0 : Kd.C (Kd.int .i64) w A0 l0.length l0) (hc0 : l0.length ≤ c0) (h : slices_Index_int_int.f k l0 a1 = some r) :
  Calls Try.prog 52 #[.slice A0 l0.length c0, .int .i64 a1] w fun e w' => e = .returned (.int .i64 r) ∧ Drawn0 w w' := by
 have HR0 := Aside0.mk hr0
 have HC0 := Aside0.mk hc0
 clear hr0 hc0
 have H : (slices_Index_int_int.l0 k l0 a1 (l0.length : Int) 0) = some r := h
 clear h
 have H' := Aside0.mk H
 clear H
 go_enter Try.func52, Try.ntmps52
 go_wp2
 go_loopg [8] k (fun kq v8 w' => ∃ (x8_1 : Int), v8 = .int .i64 x8_1 ∧ Aside0 (slices_Index_int_int.l0 kq l0 a1 (l0.length : Int) x8_1 = some r) ∧ Aside0 (kq ≤ k) ∧ Drawn0 w w')
 case atStart => exact ⟨(0), lF, H', ⟨Nat.le_refl _⟩, by repeat (first | exact Drawn0.refl _ | apply Drawn0.step)⟩
 case round =>
  clear H'
  try clear p2
  obtain ⟨x8_1, rfl, HA, HK1, ⟨m1, rfl⟩⟩ := hrel
  cases gk with
  | zero => exact absurd HA.out (by simp [slices_Index_int_int.l0])
  | succ k1 =>
   have H := HA.out
   clear HA
   simp only [slices_Index_int_int.l0] at H
   by_cases c3 : x8_1 < (l0.length : Int)
   ·rw [if_pos c3] at H
    have c3b0 : decide (x8_1 < (l0.length : Int)) = true := decide_eq_true c3
    clear c3
    by_cases c4 : 0 ≤ x8_1
    ·rw [if_pos c4] at H
     have c4b0 : decide (0 ≤ x8_1) = true := decide_eq_true c4
     clear c4
     by_cases c5 : x8_1 < (l0.length : Int)
     ·rw [if_pos c5] at H
      have c5b0 : decide (x8_1 < (l0.length : Int)) = true := decide_eq_true c5
      clear c5
      by_cases c6 : a1 = (rd l0 x8_1)
      ·rw [if_pos c6] at H
       have c6b0 : (a1 == (rd l0 x8_1)) = true := beq_iff_eq.mpr c6
       have c6b1 : (a1 != (rd l0 x8_1)) = false := bne_eq_false_iff_eq.mpr c6
       clear c6
       obtain rfl := Option.some.inj H
       have p244 : 0 ≤ (x8_1 : Int) := lD
       have q244 : x8_1 < (l0.length : Int) := lD
       obtain ⟨ad244, e244, hx244_0⟩ := Kd.at_int HR0.out x8_1 p244 q244
       cases e244
       replace p244 := eq_true p244
       replace q244 := eq_true q244
       first | (go_wp2; go_ret; exact ⟨by first | rfl | (simp; done) | (simp [*]; done), by repeat (first | exact Drawn0.refl _ | apply Drawn0.step)⟩) | (exfalso; simp only [decide_eq_false_iff_not, decide_eq_true_eq] at *; omega)
      ·rw [if_neg c6] at H
       have c6b0 : (a1 == (rd l0 x8_1)) = false := beq_eq_false_iff_ne.mpr c6
       have c6b1 : (a1 != (rd l0 x8_1)) = true := bne_iff_ne.mpr c6
       have H' := Aside0.mk H
       clear H
       have p244 : 0 ≤ (x8_1 : Int) := lD
       have q244 : x8_1 < (l0.length : Int) := lD
       obtain ⟨ad244, e244, hx244_0⟩ := Kd.at_int HR0.out x8_1 p244 q244
       cases e244
       replace p244 := eq_true p244
       replace q244 := eq_true q244
       go_wp2
       go_roundg k1
       case measure => have := HK1.out; omega
       case rel => exact ⟨(wrap64 (x8_1 + 1)), lF, H', ⟨by have := HK1.out; omega⟩, by repeat (first | exact Drawn0.refl _ | apply Drawn0.step)⟩
     ·rw [if_neg c5] at H
      exact absurd H (by simp)
    ·rw [if_neg c4] at H
     exact absurd H (by simp)
   ·rw [if_neg c3] at H
    have c3b0 : decide (x8_1 < (l0.length : Int)) = false := decide_eq_false c3
    clear c3
    obtain rfl := Option.some.inj H
    first | (go_wp2; go_ret; exact ⟨by first | rfl | (simp; done) | (simp [*]; done), by repeat (first | exact Drawn0.refl _ | apply Drawn0.step)⟩) | (exfalso; simp only [decide_eq_false_iff_not, decide_eq_true_eq] at *; omega)

end Go.Proofs.Ytmgnnegmohmbhaa.Q
