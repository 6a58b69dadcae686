-- Written by the program wip/tools/pr.py of this claim's session, over the kit's print.py.
import Derived.Test.YtmgnnegmohmbhaaQx0
import Derived.Test.YtmgnnegmohmbhaaQx2
namespace Go.Proofs.Ytmgnnegmohmbhaa.Q
open Go.RowKit Go.Proofs.YtmgnnegmohmbhaaW.PrintWords Go.Proofs.YtmgnnegmohmbhaaW.PrintLast Go.Proofs.YtmgnnegmohmbhaaW.PrintMore
attribute [local go_sem] max2_int min2_int max_two min_two max_three min_three max_four min_four   -- for this text's walks alone
set_option linter.unusedVariables false
set_option linter.unusedSimpArgs false

/-! ### spec_GoodMarker: function 13 -/
mutual
def spec_GoodMarker.j0 : Nat → Bool → List (S44) → List Int → Bool → Option (Bool)
 | 0, _, _, _, _ => none
 | k + 1, x19, x157000, x157001, x157002 => if x19 = true then (some false) else (spec_GoodMarker.l0 k x157000 (x157000.length : Int) 0 x157000 x157001 x157002)
def spec_GoodMarker.l0 : Nat → List (S44) → Int → Int → List (S44) → List Int → Bool → Option (Bool)
 | 0, _, _, _, _, _, _ => none
 | k + 1, x21, x22, x23, x157000, x157001, x157002 => if x23 < x22 then (if 0 ≤ x23 then (if x23 < (x21.length : Int) then (if (((rd_T44 x21 x23).f0).length : Int) = 2 then ((spec_l1In.f ((rd_T44 x21 x23).f1) 0 2).bind fun t160 => (if t160 = true then (if (rd_T44 x21 x23).f2 = true then (spec_GoodMarker.j2 k x21 x22 x23 (((rd_T44 x21 x23).f1) != 0) x157000 x157001 x157002 ((rd_T44 x21 x23).f0) ((rd_T44 x21 x23).f1) ((rd_T44 x21 x23).f2)) else (if x157002 = true then (spec_GoodMarker.j2 k x21 x22 x23 false x157000 x157001 x157002 ((rd_T44 x21 x23).f0) ((rd_T44 x21 x23).f1) ((rd_T44 x21 x23).f2)) else (spec_GoodMarker.j2 k x21 x22 x23 (((rd_T44 x21 x23).f1) != 0) x157000 x157001 x157002 ((rd_T44 x21 x23).f0) ((rd_T44 x21 x23).f1) ((rd_T44 x21 x23).f2)))) else (spec_GoodMarker.j2 k x21 x22 x23 true x157000 x157001 x157002 ((rd_T44 x21 x23).f0) ((rd_T44 x21 x23).f1) ((rd_T44 x21 x23).f2)))) else (spec_GoodMarker.j2 k x21 x22 x23 true x157000 x157001 x157002 ((rd_T44 x21 x23).f0) ((rd_T44 x21 x23).f1) ((rd_T44 x21 x23).f2))) else (none)) else (none)) else (spec_GoodMarker.l2 k x157001 (x157001.length : Int) 0 x157000 x157001 x157002)
def spec_GoodMarker.j2 : Nat → List (S44) → Int → Int → Bool → List (S44) → List Int → Bool → List Int → Int → Bool → Option (Bool)
 | 0, _, _, _, _, _, _, _, _, _, _ => none
 | k + 1, x21, x22, x23, x50, x157000, x157001, x157002, x160000, x160001, x160002 => if x50 = true then (some false) else (spec_GoodMarker.l1 k x21 x22 x23 x160000 (x160000.length : Int) 0 x157000 x157001 x157002 x160000 x160001 x160002)
def spec_GoodMarker.l1 : Nat → List (S44) → Int → Int → List Int → Int → Int → List (S44) → List Int → Bool → List Int → Int → Bool → Option (Bool)
 | 0, _, _, _, _, _, _, _, _, _, _, _, _ => none
 | k + 1, x21, x22, x23, x52, x53, x54, x157000, x157001, x157002, x160000, x160001, x160002 => if x54 < x53 then (if 0 ≤ x54 then (if x54 < (x52.length : Int) then ((spec_l15Cell.f x157000 x157001 x157002 (rd x52 x54)).bind fun t162 => (if t162 = true then (if x160002 = true then (if (rd x52 x54) = (-1) then (if x160001 = 2 then ((spec_l15Color.f x157000 x157001 x157002 (rd x52 x54)).bind fun t163 => (if t163 = 0 then (some false) else (spec_GoodMarker.l1 k x21 x22 x23 x52 x53 (wrap64 (x54 + 1)) x157000 x157001 x157002 x160000 x160001 x160002))) else (spec_GoodMarker.l1 k x21 x22 x23 x52 x53 (wrap64 (x54 + 1)) x157000 x157001 x157002 x160000 x160001 x160002)) else (some false)) else (if x160001 = 2 then ((spec_l15Color.f x157000 x157001 x157002 (rd x52 x54)).bind fun t164 => (if t164 = 0 then (some false) else (spec_GoodMarker.l1 k x21 x22 x23 x52 x53 (wrap64 (x54 + 1)) x157000 x157001 x157002 x160000 x160001 x160002))) else (spec_GoodMarker.l1 k x21 x22 x23 x52 x53 (wrap64 (x54 + 1)) x157000 x157001 x157002 x160000 x160001 x160002))) else (some false))) else (none)) else (none)) else (spec_GoodMarker.l0 k x21 x22 (wrap64 (x23 + 1)) x157000 x157001 x157002)
def spec_GoodMarker.l2 : Nat → List Int → Int → Int → List (S44) → List Int → Bool → Option (Bool)
 | 0, _, _, _, _, _, _ => none
 | k + 1, x84, x85, x86, x157000, x157001, x157002 => if x86 < x85 then (if 0 ≤ x86 then (if x86 < (x84.length : Int) then ((spec_l15Cell.f x157000 x157001 x157002 (rd x84 x86)).bind fun t166 => (if t166 = true then (if x157002 = true then ((spec_l15Color.f x157000 x157001 x157002 (rd x84 x86)).bind fun t167 => (if t167 = 0 then (some false) else (spec_GoodMarker.l2 k x84 x85 (wrap64 (x86 + 1)) x157000 x157001 x157002))) else (spec_GoodMarker.l2 k x84 x85 (wrap64 (x86 + 1)) x157000 x157001 x157002)) else (some false))) else (none)) else (none)) else (some true)
end
def spec_GoodMarker.f (k : Nat) (l0_0 : List (S44)) (l0_1 : List Int) (a0_2 : Bool) : Option (Bool) := (spec_l1In.f (l0_0.length : Int) 2 10).bind fun t157 => (if t157 = true then (spec_GoodMarker.j0 k ((l0_1.length : Int) != 2) l0_0 l0_1 a0_2) else (spec_GoodMarker.j0 k true l0_0 l0_1 a0_2))
theorem spec_GoodMarker.mono_l : ∀ k, (∀ y0 y1 y2 y3, LeO (spec_GoodMarker.j0 k y0 y1 y2 y3) (spec_GoodMarker.j0 (k + 1) y0 y1 y2 y3)) ∧ (∀ y0 y1 y2 y3 y4 y5, LeO (spec_GoodMarker.l0 k y0 y1 y2 y3 y4 y5) (spec_GoodMarker.l0 (k + 1) y0 y1 y2 y3 y4 y5)) ∧ (∀ y0 y1 y2 y3 y4 y5 y6 y7 y8 y9, LeO (spec_GoodMarker.j2 k y0 y1 y2 y3 y4 y5 y6 y7 y8 y9) (spec_GoodMarker.j2 (k + 1) y0 y1 y2 y3 y4 y5 y6 y7 y8 y9)) ∧ (∀ y0 y1 y2 y3 y4 y5 y6 y7 y8 y9 y10 y11, LeO (spec_GoodMarker.l1 k y0 y1 y2 y3 y4 y5 y6 y7 y8 y9 y10 y11) (spec_GoodMarker.l1 (k + 1) y0 y1 y2 y3 y4 y5 y6 y7 y8 y9 y10 y11)) ∧ (∀ y0 y1 y2 y3 y4 y5, LeO (spec_GoodMarker.l2 k y0 y1 y2 y3 y4 y5) (spec_GoodMarker.l2 (k + 1) y0 y1 y2 y3 y4 y5))
 | 0 => ⟨fun _ _ _ _ r h => by simp [spec_GoodMarker.j0] at h, fun _ _ _ _ _ _ r h => by simp [spec_GoodMarker.l0] at h, fun _ _ _ _ _ _ _ _ _ _ r h => by simp [spec_GoodMarker.j2] at h, fun _ _ _ _ _ _ _ _ _ _ _ _ r h => by simp [spec_GoodMarker.l1] at h, fun _ _ _ _ _ _ r h => by simp [spec_GoodMarker.l2] at h⟩
 | k + 1 => by
  obtain ⟨ih0, ih1, ih2, ih3, ih4⟩ := spec_GoodMarker.mono_l k
  refine ⟨?_, ?_, ?_, ?_, ?_⟩
  ·intro y0 y1 y2 y3
   unfold spec_GoodMarker.j0
   repeat' first
   | with_reducible apply ih0
   | with_reducible apply ih1
   | with_reducible apply ih2
   | with_reducible apply ih3
   | with_reducible apply ih4
   | (with_reducible exact LeO.refl _)
   | (with_reducible exact LeO.none _)
   | (with_reducible refine LeO.ite ?_ ?_)
   | (with_reducible refine LeO.bind ?_ (fun _ => ?_))
   | apply ih0
   | apply ih1
   | apply ih2
   | apply ih3
   | apply ih4
   | exact LeO.none _
   | refine LeO.ite ?_ ?_
   | refine LeO.bind ?_ (fun _ => ?_)
  ·intro y0 y1 y2 y3 y4 y5
   unfold spec_GoodMarker.l0
   repeat' first
   | with_reducible apply ih0
   | with_reducible apply ih1
   | with_reducible apply ih2
   | with_reducible apply ih3
   | with_reducible apply ih4
   | (with_reducible exact LeO.refl _)
   | (with_reducible exact LeO.none _)
   | (with_reducible refine LeO.ite ?_ ?_)
   | (with_reducible refine LeO.bind ?_ (fun _ => ?_))
   | apply ih0
   | apply ih1
   | apply ih2
   | apply ih3
   | apply ih4
   | exact LeO.none _
   | refine LeO.ite ?_ ?_
   | refine LeO.bind ?_ (fun _ => ?_)
  ·intro y0 y1 y2 y3 y4 y5 y6 y7 y8 y9
   unfold spec_GoodMarker.j2
   repeat' first
   | with_reducible apply ih0
   | with_reducible apply ih1
   | with_reducible apply ih2
   | with_reducible apply ih3
   | with_reducible apply ih4
   | (with_reducible exact LeO.refl _)
   | (with_reducible exact LeO.none _)
   | (with_reducible refine LeO.ite ?_ ?_)
   | (with_reducible refine LeO.bind ?_ (fun _ => ?_))
   | apply ih0
   | apply ih1
   | apply ih2
   | apply ih3
   | apply ih4
   | exact LeO.none _
   | refine LeO.ite ?_ ?_
   | refine LeO.bind ?_ (fun _ => ?_)
  ·intro y0 y1 y2 y3 y4 y5 y6 y7 y8 y9 y10 y11
   unfold spec_GoodMarker.l1
   repeat' first
   | with_reducible apply ih0
   | with_reducible apply ih1
   | with_reducible apply ih2
   | with_reducible apply ih3
   | with_reducible apply ih4
   | (with_reducible exact LeO.refl _)
   | (with_reducible exact LeO.none _)
   | (with_reducible refine LeO.ite ?_ ?_)
   | (with_reducible refine LeO.bind ?_ (fun _ => ?_))
   | apply ih0
   | apply ih1
   | apply ih2
   | apply ih3
   | apply ih4
   | exact LeO.none _
   | refine LeO.ite ?_ ?_
   | refine LeO.bind ?_ (fun _ => ?_)
  ·intro y0 y1 y2 y3 y4 y5
   unfold spec_GoodMarker.l2
   repeat' first
   | with_reducible apply ih0
   | with_reducible apply ih1
   | with_reducible apply ih2
   | with_reducible apply ih3
   | with_reducible apply ih4
   | (with_reducible exact LeO.refl _)
   | (with_reducible exact LeO.none _)
   | (with_reducible refine LeO.ite ?_ ?_)
   | (with_reducible refine LeO.bind ?_ (fun _ => ?_))
   | apply ih0
   | apply ih1
   | apply ih2
   | apply ih3
   | apply ih4
   | exact LeO.none _
   | refine LeO.ite ?_ ?_
   | refine LeO.bind ?_ (fun _ => ?_)
theorem spec_GoodMarker.mono : ∀ a0 a1 a2 k, LeO (spec_GoodMarker.f k a0 a1 a2) (spec_GoodMarker.f (k + 1) a0 a1 a2) := by
 intro a0 a1 a2 k
 obtain ⟨ih0, ih1, ih2, ih3, ih4⟩ := spec_GoodMarker.mono_l k
 unfold spec_GoodMarker.f
 repeat' first
   | with_reducible apply ih0
   | with_reducible apply ih1
   | with_reducible apply ih2
   | with_reducible apply ih3
   | with_reducible apply ih4
   | (with_reducible exact LeO.refl _)
   | (with_reducible exact LeO.none _)
   | (with_reducible refine LeO.ite ?_ ?_)
   | (with_reducible refine LeO.bind ?_ (fun _ => ?_))
   | apply ih0
   | apply ih1
   | apply ih2
   | apply ih3
   | apply ih4
   | exact LeO.none _
   | refine LeO.ite ?_ ?_
   | refine LeO.bind ?_ (fun _ => ?_)
set_option maxHeartbeats 8000000 in
set_option maxRecDepth 100000 in
theorem spec_GoodMarker.calls (k : Nat) (A0_0 : Option Addr) (c0_0 : Nat) (l0_0 : List (S44)) (A0_1 : Option Addr) (c0_1 : Nat) (l0_1 : List Int) (a0_2 : Bool) (r : Bool) (w : World) (hr0_0 : Kd.C k44 w A0_0 l0_0.length l0_0) (hc0_0 : l0_0.length ≤ c0_0) (hr0_1 : Kd.C (Kd.int .i64) w A0_1 l0_1.length l0_1) (hc0_1 : l0_1.length ≤ c0_1) (h : spec_GoodMarker.f k l0_0 l0_1 a0_2 = some r) :
  Calls Try.prog 13 #[.agg #[.slice A0_0 l0_0.length c0_0, .slice A0_1 l0_1.length c0_1, .bool a0_2]] w fun e w' => e = .returned (.bool r) ∧ Below w.heap.size w w' := by
 have hu25 := Try.underlying25
 have hu44 := Try.underlying44
 have HR0_0 := Aside0.mk hr0_0
 have HC0_0 := Aside0.mk hc0_0
 clear hr0_0 hc0_0
 have HR0_1 := Aside0.mk hr0_1
 have HC0_1 := Aside0.mk hc0_1
 clear hr0_1 hc0_1
 have HB := Aside0.mk (Below.refl w.heap.size w)
 have H : ((spec_l1In.f (l0_0.length : Int) 2 10).bind fun t157 => (if t157 = true then (spec_GoodMarker.j0 k ((l0_1.length : Int) != 2) l0_0 l0_1 a0_2) else (spec_GoodMarker.j0 k true l0_0 l0_1 a0_2))) = some r := h
 clear h
 have HC2 := Aside0.mk H
 clear H
 go_enter Try.func13, Try.ntmps13
 go_upto_region 1 with (first | ((with_reducible refine gate_dst (N := 1) rfl ?_); (try (refine gate_guard (by rfl) ?_; dsimp only)); refine bxe 1 #[.slice A0_0 l0_0.length c0_0, .slice A0_1 l0_1.length c0_1, .bool a0_2] 25 ?_; intro gb156 hg w3 hbox hb; have n0_ := Aside0.mk (below_step lB hb); have n1_ := Aside0.mk (hbox); have n2_ := lG w hg; have n3_ := lG w hg; clear HB; have HB := n0_; have BK156 := n1_; have GW156 := n2_; have GE156 := n3_; clear n0_ n1_ n2_ n3_; clear hb hbox hg))
 (try simp only [Act.put, List.setIfInBounds_toArray, List.set_cons_zero, List.set_cons_succ])
 go_cut [19] (fun v19 wc => ∃ (kq : Nat) (x19_1 : Bool), v19 = .bool x19_1 ∧ Aside0 (spec_GoodMarker.j0 kq x19_1 l0_0 l0_1 a0_2 = some r) ∧ Aside0 (kq ≤ k) ∧ Aside0 (wc.heap[gb156]? = some (.cells #[(.slice A0_0 l0_0.length c0_0), (.slice A0_1 l0_1.length c0_1), .bool a0_2] 25 (0, 0))) ∧ Aside0 (Below w.heap.size w wc))
 case first =>
  have H := HC2.out
  clear HC2
  replace H := lO H
  obtain ⟨t157, A4, H⟩ := H
  by_cases c5 : t157 = true
  ·subst c5
   rw [if_pos rfl] at H
   have H' := Aside0.mk H
   clear H
   obtain ⟨hcz6_0, hfz6_0, hcz6_1, hfz6_1, hcz6_2, hfz6_2⟩ := bk3 BK156.out
   go_wp2_with (first | ((with_reducible refine gate_callee (f := 23) rfl ?_); refine gl_ (some 12) (Try.func23) #[.int .i64 (l0_0.length : Int), .int .i64 2, .int .i64 10] ?_; (with_reducible refine (spec_l1In.calls (l0_0.length : Int) 2 10 true _ A4.out).mono ?_); rintro e w' ⟨rfl, ⟨nd, rfl⟩⟩; refine ⟨_, rfl, ?_⟩))
   go_meet
   case rel => exact ⟨_, (((l0_1.length : Int) != 2)), lF, H', ⟨lN⟩, ⟨lK BK156.out⟩, ⟨lB⟩⟩
  ·replace c5 := Bool.eq_false_iff.mpr c5
   subst c5
   rw [if_neg (show ¬ (false = true) by decide)] at H
   have H' := Aside0.mk H
   clear H
   obtain ⟨hcz7_0, hfz7_0, hcz7_1, hfz7_1, hcz7_2, hfz7_2⟩ := bk3 BK156.out
   go_wp2_with (first | ((with_reducible refine gate_callee (f := 23) rfl ?_); refine gl_ (some 12) (Try.func23) #[.int .i64 (l0_0.length : Int), .int .i64 2, .int .i64 10] ?_; (with_reducible refine (spec_l1In.calls (l0_0.length : Int) 2 10 false _ A4.out).mono ?_); rintro e w' ⟨rfl, ⟨nd, rfl⟩⟩; refine ⟨_, rfl, ?_⟩))
   go_meet
   case rel => exact ⟨_, (true), lF, H', ⟨lN⟩, ⟨lK BK156.out⟩, ⟨lB⟩⟩
 case rest =>
  clear HC2
  try clear c1
  try clear c2
  try clear p2
  try clear c5
  try clear hcz6_0 hcz6_1 hcz6_2
  try clear hcz7_0 hcz7_1 hcz7_2
  try clear hfz6_0 hfz6_1 hfz6_2
  try clear hfz7_0 hfz7_1 hfz7_2
  obtain ⟨kq, x19_1, rfl, HA, HJ1, BK156, HB⟩ := hcut
  cases kq with
  | zero => exact absurd HA.out (by simp [spec_GoodMarker.j0])
  | succ kj1 =>
   have H := HA.out
   clear HA
   simp only [spec_GoodMarker.j0] at H
   by_cases c8 : x19_1 = true
   ·subst c8
    rw [if_pos rfl] at H
    obtain rfl := Option.some.inj H
    first | (go_wp2; go_ret; exact ⟨lE, lB⟩) | (exfalso; simp only [decide_eq_false_iff_not, decide_eq_true_eq] at *; omega)
   ·replace c8 := Bool.eq_false_iff.mpr c8
    subst c8
    rw [if_neg (show ¬ (false = true) by decide)] at H
    have H' := Aside0.mk H
    clear H
    obtain ⟨hcz9_0, hfz9_0, hcz9_1, hfz9_1, hcz9_2, hfz9_2⟩ := bk3 BK156.out
    go_wp2
    go_loopg [23] kj1 (fun kq v23 w' => ∃ (x23_2 : Int), v23 = .int .i64 x23_2 ∧ Aside0 (spec_GoodMarker.l0 kq l0_0 (l0_0.length : Int) x23_2 l0_0 l0_1 a0_2 = some r) ∧ Aside0 (kq ≤ kj1) ∧ Aside0 (w'.heap[gb156]? = some (.cells #[(.slice A0_0 l0_0.length c0_0), (.slice A0_1 l0_1.length c0_1), .bool a0_2] 25 (0, 0))) ∧ Aside0 (Below w.heap.size w w'))
    case atStart => exact ⟨(0), lF, H', ⟨Nat.le_refl _⟩, ⟨lK BK156.out⟩, ⟨lB⟩⟩
    case round =>
     clear H'
     try clear c1
     try clear c2
     try clear p2
     try clear c5
     try clear c8
     try clear hcz6_0 hcz6_1 hcz6_2
     try clear hcz7_0 hcz7_1 hcz7_2
     try clear hcz9_0 hcz9_1 hcz9_2
     try clear hfz6_0 hfz6_1 hfz6_2
     try clear hfz7_0 hfz7_1 hfz7_2
     try clear hfz9_0 hfz9_1 hfz9_2
     try clear p2
     obtain ⟨x23_2, rfl, HA, HK2, BK156, HB⟩ := hrel
     cases gk with
     | zero => exact absurd HA.out (by simp [spec_GoodMarker.l0])
     | succ k2 =>
      have H := HA.out
      clear HA
      simp only [spec_GoodMarker.l0] at H
      by_cases c10 : x23_2 < (l0_0.length : Int)
      ·rw [if_pos c10] at H
       have c10b0 : decide (x23_2 < (l0_0.length : Int)) = true := decide_eq_true c10
       clear c10
       by_cases c11 : 0 ≤ x23_2
       ·rw [if_pos c11] at H
        have c11b0 : decide (0 ≤ x23_2) = true := decide_eq_true c11
        clear c11
        by_cases c12 : x23_2 < (l0_0.length : Int)
        ·rw [if_pos c12] at H
         have c12b0 : decide (x23_2 < (l0_0.length : Int)) = true := decide_eq_true c12
         clear c12
         have HC13 := Aside0.mk H
         clear H
         have p158 : 0 ≤ (x23_2 : Int) := lD
         have q158 : x23_2 < (l0_0.length : Int) := lD
         obtain ⟨ad158, A158_0, c158_0, e158, hx158_0, hx158_1, hx158_2, hl158_0, hi158_0⟩ := at_T44 HR0_0.out x23_2 p158 q158
         cases e158
         replace hx158_0 := pw_cell_below HB.out hx158_0
         replace hx158_1 := pw_cell_below HB.out hx158_1
         replace hx158_2 := pw_cell_below HB.out hx158_2
         have HR158_0 := Aside0.mk hi158_0
         have HC158_0 := Aside0.mk hl158_0
         clear hi158_0 hl158_0
         replace p158 := eq_true p158
         replace q158 := eq_true q158
         go_upto_region 6 with (first | ((with_reducible refine gate_dst (N := 4) rfl ?_); (try (refine gate_guard (by rfl) ?_; dsimp only)); refine bxe 4 #[.slice none 0 0, .int .i64 0, .bool false] 44 ?_; intro gb159 hg w14 hbox hb; have n0_ := Aside0.mk (blk_below (lK BK156.out) hb); have n1_ := Aside0.mk (below_step lB hb); have n2_ := Aside0.mk (hbox); have n3_ := lG w hg; have n4_ := lG w hg; have n5_ := Aside0.mk ((by rw [hg]; exact Nat.ne_of_lt (blk_lt (lK BK156.out)) : gb156 ≠ gb159)); have n6_ := Aside0.mk ((by rw [hg]; exact Nat.ne_of_gt (blk_lt (lK BK156.out)) : gb159 ≠ gb156)); clear BK156; clear HB; have BK156 := n0_; have HB := n1_; have BK159 := n2_; have GW159 := n3_; have GE159 := n4_; have NB156_159 := n5_; have NB159_156 := n6_; clear n0_ n1_ n2_ n3_ n4_ n5_ n6_; clear hb hbox hg; have hnb15 := NB159_156.out; have hnc15 := NB156_159.out; obtain ⟨hcz16_0, hfz16_0, hcz16_1, hfz16_1, hcz16_2, hfz16_2⟩ := bk3 BK159.out))
         (try simp only [Act.put, List.setIfInBounds_toArray, List.set_cons_zero, List.set_cons_succ])
         go_cut [50] (fun v50 wc => ∃ (kq : Nat) (x50_12 : Bool), v50 = .bool x50_12 ∧ Aside0 (spec_GoodMarker.j2 kq l0_0 (l0_0.length : Int) x23_2 x50_12 l0_0 l0_1 a0_2 ((rd_T44 l0_0 x23_2).f0) ((rd_T44 l0_0 x23_2).f1) ((rd_T44 l0_0 x23_2).f2) = some r) ∧ Aside0 (kq ≤ k2) ∧ Aside0 (wc.heap[gb156]? = some (.cells #[(.slice (some ad158) l0_0.length c0_0), (.slice A0_1 l0_1.length c0_1), .bool a0_2] 25 (0, 0))) ∧ Aside0 (wc.heap[gb159]? = some (.cells #[(.slice A158_0 ((rd_T44 l0_0 x23_2).f0).length c158_0), .int .i64 ((rd_T44 l0_0 x23_2).f1), .bool ((rd_T44 l0_0 x23_2).f2)] 44 (0, 0))) ∧ Aside0 (Below w.heap.size w wc))
         case first =>
          have H := HC13.out
          clear HC13
          by_cases c17 : (((rd_T44 l0_0 x23_2).f0).length : Int) = 2
          ·rw [if_pos c17] at H
           have c17b0 : ((((rd_T44 l0_0 x23_2).f0).length : Int) == 2) = true := beq_iff_eq.mpr c17
           have c17b1 : ((((rd_T44 l0_0 x23_2).f0).length : Int) != 2) = false := bne_eq_false_iff_eq.mpr c17
           clear c17
           (first | rw [c17b0] | (simp only [i64_w, i32_w]; rw [c17b0]) | skip)
           replace H := lO H
           obtain ⟨t160, A18, H⟩ := H
           by_cases c19 : t160 = true
           ·subst c19
            rw [if_pos rfl] at H
            obtain ⟨bq20, hbq20⟩ : ∃ b_ : Bool, b_ = ((rd_T44 l0_0 x23_2).f2) := ⟨_, rfl⟩
            replace H : (if bq20 = true then (spec_GoodMarker.j2 k2 l0_0 (l0_0.length : Int) x23_2 (((rd_T44 l0_0 x23_2).f1) != 0) l0_0 l0_1 a0_2 ((rd_T44 l0_0 x23_2).f0) ((rd_T44 l0_0 x23_2).f1) bq20) else (if a0_2 = true then (spec_GoodMarker.j2 k2 l0_0 (l0_0.length : Int) x23_2 false l0_0 l0_1 a0_2 ((rd_T44 l0_0 x23_2).f0) ((rd_T44 l0_0 x23_2).f1) bq20) else (spec_GoodMarker.j2 k2 l0_0 (l0_0.length : Int) x23_2 (((rd_T44 l0_0 x23_2).f1) != 0) l0_0 l0_1 a0_2 ((rd_T44 l0_0 x23_2).f0) ((rd_T44 l0_0 x23_2).f1) bq20))) = some r := by rw [← hbq20] at H; exact H
            have Nbq20 := Aside0.mk hbq20
            clear hbq20
            (try rw [← Nbq20.out])
            by_cases c21 : bq20 = true
            ·subst c21
             rw [if_pos rfl] at H
             have H' := Aside0.mk H
             clear H
             have hnb22 := NB159_156.out
             have hnc22 := NB156_159.out
             obtain ⟨hcz23_0, hfz23_0, hcz23_1, hfz23_1, hcz23_2, hfz23_2⟩ := bk3 BK159.out
             go_wp2_with (first | (go_at_call 23; (with_reducible refine (spec_l1In.calls ((rd_T44 l0_0 x23_2).f1) 0 2 true _ A18.out).mono ?_); rintro e w' ⟨rfl, ⟨nd, rfl⟩⟩))
             go_meet
             case rel => (try rw [← Nbq20.out]); exact ⟨_, ((((rd_T44 l0_0 x23_2).f1) != 0)), lF, H', ⟨by have := HJ1.out; have := HK2.out; first | omega | exact Nat.le_refl _⟩, ⟨lJ BK156.out⟩, ⟨by (with_reducible repeat first | apply bN | apply bD | apply bA); refine blk_put (cs := #[.slice A158_0 ((rd_T44 l0_0 x23_2).f0).length c158_0, .int .i64 ((rd_T44 l0_0 x23_2).f1), .bool false]) ?_ 2 _ rfl; (with_reducible repeat first | apply bN | apply bD | apply bA); refine blk_put (cs := #[.slice A158_0 ((rd_T44 l0_0 x23_2).f0).length c158_0, .int .i64 0, .bool false]) ?_ 1 _ rfl; (with_reducible repeat first | apply bN | apply bD | apply bA); refine blk_put (cs := #[.slice none 0 0, .int .i64 0, .bool false]) ?_ 0 _ rfl; (with_reducible repeat first | apply bN | apply bD | apply bA); exact BK159.out⟩, ⟨lB⟩⟩
            ·replace c21 := Bool.eq_false_iff.mpr c21
             subst c21
             rw [if_neg (show ¬ (false = true) by decide)] at H
             by_cases c24 : a0_2 = true
             ·subst c24
              rw [if_pos rfl] at H
              have H' := Aside0.mk H
              clear H
              have hnb25 := NB159_156.out
              have hnc25 := NB156_159.out
              obtain ⟨hcz26_0, hfz26_0, hcz26_1, hfz26_1, hcz26_2, hfz26_2⟩ := bk3 BK159.out
              go_wp2_with (first | (go_at_call 23; (with_reducible refine (spec_l1In.calls ((rd_T44 l0_0 x23_2).f1) 0 2 true _ A18.out).mono ?_); rintro e w' ⟨rfl, ⟨nd, rfl⟩⟩; obtain ⟨hcz27_0, hfz27_0, hcz27_1, hfz27_1, hcz27_2, hfz27_2⟩ := bk3 BK156.out))
              go_meet
              case rel => (try rw [← Nbq20.out]); exact ⟨_, (false), lF, H', ⟨by have := HJ1.out; have := HK2.out; first | omega | exact Nat.le_refl _⟩, ⟨lJ BK156.out⟩, ⟨by (with_reducible repeat first | apply bN | apply bD | apply bA); refine blk_put (cs := #[.slice A158_0 ((rd_T44 l0_0 x23_2).f0).length c158_0, .int .i64 ((rd_T44 l0_0 x23_2).f1), .bool false]) ?_ 2 _ rfl; (with_reducible repeat first | apply bN | apply bD | apply bA); refine blk_put (cs := #[.slice A158_0 ((rd_T44 l0_0 x23_2).f0).length c158_0, .int .i64 0, .bool false]) ?_ 1 _ rfl; (with_reducible repeat first | apply bN | apply bD | apply bA); refine blk_put (cs := #[.slice none 0 0, .int .i64 0, .bool false]) ?_ 0 _ rfl; (with_reducible repeat first | apply bN | apply bD | apply bA); exact BK159.out⟩, ⟨lB⟩⟩
             ·replace c24 := Bool.eq_false_iff.mpr c24
              subst c24
              rw [if_neg (show ¬ (false = true) by decide)] at H
              have H' := Aside0.mk H
              clear H
              have hnb28 := NB159_156.out
              have hnc28 := NB156_159.out
              obtain ⟨hcz29_0, hfz29_0, hcz29_1, hfz29_1, hcz29_2, hfz29_2⟩ := bk3 BK159.out
              go_wp2_with (first | (go_at_call 23; (with_reducible refine (spec_l1In.calls ((rd_T44 l0_0 x23_2).f1) 0 2 true _ A18.out).mono ?_); rintro e w' ⟨rfl, ⟨nd, rfl⟩⟩; obtain ⟨hcz30_0, hfz30_0, hcz30_1, hfz30_1, hcz30_2, hfz30_2⟩ := bk3 BK156.out))
              go_meet
              case rel => (try rw [← Nbq20.out]); exact ⟨_, ((((rd_T44 l0_0 x23_2).f1) != 0)), lF, H', ⟨by have := HJ1.out; have := HK2.out; first | omega | exact Nat.le_refl _⟩, ⟨lJ BK156.out⟩, ⟨by (with_reducible repeat first | apply bN | apply bD | apply bA); refine blk_put (cs := #[.slice A158_0 ((rd_T44 l0_0 x23_2).f0).length c158_0, .int .i64 ((rd_T44 l0_0 x23_2).f1), .bool false]) ?_ 2 _ rfl; (with_reducible repeat first | apply bN | apply bD | apply bA); refine blk_put (cs := #[.slice A158_0 ((rd_T44 l0_0 x23_2).f0).length c158_0, .int .i64 0, .bool false]) ?_ 1 _ rfl; (with_reducible repeat first | apply bN | apply bD | apply bA); refine blk_put (cs := #[.slice none 0 0, .int .i64 0, .bool false]) ?_ 0 _ rfl; (with_reducible repeat first | apply bN | apply bD | apply bA); exact BK159.out⟩, ⟨lB⟩⟩
           ·replace c19 := Bool.eq_false_iff.mpr c19
            subst c19
            rw [if_neg (show ¬ (false = true) by decide)] at H
            have H' := Aside0.mk H
            clear H
            have hnb31 := NB159_156.out
            have hnc31 := NB156_159.out
            obtain ⟨hcz32_0, hfz32_0, hcz32_1, hfz32_1, hcz32_2, hfz32_2⟩ := bk3 BK159.out
            go_wp2_with (first | (go_at_call 23; (with_reducible refine (spec_l1In.calls ((rd_T44 l0_0 x23_2).f1) 0 2 false _ A18.out).mono ?_); rintro e w' ⟨rfl, ⟨nd, rfl⟩⟩))
            go_meet
            case rel => exact ⟨_, (true), lF, H', ⟨by have := HJ1.out; have := HK2.out; first | omega | exact Nat.le_refl _⟩, ⟨lJ BK156.out⟩, ⟨by (with_reducible repeat first | apply bN | apply bD | apply bA); refine blk_put (cs := #[.slice A158_0 ((rd_T44 l0_0 x23_2).f0).length c158_0, .int .i64 ((rd_T44 l0_0 x23_2).f1), .bool false]) ?_ 2 _ rfl; (with_reducible repeat first | apply bN | apply bD | apply bA); refine blk_put (cs := #[.slice A158_0 ((rd_T44 l0_0 x23_2).f0).length c158_0, .int .i64 0, .bool false]) ?_ 1 _ rfl; (with_reducible repeat first | apply bN | apply bD | apply bA); refine blk_put (cs := #[.slice none 0 0, .int .i64 0, .bool false]) ?_ 0 _ rfl; (with_reducible repeat first | apply bN | apply bD | apply bA); exact BK159.out⟩, ⟨lB⟩⟩
          ·rw [if_neg c17] at H
           have c17b0 : ((((rd_T44 l0_0 x23_2).f0).length : Int) == 2) = false := beq_eq_false_iff_ne.mpr c17
           have c17b1 : ((((rd_T44 l0_0 x23_2).f0).length : Int) != 2) = true := bne_iff_ne.mpr c17
           (first | rw [c17b0] | (simp only [i64_w, i32_w]; rw [c17b0]) | skip)
           have H' := Aside0.mk H
           clear H
           have hnb33 := NB159_156.out
           have hnc33 := NB156_159.out
           obtain ⟨hcz34_0, hfz34_0, hcz34_1, hfz34_1, hcz34_2, hfz34_2⟩ := bk3 BK159.out
           go_wp2
           go_meet
           case rel => exact ⟨_, (true), lF, H', ⟨by have := HJ1.out; have := HK2.out; first | omega | exact Nat.le_refl _⟩, ⟨lJ BK156.out⟩, ⟨by (with_reducible repeat first | apply bN | apply bD | apply bA); refine blk_put (cs := #[.slice A158_0 ((rd_T44 l0_0 x23_2).f0).length c158_0, .int .i64 ((rd_T44 l0_0 x23_2).f1), .bool false]) ?_ 2 _ rfl; (with_reducible repeat first | apply bN | apply bD | apply bA); refine blk_put (cs := #[.slice A158_0 ((rd_T44 l0_0 x23_2).f0).length c158_0, .int .i64 0, .bool false]) ?_ 1 _ rfl; (with_reducible repeat first | apply bN | apply bD | apply bA); refine blk_put (cs := #[.slice none 0 0, .int .i64 0, .bool false]) ?_ 0 _ rfl; (with_reducible repeat first | apply bN | apply bD | apply bA); exact BK159.out⟩, ⟨lB⟩⟩
         case rest =>
          clear HC13
          try clear c1
          try clear p1
          try clear q1
          try clear hx1
          try clear c2
          try clear p2
          try clear q2
          try clear c3
          try clear c5
          try clear c8
          try clear c10
          try clear c10b0
          try clear c11
          try clear c11b0
          try clear c12
          try clear c12b0
          try clear c13
          try clear c15
          try clear p15
          try clear q15
          try clear hx15
          try clear c17
          try clear c17b0
          try clear c17b1
          try clear c19
          try clear q20
          try clear c21
          try clear c22
          try clear c23
          try clear c24
          try clear c25
          try clear c28
          try clear c31
          try clear c33
          try clear hcz16_0 hcz16_1 hcz16_2
          try clear hcz23_0 hcz23_1 hcz23_2
          try clear hcz26_0 hcz26_1 hcz26_2
          try clear hcz27_0 hcz27_1 hcz27_2
          try clear hcz29_0 hcz29_1 hcz29_2
          try clear hcz30_0 hcz30_1 hcz30_2
          try clear hcz32_0 hcz32_1 hcz32_2
          try clear hcz34_0 hcz34_1 hcz34_2
          try clear hcz6_0 hcz6_1 hcz6_2
          try clear hcz7_0 hcz7_1 hcz7_2
          try clear hcz9_0 hcz9_1 hcz9_2
          try clear hfz16_0 hfz16_1 hfz16_2
          try clear hfz23_0 hfz23_1 hfz23_2
          try clear hfz26_0 hfz26_1 hfz26_2
          try clear hfz27_0 hfz27_1 hfz27_2
          try clear hfz29_0 hfz29_1 hfz29_2
          try clear hfz30_0 hfz30_1 hfz30_2
          try clear hfz32_0 hfz32_1 hfz32_2
          try clear hfz34_0 hfz34_1 hfz34_2
          try clear hfz6_0 hfz6_1 hfz6_2
          try clear hfz7_0 hfz7_1 hfz7_2
          try clear hfz9_0 hfz9_1 hfz9_2
          try clear hx158_0
          try clear hx158_1
          try clear hx158_2
          try clear p158
          try clear p2
          try clear q158
          obtain ⟨kq, x50_12, rfl, HA, HJ12, BK156, BK159, HB⟩ := hcut
          cases kq with
          | zero => exact absurd HA.out (by simp [spec_GoodMarker.j2])
          | succ kj12 =>
           have H := HA.out
           clear HA
           simp only [spec_GoodMarker.j2] at H
           by_cases c35 : x50_12 = true
           ·subst c35
            rw [if_pos rfl] at H
            obtain rfl := Option.some.inj H
            first | (go_wp2; go_ret; exact ⟨lE, lB⟩) | (exfalso; simp only [decide_eq_false_iff_not, decide_eq_true_eq] at *; omega)
           ·replace c35 := Bool.eq_false_iff.mpr c35
            subst c35
            rw [if_neg (show ¬ (false = true) by decide)] at H
            have H' := Aside0.mk H
            clear H
            have hnb36 := NB159_156.out
            have hnc36 := NB156_159.out
            obtain ⟨hcz37_0, hfz37_0, hcz37_1, hfz37_1, hcz37_2, hfz37_2⟩ := bk3 BK159.out
            go_wp2
            go_loopg [54] kj12 (fun kq v54 w' => ∃ (x54_4 : Int), v54 = .int .i64 x54_4 ∧ Aside0 (spec_GoodMarker.l1 kq l0_0 (l0_0.length : Int) x23_2 ((rd_T44 l0_0 x23_2).f0) (((rd_T44 l0_0 x23_2).f0).length : Int) x54_4 l0_0 l0_1 a0_2 ((rd_T44 l0_0 x23_2).f0) ((rd_T44 l0_0 x23_2).f1) ((rd_T44 l0_0 x23_2).f2) = some r) ∧ Aside0 (kq ≤ kj12) ∧ Aside0 (w'.heap[gb156]? = some (.cells #[(.slice (some ad158) l0_0.length c0_0), (.slice A0_1 l0_1.length c0_1), .bool a0_2] 25 (0, 0))) ∧ Aside0 (w'.heap[gb159]? = some (.cells #[(.slice A158_0 ((rd_T44 l0_0 x23_2).f0).length c158_0), .int .i64 ((rd_T44 l0_0 x23_2).f1), .bool ((rd_T44 l0_0 x23_2).f2)] 44 (0, 0))) ∧ Aside0 (Below w.heap.size w w'))
            case atStart => exact ⟨(0), lF, H', ⟨Nat.le_refl _⟩, ⟨lK BK156.out⟩, ⟨lK BK159.out⟩, ⟨lB⟩⟩
            case round =>
             clear H'
             try clear c1
             try clear p1
             try clear q1
             try clear hx1
             try clear c2
             try clear p2
             try clear q2
             try clear c3
             try clear c5
             try clear c8
             try clear c10
             try clear c10b0
             try clear c11
             try clear c11b0
             try clear c12
             try clear c12b0
             try clear c13
             try clear c15
             try clear p15
             try clear q15
             try clear hx15
             try clear c17
             try clear c17b0
             try clear c17b1
             try clear c19
             try clear q20
             try clear c21
             try clear c22
             try clear c23
             try clear c24
             try clear c25
             try clear c28
             try clear c31
             try clear c33
             try clear c35
             try clear c36
             try clear hcz16_0 hcz16_1 hcz16_2
             try clear hcz23_0 hcz23_1 hcz23_2
             try clear hcz26_0 hcz26_1 hcz26_2
             try clear hcz27_0 hcz27_1 hcz27_2
             try clear hcz29_0 hcz29_1 hcz29_2
             try clear hcz30_0 hcz30_1 hcz30_2
             try clear hcz32_0 hcz32_1 hcz32_2
             try clear hcz34_0 hcz34_1 hcz34_2
             try clear hcz37_0 hcz37_1 hcz37_2
             try clear hcz6_0 hcz6_1 hcz6_2
             try clear hcz7_0 hcz7_1 hcz7_2
             try clear hcz9_0 hcz9_1 hcz9_2
             try clear hfz16_0 hfz16_1 hfz16_2
             try clear hfz23_0 hfz23_1 hfz23_2
             try clear hfz26_0 hfz26_1 hfz26_2
             try clear hfz27_0 hfz27_1 hfz27_2
             try clear hfz29_0 hfz29_1 hfz29_2
             try clear hfz30_0 hfz30_1 hfz30_2
             try clear hfz32_0 hfz32_1 hfz32_2
             try clear hfz34_0 hfz34_1 hfz34_2
             try clear hfz37_0 hfz37_1 hfz37_2
             try clear hfz6_0 hfz6_1 hfz6_2
             try clear hfz7_0 hfz7_1 hfz7_2
             try clear hfz9_0 hfz9_1 hfz9_2
             try clear hx158_0
             try clear hx158_1
             try clear hx158_2
             try clear p1
             try clear p15
             try clear p158
             try clear p2
             try clear q1
             try clear q15
             try clear q158
             try clear q2
             try clear q20
             obtain ⟨x54_4, rfl, HA, HK4, BK156, BK159, HB⟩ := hrel
             cases gk with
             | zero => exact absurd HA.out (by simp [spec_GoodMarker.l1])
             | succ k4 =>
              have H := HA.out
              clear HA
              simp only [spec_GoodMarker.l1] at H
              by_cases c38 : x54_4 < (((rd_T44 l0_0 x23_2).f0).length : Int)
              ·rw [if_pos c38] at H
               have c38b0 : decide (x54_4 < (((rd_T44 l0_0 x23_2).f0).length : Int)) = true := decide_eq_true c38
               clear c38
               by_cases c39 : 0 ≤ x54_4
               ·rw [if_pos c39] at H
                have c39b0 : decide (0 ≤ x54_4) = true := decide_eq_true c39
                clear c39
                by_cases c40 : x54_4 < (((rd_T44 l0_0 x23_2).f0).length : Int)
                ·rw [if_pos c40] at H
                 have c40b0 : decide (x54_4 < (((rd_T44 l0_0 x23_2).f0).length : Int)) = true := decide_eq_true c40
                 clear c40
                 replace H := lO H
                 obtain ⟨t162, A41, H⟩ := H
                 by_cases c42 : t162 = true
                 ·subst c42
                  rw [if_pos rfl] at H
                  by_cases c43 : ((rd_T44 l0_0 x23_2).f2) = true
                  ·rw [if_pos c43] at H
                   have c43b0 : ((rd_T44 l0_0 x23_2).f2) = true := c43
                   clear c43
                   by_cases c44 : (rd ((rd_T44 l0_0 x23_2).f0) x54_4) = (-1)
                   ·rw [if_pos c44] at H
                    have c44b0 : ((rd ((rd_T44 l0_0 x23_2).f0) x54_4) == (-1)) = true := beq_iff_eq.mpr c44
                    have c44b1 : ((rd ((rd_T44 l0_0 x23_2).f0) x54_4) != (-1)) = false := bne_eq_false_iff_eq.mpr c44
                    clear c44
                    by_cases c45 : ((rd_T44 l0_0 x23_2).f1) = 2
                    ·rw [if_pos c45] at H
                     have c45b0 : (((rd_T44 l0_0 x23_2).f1) == 2) = true := beq_iff_eq.mpr c45
                     have c45b1 : (((rd_T44 l0_0 x23_2).f1) != 2) = false := bne_eq_false_iff_eq.mpr c45
                     clear c45
                     replace H := lO H
                     obtain ⟨t163, A46, H⟩ := H
                     by_cases c47 : t163 = 0
                     ·rw [if_pos c47] at H
                      have c47b0 : (t163 == 0) = true := beq_iff_eq.mpr c47
                      have c47b1 : (t163 != 0) = false := bne_eq_false_iff_eq.mpr c47
                      clear c47
                      obtain rfl := Option.some.inj H
                      have p161 : 0 ≤ (x54_4 : Int) := lD
                      have q161 : x54_4 < (((rd_T44 l0_0 x23_2).f0).length : Int) := lD
                      obtain ⟨ad161, e161, hx161_0⟩ := Kd.at_int HR158_0.out x54_4 p161 q161
                      cases e161
                      replace hx161_0 := pw_cell_below HB.out hx161_0
                      replace p161 := eq_true p161
                      replace q161 := eq_true q161
                      have hnb48 := NB156_159.out
                      have hnc48 := NB159_156.out
                      obtain ⟨hcz49_0, hfz49_0, hcz49_1, hfz49_1, hcz49_2, hfz49_2⟩ := bk3 BK156.out
                      go_wp2_with (first | ((with_reducible refine gate_callee (f := 31) rfl ?_); refine gl_ (some 60) (Try.func31) #[.agg #[.slice (some ad158) l0_0.length c0_0, .slice A0_1 l0_1.length c0_1, .bool a0_2], .int .i64 (rd ((rd_T44 l0_0 x23_2).f0) x54_4)] ?_; (with_reducible refine (spec_l15Cell.calls _ _ l0_0 _ _ l0_1 a0_2 (rd ((rd_T44 l0_0 x23_2).f0) x54_4) true _ ?side1 ?side2 ?side3 ?side4 A41.out).mono ?_); (case side1 => exact lC (Kd.C_below HR0_0.out HB.out)); (case side2 => exact HC0_0.out); (case side3 => exact lC (Kd.C_below HR0_1.out HB.out)); (case side4 => exact HC0_1.out); rintro e w50 ⟨rfl, hb⟩; refine ⟨_, rfl, ?_⟩; have n0_ := Aside0.mk (blk_below (lK BK156.out) hb); have n1_ := Aside0.mk (blk_below (lK BK159.out) hb); have n2_ := Aside0.mk (below_step lB hb); clear BK156; clear BK159; clear HB; have BK156 := n0_; have BK159 := n1_; have HB := n2_; clear n0_ n1_ n2_; (try clear hb); (try clear hb2); (try clear hk); (try clear hi); obtain ⟨hcz51_0, hfz51_0, hcz51_1, hfz51_1, hcz51_2, hfz51_2⟩ := bk3 BK159.out; obtain ⟨hcz52_0, hfz52_0, hcz52_1, hfz52_1, hcz52_2, hfz52_2⟩ := bk3 BK156.out) | (go_at_call 32; (with_reducible refine (spec_l15Color.calls _ _ l0_0 _ _ l0_1 a0_2 (rd ((rd_T44 l0_0 x23_2).f0) x54_4) t163 _ ?side1 ?side2 ?side3 ?side4 A46.out).mono ?_); (case side1 => exact lC (Kd.C_below HR0_0.out HB.out)); (case side2 => exact HC0_0.out); (case side3 => exact lC (Kd.C_below HR0_1.out HB.out)); (case side4 => exact HC0_1.out); rintro e w53 ⟨rfl, hb⟩; have n0_ := Aside0.mk (blk_below (lK BK156.out) hb); have n1_ := Aside0.mk (blk_below (lK BK159.out) hb); have n2_ := Aside0.mk (below_step lB hb); clear BK156; clear BK159; clear HB; have BK156 := n0_; have BK159 := n1_; have HB := n2_; clear n0_ n1_ n2_; (try clear hb); (try clear hb2); (try clear hk); (try clear hi)))
                      go_ret
                      exact ⟨lE, lB⟩
                     ·rw [if_neg c47] at H
                      have c47b0 : (t163 == 0) = false := beq_eq_false_iff_ne.mpr c47
                      have c47b1 : (t163 != 0) = true := bne_iff_ne.mpr c47
                      have H' := Aside0.mk H
                      clear H
                      have p161 : 0 ≤ (x54_4 : Int) := lD
                      have q161 : x54_4 < (((rd_T44 l0_0 x23_2).f0).length : Int) := lD
                      obtain ⟨ad161, e161, hx161_0⟩ := Kd.at_int HR158_0.out x54_4 p161 q161
                      cases e161
                      replace hx161_0 := pw_cell_below HB.out hx161_0
                      replace p161 := eq_true p161
                      replace q161 := eq_true q161
                      have hnb54 := NB156_159.out
                      have hnc54 := NB159_156.out
                      obtain ⟨hcz55_0, hfz55_0, hcz55_1, hfz55_1, hcz55_2, hfz55_2⟩ := bk3 BK156.out
                      go_wp2_with (first | ((with_reducible refine gate_callee (f := 31) rfl ?_); refine gl_ (some 60) (Try.func31) #[.agg #[.slice (some ad158) l0_0.length c0_0, .slice A0_1 l0_1.length c0_1, .bool a0_2], .int .i64 (rd ((rd_T44 l0_0 x23_2).f0) x54_4)] ?_; (with_reducible refine (spec_l15Cell.calls _ _ l0_0 _ _ l0_1 a0_2 (rd ((rd_T44 l0_0 x23_2).f0) x54_4) true _ ?side1 ?side2 ?side3 ?side4 A41.out).mono ?_); (case side1 => exact lC (Kd.C_below HR0_0.out HB.out)); (case side2 => exact HC0_0.out); (case side3 => exact lC (Kd.C_below HR0_1.out HB.out)); (case side4 => exact HC0_1.out); rintro e w56 ⟨rfl, hb⟩; refine ⟨_, rfl, ?_⟩; have n0_ := Aside0.mk (blk_below (lK BK156.out) hb); have n1_ := Aside0.mk (blk_below (lK BK159.out) hb); have n2_ := Aside0.mk (below_step lB hb); clear BK156; clear BK159; clear HB; have BK156 := n0_; have BK159 := n1_; have HB := n2_; clear n0_ n1_ n2_; (try clear hb); (try clear hb2); (try clear hk); (try clear hi); obtain ⟨hcz57_0, hfz57_0, hcz57_1, hfz57_1, hcz57_2, hfz57_2⟩ := bk3 BK159.out; obtain ⟨hcz58_0, hfz58_0, hcz58_1, hfz58_1, hcz58_2, hfz58_2⟩ := bk3 BK156.out) | (go_at_call 32; (with_reducible refine (spec_l15Color.calls _ _ l0_0 _ _ l0_1 a0_2 (rd ((rd_T44 l0_0 x23_2).f0) x54_4) t163 _ ?side1 ?side2 ?side3 ?side4 A46.out).mono ?_); (case side1 => exact lC (Kd.C_below HR0_0.out HB.out)); (case side2 => exact HC0_0.out); (case side3 => exact lC (Kd.C_below HR0_1.out HB.out)); (case side4 => exact HC0_1.out); rintro e w59 ⟨rfl, hb⟩; have n0_ := Aside0.mk (blk_below (lK BK156.out) hb); have n1_ := Aside0.mk (blk_below (lK BK159.out) hb); have n2_ := Aside0.mk (below_step lB hb); clear BK156; clear BK159; clear HB; have BK156 := n0_; have BK159 := n1_; have HB := n2_; clear n0_ n1_ n2_; (try clear hb); (try clear hb2); (try clear hk); (try clear hi)))
                      go_roundg k4
                      case measure => have := HJ1.out; have := HK2.out; have := HJ12.out; have := HK4.out; omega
                      case rel => exact ⟨(wrap64 (x54_4 + 1)), lF, H', ⟨by have := HJ1.out; have := HK2.out; have := HJ12.out; have := HK4.out; omega⟩, ⟨lK BK156.out⟩, ⟨lK BK159.out⟩, ⟨lB⟩⟩
                    ·rw [if_neg c45] at H
                     have c45b0 : (((rd_T44 l0_0 x23_2).f1) == 2) = false := beq_eq_false_iff_ne.mpr c45
                     have c45b1 : (((rd_T44 l0_0 x23_2).f1) != 2) = true := bne_iff_ne.mpr c45
                     have H' := Aside0.mk H
                     clear H
                     have p161 : 0 ≤ (x54_4 : Int) := lD
                     have q161 : x54_4 < (((rd_T44 l0_0 x23_2).f0).length : Int) := lD
                     obtain ⟨ad161, e161, hx161_0⟩ := Kd.at_int HR158_0.out x54_4 p161 q161
                     cases e161
                     replace hx161_0 := pw_cell_below HB.out hx161_0
                     replace p161 := eq_true p161
                     replace q161 := eq_true q161
                     have hnb60 := NB156_159.out
                     have hnc60 := NB159_156.out
                     obtain ⟨hcz61_0, hfz61_0, hcz61_1, hfz61_1, hcz61_2, hfz61_2⟩ := bk3 BK156.out
                     go_wp2_with (first | ((with_reducible refine gate_callee (f := 31) rfl ?_); refine gl_ (some 60) (Try.func31) #[.agg #[.slice (some ad158) l0_0.length c0_0, .slice A0_1 l0_1.length c0_1, .bool a0_2], .int .i64 (rd ((rd_T44 l0_0 x23_2).f0) x54_4)] ?_; (with_reducible refine (spec_l15Cell.calls _ _ l0_0 _ _ l0_1 a0_2 (rd ((rd_T44 l0_0 x23_2).f0) x54_4) true _ ?side1 ?side2 ?side3 ?side4 A41.out).mono ?_); (case side1 => exact lC (Kd.C_below HR0_0.out HB.out)); (case side2 => exact HC0_0.out); (case side3 => exact lC (Kd.C_below HR0_1.out HB.out)); (case side4 => exact HC0_1.out); rintro e w62 ⟨rfl, hb⟩; refine ⟨_, rfl, ?_⟩; have n0_ := Aside0.mk (blk_below (lK BK156.out) hb); have n1_ := Aside0.mk (blk_below (lK BK159.out) hb); have n2_ := Aside0.mk (below_step lB hb); clear BK156; clear BK159; clear HB; have BK156 := n0_; have BK159 := n1_; have HB := n2_; clear n0_ n1_ n2_; (try clear hb); (try clear hb2); (try clear hk); (try clear hi); obtain ⟨hcz63_0, hfz63_0, hcz63_1, hfz63_1, hcz63_2, hfz63_2⟩ := bk3 BK159.out))
                     go_roundg k4
                     case measure => have := HJ1.out; have := HK2.out; have := HJ12.out; have := HK4.out; omega
                     case rel => exact ⟨(wrap64 (x54_4 + 1)), lF, H', ⟨by have := HJ1.out; have := HK2.out; have := HJ12.out; have := HK4.out; omega⟩, ⟨lK BK156.out⟩, ⟨lK BK159.out⟩, ⟨lB⟩⟩
                   ·rw [if_neg c44] at H
                    have c44b0 : ((rd ((rd_T44 l0_0 x23_2).f0) x54_4) == (-1)) = false := beq_eq_false_iff_ne.mpr c44
                    have c44b1 : ((rd ((rd_T44 l0_0 x23_2).f0) x54_4) != (-1)) = true := bne_iff_ne.mpr c44
                    obtain rfl := Option.some.inj H
                    have p161 : 0 ≤ (x54_4 : Int) := lD
                    have q161 : x54_4 < (((rd_T44 l0_0 x23_2).f0).length : Int) := lD
                    obtain ⟨ad161, e161, hx161_0⟩ := Kd.at_int HR158_0.out x54_4 p161 q161
                    cases e161
                    replace hx161_0 := pw_cell_below HB.out hx161_0
                    replace p161 := eq_true p161
                    replace q161 := eq_true q161
                    have hnb64 := NB156_159.out
                    have hnc64 := NB159_156.out
                    obtain ⟨hcz65_0, hfz65_0, hcz65_1, hfz65_1, hcz65_2, hfz65_2⟩ := bk3 BK156.out
                    go_wp2_with (first | ((with_reducible refine gate_callee (f := 31) rfl ?_); refine gl_ (some 60) (Try.func31) #[.agg #[.slice (some ad158) l0_0.length c0_0, .slice A0_1 l0_1.length c0_1, .bool a0_2], .int .i64 (rd ((rd_T44 l0_0 x23_2).f0) x54_4)] ?_; (with_reducible refine (spec_l15Cell.calls _ _ l0_0 _ _ l0_1 a0_2 (rd ((rd_T44 l0_0 x23_2).f0) x54_4) true _ ?side1 ?side2 ?side3 ?side4 A41.out).mono ?_); (case side1 => exact lC (Kd.C_below HR0_0.out HB.out)); (case side2 => exact HC0_0.out); (case side3 => exact lC (Kd.C_below HR0_1.out HB.out)); (case side4 => exact HC0_1.out); rintro e w66 ⟨rfl, hb⟩; refine ⟨_, rfl, ?_⟩; have n0_ := Aside0.mk (blk_below (lK BK156.out) hb); have n1_ := Aside0.mk (blk_below (lK BK159.out) hb); have n2_ := Aside0.mk (below_step lB hb); clear BK156; clear BK159; clear HB; have BK156 := n0_; have BK159 := n1_; have HB := n2_; clear n0_ n1_ n2_; (try clear hb); (try clear hb2); (try clear hk); (try clear hi); obtain ⟨hcz67_0, hfz67_0, hcz67_1, hfz67_1, hcz67_2, hfz67_2⟩ := bk3 BK159.out))
                    go_ret
                    exact ⟨lE, lB⟩
                  ·rw [if_neg c43] at H
                   have c43b0 : ((rd_T44 l0_0 x23_2).f2) = false := by simpa using c43
                   clear c43
                   by_cases c68 : ((rd_T44 l0_0 x23_2).f1) = 2
                   ·rw [if_pos c68] at H
                    have c68b0 : (((rd_T44 l0_0 x23_2).f1) == 2) = true := beq_iff_eq.mpr c68
                    have c68b1 : (((rd_T44 l0_0 x23_2).f1) != 2) = false := bne_eq_false_iff_eq.mpr c68
                    clear c68
                    replace H := lO H
                    obtain ⟨t164, A69, H⟩ := H
                    by_cases c70 : t164 = 0
                    ·rw [if_pos c70] at H
                     have c70b0 : (t164 == 0) = true := beq_iff_eq.mpr c70
                     have c70b1 : (t164 != 0) = false := bne_eq_false_iff_eq.mpr c70
                     clear c70
                     obtain rfl := Option.some.inj H
                     have p161 : 0 ≤ (x54_4 : Int) := lD
                     have q161 : x54_4 < (((rd_T44 l0_0 x23_2).f0).length : Int) := lD
                     obtain ⟨ad161, e161, hx161_0⟩ := Kd.at_int HR158_0.out x54_4 p161 q161
                     cases e161
                     replace hx161_0 := pw_cell_below HB.out hx161_0
                     replace p161 := eq_true p161
                     replace q161 := eq_true q161
                     have hnb71 := NB156_159.out
                     have hnc71 := NB159_156.out
                     obtain ⟨hcz72_0, hfz72_0, hcz72_1, hfz72_1, hcz72_2, hfz72_2⟩ := bk3 BK156.out
                     go_wp2_with (first | ((with_reducible refine gate_callee (f := 31) rfl ?_); refine gl_ (some 60) (Try.func31) #[.agg #[.slice (some ad158) l0_0.length c0_0, .slice A0_1 l0_1.length c0_1, .bool a0_2], .int .i64 (rd ((rd_T44 l0_0 x23_2).f0) x54_4)] ?_; (with_reducible refine (spec_l15Cell.calls _ _ l0_0 _ _ l0_1 a0_2 (rd ((rd_T44 l0_0 x23_2).f0) x54_4) true _ ?side1 ?side2 ?side3 ?side4 A41.out).mono ?_); (case side1 => exact lC (Kd.C_below HR0_0.out HB.out)); (case side2 => exact HC0_0.out); (case side3 => exact lC (Kd.C_below HR0_1.out HB.out)); (case side4 => exact HC0_1.out); rintro e w73 ⟨rfl, hb⟩; refine ⟨_, rfl, ?_⟩; have n0_ := Aside0.mk (blk_below (lK BK156.out) hb); have n1_ := Aside0.mk (blk_below (lK BK159.out) hb); have n2_ := Aside0.mk (below_step lB hb); clear BK156; clear BK159; clear HB; have BK156 := n0_; have BK159 := n1_; have HB := n2_; clear n0_ n1_ n2_; (try clear hb); (try clear hb2); (try clear hk); (try clear hi); obtain ⟨hcz74_0, hfz74_0, hcz74_1, hfz74_1, hcz74_2, hfz74_2⟩ := bk3 BK159.out; obtain ⟨hcz75_0, hfz75_0, hcz75_1, hfz75_1, hcz75_2, hfz75_2⟩ := bk3 BK156.out) | (go_at_call 32; (with_reducible refine (spec_l15Color.calls _ _ l0_0 _ _ l0_1 a0_2 (rd ((rd_T44 l0_0 x23_2).f0) x54_4) t164 _ ?side1 ?side2 ?side3 ?side4 A69.out).mono ?_); (case side1 => exact lC (Kd.C_below HR0_0.out HB.out)); (case side2 => exact HC0_0.out); (case side3 => exact lC (Kd.C_below HR0_1.out HB.out)); (case side4 => exact HC0_1.out); rintro e w76 ⟨rfl, hb⟩; have n0_ := Aside0.mk (blk_below (lK BK156.out) hb); have n1_ := Aside0.mk (blk_below (lK BK159.out) hb); have n2_ := Aside0.mk (below_step lB hb); clear BK156; clear BK159; clear HB; have BK156 := n0_; have BK159 := n1_; have HB := n2_; clear n0_ n1_ n2_; (try clear hb); (try clear hb2); (try clear hk); (try clear hi)))
                     go_ret
                     exact ⟨lE, lB⟩
                    ·rw [if_neg c70] at H
                     have c70b0 : (t164 == 0) = false := beq_eq_false_iff_ne.mpr c70
                     have c70b1 : (t164 != 0) = true := bne_iff_ne.mpr c70
                     have H' := Aside0.mk H
                     clear H
                     have p161 : 0 ≤ (x54_4 : Int) := lD
                     have q161 : x54_4 < (((rd_T44 l0_0 x23_2).f0).length : Int) := lD
                     obtain ⟨ad161, e161, hx161_0⟩ := Kd.at_int HR158_0.out x54_4 p161 q161
                     cases e161
                     replace hx161_0 := pw_cell_below HB.out hx161_0
                     replace p161 := eq_true p161
                     replace q161 := eq_true q161
                     have hnb77 := NB156_159.out
                     have hnc77 := NB159_156.out
                     obtain ⟨hcz78_0, hfz78_0, hcz78_1, hfz78_1, hcz78_2, hfz78_2⟩ := bk3 BK156.out
                     go_wp2_with (first | ((with_reducible refine gate_callee (f := 31) rfl ?_); refine gl_ (some 60) (Try.func31) #[.agg #[.slice (some ad158) l0_0.length c0_0, .slice A0_1 l0_1.length c0_1, .bool a0_2], .int .i64 (rd ((rd_T44 l0_0 x23_2).f0) x54_4)] ?_; (with_reducible refine (spec_l15Cell.calls _ _ l0_0 _ _ l0_1 a0_2 (rd ((rd_T44 l0_0 x23_2).f0) x54_4) true _ ?side1 ?side2 ?side3 ?side4 A41.out).mono ?_); (case side1 => exact lC (Kd.C_below HR0_0.out HB.out)); (case side2 => exact HC0_0.out); (case side3 => exact lC (Kd.C_below HR0_1.out HB.out)); (case side4 => exact HC0_1.out); rintro e w79 ⟨rfl, hb⟩; refine ⟨_, rfl, ?_⟩; have n0_ := Aside0.mk (blk_below (lK BK156.out) hb); have n1_ := Aside0.mk (blk_below (lK BK159.out) hb); have n2_ := Aside0.mk (below_step lB hb); clear BK156; clear BK159; clear HB; have BK156 := n0_; have BK159 := n1_; have HB := n2_; clear n0_ n1_ n2_; (try clear hb); (try clear hb2); (try clear hk); (try clear hi); obtain ⟨hcz80_0, hfz80_0, hcz80_1, hfz80_1, hcz80_2, hfz80_2⟩ := bk3 BK159.out; obtain ⟨hcz81_0, hfz81_0, hcz81_1, hfz81_1, hcz81_2, hfz81_2⟩ := bk3 BK156.out) | (go_at_call 32; (with_reducible refine (spec_l15Color.calls _ _ l0_0 _ _ l0_1 a0_2 (rd ((rd_T44 l0_0 x23_2).f0) x54_4) t164 _ ?side1 ?side2 ?side3 ?side4 A69.out).mono ?_); (case side1 => exact lC (Kd.C_below HR0_0.out HB.out)); (case side2 => exact HC0_0.out); (case side3 => exact lC (Kd.C_below HR0_1.out HB.out)); (case side4 => exact HC0_1.out); rintro e w82 ⟨rfl, hb⟩; have n0_ := Aside0.mk (blk_below (lK BK156.out) hb); have n1_ := Aside0.mk (blk_below (lK BK159.out) hb); have n2_ := Aside0.mk (below_step lB hb); clear BK156; clear BK159; clear HB; have BK156 := n0_; have BK159 := n1_; have HB := n2_; clear n0_ n1_ n2_; (try clear hb); (try clear hb2); (try clear hk); (try clear hi)))
                     go_roundg k4
                     case measure => have := HJ1.out; have := HK2.out; have := HJ12.out; have := HK4.out; omega
                     case rel => exact ⟨(wrap64 (x54_4 + 1)), lF, H', ⟨by have := HJ1.out; have := HK2.out; have := HJ12.out; have := HK4.out; omega⟩, ⟨lK BK156.out⟩, ⟨lK BK159.out⟩, ⟨lB⟩⟩
                   ·rw [if_neg c68] at H
                    have c68b0 : (((rd_T44 l0_0 x23_2).f1) == 2) = false := beq_eq_false_iff_ne.mpr c68
                    have c68b1 : (((rd_T44 l0_0 x23_2).f1) != 2) = true := bne_iff_ne.mpr c68
                    have H' := Aside0.mk H
                    clear H
                    have p161 : 0 ≤ (x54_4 : Int) := lD
                    have q161 : x54_4 < (((rd_T44 l0_0 x23_2).f0).length : Int) := lD
                    obtain ⟨ad161, e161, hx161_0⟩ := Kd.at_int HR158_0.out x54_4 p161 q161
                    cases e161
                    replace hx161_0 := pw_cell_below HB.out hx161_0
                    replace p161 := eq_true p161
                    replace q161 := eq_true q161
                    have hnb83 := NB156_159.out
                    have hnc83 := NB159_156.out
                    obtain ⟨hcz84_0, hfz84_0, hcz84_1, hfz84_1, hcz84_2, hfz84_2⟩ := bk3 BK156.out
                    go_wp2_with (first | ((with_reducible refine gate_callee (f := 31) rfl ?_); refine gl_ (some 60) (Try.func31) #[.agg #[.slice (some ad158) l0_0.length c0_0, .slice A0_1 l0_1.length c0_1, .bool a0_2], .int .i64 (rd ((rd_T44 l0_0 x23_2).f0) x54_4)] ?_; (with_reducible refine (spec_l15Cell.calls _ _ l0_0 _ _ l0_1 a0_2 (rd ((rd_T44 l0_0 x23_2).f0) x54_4) true _ ?side1 ?side2 ?side3 ?side4 A41.out).mono ?_); (case side1 => exact lC (Kd.C_below HR0_0.out HB.out)); (case side2 => exact HC0_0.out); (case side3 => exact lC (Kd.C_below HR0_1.out HB.out)); (case side4 => exact HC0_1.out); rintro e w85 ⟨rfl, hb⟩; refine ⟨_, rfl, ?_⟩; have n0_ := Aside0.mk (blk_below (lK BK156.out) hb); have n1_ := Aside0.mk (blk_below (lK BK159.out) hb); have n2_ := Aside0.mk (below_step lB hb); clear BK156; clear BK159; clear HB; have BK156 := n0_; have BK159 := n1_; have HB := n2_; clear n0_ n1_ n2_; (try clear hb); (try clear hb2); (try clear hk); (try clear hi); obtain ⟨hcz86_0, hfz86_0, hcz86_1, hfz86_1, hcz86_2, hfz86_2⟩ := bk3 BK159.out))
                    go_roundg k4
                    case measure => have := HJ1.out; have := HK2.out; have := HJ12.out; have := HK4.out; omega
                    case rel => exact ⟨(wrap64 (x54_4 + 1)), lF, H', ⟨by have := HJ1.out; have := HK2.out; have := HJ12.out; have := HK4.out; omega⟩, ⟨lK BK156.out⟩, ⟨lK BK159.out⟩, ⟨lB⟩⟩
                 ·replace c42 := Bool.eq_false_iff.mpr c42
                  subst c42
                  rw [if_neg (show ¬ (false = true) by decide)] at H
                  obtain rfl := Option.some.inj H
                  have p161 : 0 ≤ (x54_4 : Int) := lD
                  have q161 : x54_4 < (((rd_T44 l0_0 x23_2).f0).length : Int) := lD
                  obtain ⟨ad161, e161, hx161_0⟩ := Kd.at_int HR158_0.out x54_4 p161 q161
                  cases e161
                  replace hx161_0 := pw_cell_below HB.out hx161_0
                  replace p161 := eq_true p161
                  replace q161 := eq_true q161
                  have hnb87 := NB156_159.out
                  have hnc87 := NB159_156.out
                  obtain ⟨hcz88_0, hfz88_0, hcz88_1, hfz88_1, hcz88_2, hfz88_2⟩ := bk3 BK156.out
                  go_wp2_with (first | ((with_reducible refine gate_callee (f := 31) rfl ?_); refine gl_ (some 60) (Try.func31) #[.agg #[.slice (some ad158) l0_0.length c0_0, .slice A0_1 l0_1.length c0_1, .bool a0_2], .int .i64 (rd ((rd_T44 l0_0 x23_2).f0) x54_4)] ?_; (with_reducible refine (spec_l15Cell.calls _ _ l0_0 _ _ l0_1 a0_2 (rd ((rd_T44 l0_0 x23_2).f0) x54_4) false _ ?side1 ?side2 ?side3 ?side4 A41.out).mono ?_); (case side1 => exact lC (Kd.C_below HR0_0.out HB.out)); (case side2 => exact HC0_0.out); (case side3 => exact lC (Kd.C_below HR0_1.out HB.out)); (case side4 => exact HC0_1.out); rintro e w89 ⟨rfl, hb⟩; refine ⟨_, rfl, ?_⟩; have n0_ := Aside0.mk (blk_below (lK BK156.out) hb); have n1_ := Aside0.mk (blk_below (lK BK159.out) hb); have n2_ := Aside0.mk (below_step lB hb); clear BK156; clear BK159; clear HB; have BK156 := n0_; have BK159 := n1_; have HB := n2_; clear n0_ n1_ n2_; (try clear hb); (try clear hb2); (try clear hk); (try clear hi)))
                  go_ret
                  exact ⟨lE, lB⟩
                ·rw [if_neg c40] at H
                 exact absurd H (by simp)
               ·rw [if_neg c39] at H
                exact absurd H (by simp)
              ·rw [if_neg c38] at H
               have c38b0 : decide (x54_4 < (((rd_T44 l0_0 x23_2).f0).length : Int)) = false := decide_eq_false c38
               clear c38
               have H' := Aside0.mk H
               clear H
               go_wp2
               go_roundg k4
               case measure => have := HJ1.out; have := HK2.out; have := HJ12.out; have := HK4.out; omega
               case rel => exact ⟨(wrap64 (x23_2 + 1)), lF, H', ⟨by have := HJ1.out; have := HK2.out; have := HJ12.out; have := HK4.out; omega⟩, ⟨lK BK156.out⟩, ⟨lB⟩⟩
        ·rw [if_neg c12] at H
         exact absurd H (by simp)
       ·rw [if_neg c11] at H
        exact absurd H (by simp)
      ·rw [if_neg c10] at H
       have c10b0 : decide (x23_2 < (l0_0.length : Int)) = false := decide_eq_false c10
       clear c10
       have H' := Aside0.mk H
       clear H
       obtain ⟨hcz90_0, hfz90_0, hcz90_1, hfz90_1, hcz90_2, hfz90_2⟩ := bk3 BK156.out
       go_wp2
       go_loopg [86] k2 (fun kq v86 w' => ∃ (x86_3 : Int), v86 = .int .i64 x86_3 ∧ Aside0 (spec_GoodMarker.l2 kq l0_1 (l0_1.length : Int) x86_3 l0_0 l0_1 a0_2 = some r) ∧ Aside0 (kq ≤ k2) ∧ Aside0 (w'.heap[gb156]? = some (.cells #[(.slice A0_0 l0_0.length c0_0), (.slice A0_1 l0_1.length c0_1), .bool a0_2] 25 (0, 0))) ∧ Aside0 (Below w.heap.size w w'))
       case atStart => exact ⟨(0), lF, H', ⟨Nat.le_refl _⟩, ⟨lK BK156.out⟩, ⟨lB⟩⟩
       case round =>
        clear H'
        try clear c1
        try clear p1
        try clear q1
        try clear hx1
        try clear c2
        try clear p2
        try clear q2
        try clear c3
        try clear c4
        try clear c5
        try clear c6
        try clear p6
        try clear c7
        try clear c8
        try clear c10
        try clear c10b0
        try clear c11
        try clear c11b0
        try clear c12
        try clear c12b0
        try clear c13
        try clear c15
        try clear p15
        try clear q15
        try clear hx15
        try clear p16
        try clear q16
        try clear hx16
        try clear c17
        try clear c17b0
        try clear c17b1
        try clear c19
        try clear q20
        try clear c21
        try clear c22
        try clear c23
        try clear c24
        try clear c25
        try clear c28
        try clear c31
        try clear c33
        try clear c35
        try clear c36
        try clear c38
        try clear c38b0
        try clear c39
        try clear c39b0
        try clear c40
        try clear c40b0
        try clear c42
        try clear c43
        try clear c43b0
        try clear c44
        try clear c44b0
        try clear c44b1
        try clear c45
        try clear c45b0
        try clear c45b1
        try clear c47
        try clear c47b0
        try clear c47b1
        try clear c48
        try clear c54
        try clear c60
        try clear c64
        try clear p64
        try clear c68
        try clear c68b0
        try clear c68b1
        try clear c70
        try clear c70b0
        try clear c70b1
        try clear c71
        try clear c77
        try clear c83
        try clear c87
        try clear hcz16_0 hcz16_1 hcz16_2
        try clear hcz23_0 hcz23_1 hcz23_2
        try clear hcz26_0 hcz26_1 hcz26_2
        try clear hcz27_0 hcz27_1 hcz27_2
        try clear hcz29_0 hcz29_1 hcz29_2
        try clear hcz30_0 hcz30_1 hcz30_2
        try clear hcz32_0 hcz32_1 hcz32_2
        try clear hcz34_0 hcz34_1 hcz34_2
        try clear hcz37_0 hcz37_1 hcz37_2
        try clear hcz49_0 hcz49_1 hcz49_2
        try clear hcz51_0 hcz51_1 hcz51_2
        try clear hcz52_0 hcz52_1 hcz52_2
        try clear hcz55_0 hcz55_1 hcz55_2
        try clear hcz57_0 hcz57_1 hcz57_2
        try clear hcz58_0 hcz58_1 hcz58_2
        try clear hcz61_0 hcz61_1 hcz61_2
        try clear hcz63_0 hcz63_1 hcz63_2
        try clear hcz65_0 hcz65_1 hcz65_2
        try clear hcz67_0 hcz67_1 hcz67_2
        try clear hcz6_0 hcz6_1 hcz6_2
        try clear hcz72_0 hcz72_1 hcz72_2
        try clear hcz74_0 hcz74_1 hcz74_2
        try clear hcz75_0 hcz75_1 hcz75_2
        try clear hcz78_0 hcz78_1 hcz78_2
        try clear hcz7_0 hcz7_1 hcz7_2
        try clear hcz80_0 hcz80_1 hcz80_2
        try clear hcz81_0 hcz81_1 hcz81_2
        try clear hcz84_0 hcz84_1 hcz84_2
        try clear hcz86_0 hcz86_1 hcz86_2
        try clear hcz88_0 hcz88_1 hcz88_2
        try clear hcz90_0 hcz90_1 hcz90_2
        try clear hcz9_0 hcz9_1 hcz9_2
        try clear hfz16_0 hfz16_1 hfz16_2
        try clear hfz23_0 hfz23_1 hfz23_2
        try clear hfz26_0 hfz26_1 hfz26_2
        try clear hfz27_0 hfz27_1 hfz27_2
        try clear hfz29_0 hfz29_1 hfz29_2
        try clear hfz30_0 hfz30_1 hfz30_2
        try clear hfz32_0 hfz32_1 hfz32_2
        try clear hfz34_0 hfz34_1 hfz34_2
        try clear hfz37_0 hfz37_1 hfz37_2
        try clear hfz49_0 hfz49_1 hfz49_2
        try clear hfz51_0 hfz51_1 hfz51_2
        try clear hfz52_0 hfz52_1 hfz52_2
        try clear hfz55_0 hfz55_1 hfz55_2
        try clear hfz57_0 hfz57_1 hfz57_2
        try clear hfz58_0 hfz58_1 hfz58_2
        try clear hfz61_0 hfz61_1 hfz61_2
        try clear hfz63_0 hfz63_1 hfz63_2
        try clear hfz65_0 hfz65_1 hfz65_2
        try clear hfz67_0 hfz67_1 hfz67_2
        try clear hfz6_0 hfz6_1 hfz6_2
        try clear hfz72_0 hfz72_1 hfz72_2
        try clear hfz74_0 hfz74_1 hfz74_2
        try clear hfz75_0 hfz75_1 hfz75_2
        try clear hfz78_0 hfz78_1 hfz78_2
        try clear hfz7_0 hfz7_1 hfz7_2
        try clear hfz80_0 hfz80_1 hfz80_2
        try clear hfz81_0 hfz81_1 hfz81_2
        try clear hfz84_0 hfz84_1 hfz84_2
        try clear hfz86_0 hfz86_1 hfz86_2
        try clear hfz88_0 hfz88_1 hfz88_2
        try clear hfz90_0 hfz90_1 hfz90_2
        try clear hfz9_0 hfz9_1 hfz9_2
        try clear hx158_0
        try clear hx158_1
        try clear hx158_2
        try clear hx161_0
        try clear p1
        try clear p15
        try clear p158
        try clear p161
        try clear p2
        try clear q1
        try clear q15
        try clear q158
        try clear q161
        try clear q2
        try clear q20
        obtain ⟨x86_3, rfl, HA, HK3, BK156, HB⟩ := hrel
        cases gk with
        | zero => exact absurd HA.out (by simp [spec_GoodMarker.l2])
        | succ k3 =>
         have H := HA.out
         clear HA
         simp only [spec_GoodMarker.l2] at H
         by_cases c91 : x86_3 < (l0_1.length : Int)
         ·rw [if_pos c91] at H
          have c91b0 : decide (x86_3 < (l0_1.length : Int)) = true := decide_eq_true c91
          clear c91
          by_cases c92 : 0 ≤ x86_3
          ·rw [if_pos c92] at H
           have c92b0 : decide (0 ≤ x86_3) = true := decide_eq_true c92
           clear c92
           by_cases c93 : x86_3 < (l0_1.length : Int)
           ·rw [if_pos c93] at H
            have c93b0 : decide (x86_3 < (l0_1.length : Int)) = true := decide_eq_true c93
            clear c93
            replace H := lO H
            obtain ⟨t166, A94, H⟩ := H
            by_cases c95 : t166 = true
            ·subst c95
             rw [if_pos rfl] at H
             by_cases c96 : a0_2 = true
             ·subst c96
              rw [if_pos rfl] at H
              replace H := lO H
              obtain ⟨t167, A97, H⟩ := H
              by_cases c98 : t167 = 0
              ·rw [if_pos c98] at H
               have c98b0 : (t167 == 0) = true := beq_iff_eq.mpr c98
               have c98b1 : (t167 != 0) = false := bne_eq_false_iff_eq.mpr c98
               clear c98
               obtain rfl := Option.some.inj H
               have p165 : 0 ≤ (x86_3 : Int) := lD
               have q165 : x86_3 < (l0_1.length : Int) := lD
               obtain ⟨ad165, e165, hx165_0⟩ := Kd.at_int HR0_1.out x86_3 p165 q165
               cases e165
               replace hx165_0 := pw_cell_below HB.out hx165_0
               replace p165 := eq_true p165
               replace q165 := eq_true q165
               obtain ⟨hcz99_0, hfz99_0, hcz99_1, hfz99_1, hcz99_2, hfz99_2⟩ := bk3 BK156.out
               go_wp2_with (first | ((with_reducible refine gate_callee (f := 31) rfl ?_); refine gl_ (some 92) (Try.func31) #[.agg #[.slice A0_0 l0_0.length c0_0, .slice (some ad165) l0_1.length c0_1, .bool true], .int .i64 (rd l0_1 x86_3)] ?_; (with_reducible refine (spec_l15Cell.calls _ _ l0_0 _ _ l0_1 true (rd l0_1 x86_3) true _ ?side1 ?side2 ?side3 ?side4 A94.out).mono ?_); (case side1 => exact lC (Kd.C_below HR0_0.out HB.out)); (case side2 => exact HC0_0.out); (case side3 => exact lC (Kd.C_below HR0_1.out HB.out)); (case side4 => exact HC0_1.out); rintro e w100 ⟨rfl, hb⟩; refine ⟨_, rfl, ?_⟩; have n0_ := Aside0.mk (blk_below (lK BK156.out) hb); have n1_ := Aside0.mk (below_step lB hb); clear BK156; clear HB; have BK156 := n0_; have HB := n1_; clear n0_ n1_; (try clear hb); (try clear hb2); (try clear hk); (try clear hi); obtain ⟨hcz101_0, hfz101_0, hcz101_1, hfz101_1, hcz101_2, hfz101_2⟩ := bk3 BK156.out) | (go_at_call 32; (with_reducible refine (spec_l15Color.calls _ _ l0_0 _ _ l0_1 true (rd l0_1 x86_3) t167 _ ?side1 ?side2 ?side3 ?side4 A97.out).mono ?_); (case side1 => exact lC (Kd.C_below HR0_0.out HB.out)); (case side2 => exact HC0_0.out); (case side3 => exact lC (Kd.C_below HR0_1.out HB.out)); (case side4 => exact HC0_1.out); rintro e w102 ⟨rfl, hb⟩; have n0_ := Aside0.mk (blk_below (lK BK156.out) hb); have n1_ := Aside0.mk (below_step lB hb); clear BK156; clear HB; have BK156 := n0_; have HB := n1_; clear n0_ n1_; (try clear hb); (try clear hb2); (try clear hk); (try clear hi)))
               go_ret
               exact ⟨lE, lB⟩
              ·rw [if_neg c98] at H
               have c98b0 : (t167 == 0) = false := beq_eq_false_iff_ne.mpr c98
               have c98b1 : (t167 != 0) = true := bne_iff_ne.mpr c98
               have H' := Aside0.mk H
               clear H
               have p165 : 0 ≤ (x86_3 : Int) := lD
               have q165 : x86_3 < (l0_1.length : Int) := lD
               obtain ⟨ad165, e165, hx165_0⟩ := Kd.at_int HR0_1.out x86_3 p165 q165
               cases e165
               replace hx165_0 := pw_cell_below HB.out hx165_0
               replace p165 := eq_true p165
               replace q165 := eq_true q165
               obtain ⟨hcz103_0, hfz103_0, hcz103_1, hfz103_1, hcz103_2, hfz103_2⟩ := bk3 BK156.out
               go_wp2_with (first | ((with_reducible refine gate_callee (f := 31) rfl ?_); refine gl_ (some 92) (Try.func31) #[.agg #[.slice A0_0 l0_0.length c0_0, .slice (some ad165) l0_1.length c0_1, .bool true], .int .i64 (rd l0_1 x86_3)] ?_; (with_reducible refine (spec_l15Cell.calls _ _ l0_0 _ _ l0_1 true (rd l0_1 x86_3) true _ ?side1 ?side2 ?side3 ?side4 A94.out).mono ?_); (case side1 => exact lC (Kd.C_below HR0_0.out HB.out)); (case side2 => exact HC0_0.out); (case side3 => exact lC (Kd.C_below HR0_1.out HB.out)); (case side4 => exact HC0_1.out); rintro e w104 ⟨rfl, hb⟩; refine ⟨_, rfl, ?_⟩; have n0_ := Aside0.mk (blk_below (lK BK156.out) hb); have n1_ := Aside0.mk (below_step lB hb); clear BK156; clear HB; have BK156 := n0_; have HB := n1_; clear n0_ n1_; (try clear hb); (try clear hb2); (try clear hk); (try clear hi); obtain ⟨hcz105_0, hfz105_0, hcz105_1, hfz105_1, hcz105_2, hfz105_2⟩ := bk3 BK156.out) | (go_at_call 32; (with_reducible refine (spec_l15Color.calls _ _ l0_0 _ _ l0_1 true (rd l0_1 x86_3) t167 _ ?side1 ?side2 ?side3 ?side4 A97.out).mono ?_); (case side1 => exact lC (Kd.C_below HR0_0.out HB.out)); (case side2 => exact HC0_0.out); (case side3 => exact lC (Kd.C_below HR0_1.out HB.out)); (case side4 => exact HC0_1.out); rintro e w106 ⟨rfl, hb⟩; have n0_ := Aside0.mk (blk_below (lK BK156.out) hb); have n1_ := Aside0.mk (below_step lB hb); clear BK156; clear HB; have BK156 := n0_; have HB := n1_; clear n0_ n1_; (try clear hb); (try clear hb2); (try clear hk); (try clear hi)))
               go_roundg k3
               case measure => have := HJ1.out; have := HK2.out; have := HK3.out; omega
               case rel => exact ⟨(wrap64 (x86_3 + 1)), lF, H', ⟨by have := HJ1.out; have := HK2.out; have := HK3.out; omega⟩, ⟨lK BK156.out⟩, ⟨lB⟩⟩
             ·replace c96 := Bool.eq_false_iff.mpr c96
              subst c96
              rw [if_neg (show ¬ (false = true) by decide)] at H
              have H' := Aside0.mk H
              clear H
              have p165 : 0 ≤ (x86_3 : Int) := lD
              have q165 : x86_3 < (l0_1.length : Int) := lD
              obtain ⟨ad165, e165, hx165_0⟩ := Kd.at_int HR0_1.out x86_3 p165 q165
              cases e165
              replace hx165_0 := pw_cell_below HB.out hx165_0
              replace p165 := eq_true p165
              replace q165 := eq_true q165
              obtain ⟨hcz107_0, hfz107_0, hcz107_1, hfz107_1, hcz107_2, hfz107_2⟩ := bk3 BK156.out
              go_wp2_with (first | ((with_reducible refine gate_callee (f := 31) rfl ?_); refine gl_ (some 92) (Try.func31) #[.agg #[.slice A0_0 l0_0.length c0_0, .slice (some ad165) l0_1.length c0_1, .bool false], .int .i64 (rd l0_1 x86_3)] ?_; (with_reducible refine (spec_l15Cell.calls _ _ l0_0 _ _ l0_1 false (rd l0_1 x86_3) true _ ?side1 ?side2 ?side3 ?side4 A94.out).mono ?_); (case side1 => exact lC (Kd.C_below HR0_0.out HB.out)); (case side2 => exact HC0_0.out); (case side3 => exact lC (Kd.C_below HR0_1.out HB.out)); (case side4 => exact HC0_1.out); rintro e w108 ⟨rfl, hb⟩; refine ⟨_, rfl, ?_⟩; have n0_ := Aside0.mk (blk_below (lK BK156.out) hb); have n1_ := Aside0.mk (below_step lB hb); clear BK156; clear HB; have BK156 := n0_; have HB := n1_; clear n0_ n1_; (try clear hb); (try clear hb2); (try clear hk); (try clear hi); obtain ⟨hcz109_0, hfz109_0, hcz109_1, hfz109_1, hcz109_2, hfz109_2⟩ := bk3 BK156.out))
              go_roundg k3
              case measure => have := HJ1.out; have := HK2.out; have := HK3.out; omega
              case rel => exact ⟨(wrap64 (x86_3 + 1)), lF, H', ⟨by have := HJ1.out; have := HK2.out; have := HK3.out; omega⟩, ⟨lK BK156.out⟩, ⟨lB⟩⟩
            ·replace c95 := Bool.eq_false_iff.mpr c95
             subst c95
             rw [if_neg (show ¬ (false = true) by decide)] at H
             obtain rfl := Option.some.inj H
             have p165 : 0 ≤ (x86_3 : Int) := lD
             have q165 : x86_3 < (l0_1.length : Int) := lD
             obtain ⟨ad165, e165, hx165_0⟩ := Kd.at_int HR0_1.out x86_3 p165 q165
             cases e165
             replace hx165_0 := pw_cell_below HB.out hx165_0
             replace p165 := eq_true p165
             replace q165 := eq_true q165
             obtain ⟨hcz110_0, hfz110_0, hcz110_1, hfz110_1, hcz110_2, hfz110_2⟩ := bk3 BK156.out
             go_wp2_with (first | ((with_reducible refine gate_callee (f := 31) rfl ?_); refine gl_ (some 92) (Try.func31) #[.agg #[.slice A0_0 l0_0.length c0_0, .slice (some ad165) l0_1.length c0_1, .bool a0_2], .int .i64 (rd l0_1 x86_3)] ?_; (with_reducible refine (spec_l15Cell.calls _ _ l0_0 _ _ l0_1 a0_2 (rd l0_1 x86_3) false _ ?side1 ?side2 ?side3 ?side4 A94.out).mono ?_); (case side1 => exact lC (Kd.C_below HR0_0.out HB.out)); (case side2 => exact HC0_0.out); (case side3 => exact lC (Kd.C_below HR0_1.out HB.out)); (case side4 => exact HC0_1.out); rintro e w111 ⟨rfl, hb⟩; refine ⟨_, rfl, ?_⟩; have n0_ := Aside0.mk (blk_below (lK BK156.out) hb); have n1_ := Aside0.mk (below_step lB hb); clear BK156; clear HB; have BK156 := n0_; have HB := n1_; clear n0_ n1_; (try clear hb); (try clear hb2); (try clear hk); (try clear hi)))
             go_ret
             exact ⟨lE, lB⟩
           ·rw [if_neg c93] at H
            exact absurd H (by simp)
          ·rw [if_neg c92] at H
           exact absurd H (by simp)
         ·rw [if_neg c91] at H
          have c91b0 : decide (x86_3 < (l0_1.length : Int)) = false := decide_eq_false c91
          clear c91
          obtain rfl := Option.some.inj H
          first | (go_wp2; go_ret; exact ⟨lE, lB⟩) | (exfalso; simp only [decide_eq_false_iff_not, decide_eq_true_eq] at *; omega)

end Go.Proofs.Ytmgnnegmohmbhaa.Q
