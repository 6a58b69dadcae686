-- Written by the program wip/tools/pr.py of this claim's session, over the kit's print.py.
import Derived.Test.YtjmgleomljfieaaQx0
import Derived.Test.YtjmgleomljfieaaQx6
namespace Go.Proofs.Ytjmgleomljfieaa.Q
open Go.RowKit Go.Proofs.YtjmgleomljfieaaW.PrintWords Go.Proofs.YtjmgleomljfieaaW.PrintLast Go.Proofs.YtjmgleomljfieaaW.PrintMore
attribute [local go_sem] max2_int min2_int max_two min_two max_three min_three max_four min_four   -- for this text's walks alone
set_option linter.unusedVariables false
set_option linter.unusedSimpArgs false

/-! ### slices_IndexFunc_int_int: function 92 -/
-- slices.IndexFunc, whatever is asked
set_option maxHeartbeats 800000 in
set_option maxRecDepth 100000 in
theorem idx92_ (g : Nat) (caps : Array Value) (eg : ∀ args w, (callFunc g args).run Try.prog w = .ok (.enter g args) w) (p : Int → Option Bool) (A0 : Option Addr) (c0 : Nat) (l0 : List Int) (w : World) (hr0 : Kd.C (Kd.int .i64) w A0 l0.length l0)
    (hp : ∀ (W : World) (x : Int) (b : Bool), Below w.heap.size w W → p x = some b → Calls Try.prog g (#[.int .i64 x] ++ caps) W fun e w' => e = .returned (.bool b) ∧ Below W.heap.size W w') (r : Int) (h : Kit.idxO p l0 0 = some r) :
    Calls Try.prog 92 #[.slice A0 l0.length c0, .func (.func g) #[] caps] w fun e w' => e = .returned (.int .i64 r) ∧ Below w.heap.size w w' := by
  have HR := Aside0.mk hr0
  have HP := Aside0.mk hp
  have HH := Aside0.mk h
  have hbig := hr0.2.1
  clear hr0 hp h
  go_enter Try.func92, Try.ntmps92
  go_wp2
  go_loopg [5, 8] l0.length (fun gg _ s8 wr => ∃ kk : Nat, kk ≤ l0.length ∧ l0.length - kk ≤ gg ∧ s8 = .int .i64 kk ∧ Aside0 (Below w.heap.size w wr) ∧ Aside0 (Kit.idxO p (l0.drop kk) kk = some r))
  case atStart => exact ⟨0, Nat.zero_le _, by omega, rfl, ⟨Below.refl _ _⟩, ⟨by simpa using HH.out⟩⟩
  case round =>
    obtain ⟨kk, hkk, hg, rfl, HB, HI⟩ := hrel
    by_cases hlt : kk < l0.length
    · have hltz : (kk : Int) < (l0.length : Int) := by omega
      have hd0 : decide (kk < l0.length) = true := decide_eq_true hlt
      obtain ⟨ad, e_, hx0⟩ := Kd.at_int HR.out (kk : Int) (by omega) (by omega)
      cases e_
      replace hx0 := pw_cell_below HB.out hx0
      simp only [Int.toNat_natCast] at hx0
      have hd : l0.drop kk = rd l0 (kk : Int) :: l0.drop (kk + 1) := by
        rw [List.drop_eq_getElem_cons hlt]; simp [rd, List.getD, hlt]
      generalize rd l0 (kk : Int) = y at hd hx0
      have HI' := HI.out
      rw [hd] at HI'
      simp only [Kit.idxO] at HI'
      obtain ⟨b, hb, hI⟩ := Option.bind_eq_some_iff.1 HI'
      have hcall := HP.out wr y b HB.out hb
      have HIb := Aside0.mk hI
      clear hI HI' hb hd HI
      cases b with
      | true =>
        go_wp2_with fail
        refine hcall.mono ?_
        rintro e w2 ⟨rfl, hb2⟩
        clear hcall
        go_wp2_with fail
        go_ret
        have hI := HIb.out
        simp only [if_true, Option.some.injEq] at hI
        exact ⟨by subst hI; rfl, HB.out.trans (hb2.mono HB.out.size)⟩
      | false =>
        go_wp2_with fail
        refine hcall.mono ?_
        rintro e w2 ⟨rfl, hb2⟩
        clear hcall
        go_wp2_with fail
        go_roundg (l0.length - (kk + 1))
        case measure => omega
        case rel => exact ⟨kk + 1, by omega, by omega, by go_num, ⟨HB.out.trans (hb2.mono HB.out.size)⟩, ⟨by simpa using HIb.out⟩⟩
    · have hltz : ¬ (kk : Int) < (l0.length : Int) := by omega
      have hd0 : decide (kk < l0.length) = false := decide_eq_false hlt
      have hkl : kk = l0.length := by omega
      have hI := HI.out
      rw [hkl, List.drop_length] at hI
      simp [Kit.idxO] at hI
      clear HI hkl
      have HR2 := Aside0.mk hI
      clear hI
      go_wp2
      go_ret
      exact ⟨by have e_ := HR2.out; subst e_; rfl, HB.out⟩

/-! ### slices_ContainsFunc_int_int: function 82 -/
-- slices.ContainsFunc, whatever is asked
set_option maxHeartbeats 800000 in
set_option maxRecDepth 100000 in
theorem cnt82_ (g : Nat) (caps : Array Value) (eg : ∀ args w, (callFunc g args).run Try.prog w = .ok (.enter g args) w) (p : Int → Option Bool) (A0 : Option Addr) (c0 : Nat) (l0 : List Int) (w : World) (hr0 : Kd.C (Kd.int .i64) w A0 l0.length l0)
    (hp : ∀ (W : World) (x : Int) (b : Bool), Below w.heap.size w W → p x = some b → Calls Try.prog g (#[.int .i64 x] ++ caps) W fun e w' => e = .returned (.bool b) ∧ Below W.heap.size W w') (r : Bool) (h : Kit.anyO p l0 = some r) :
    Calls Try.prog 82 #[.slice A0 l0.length c0, .func (.func g) #[] caps] w fun e w' => e = .returned (.bool r) ∧ Below w.heap.size w w' := by
  obtain ⟨i, hi, hri⟩ := Kit.idxO_any p l0 0 r h
  have hcall := idx92_ g caps eg p A0 c0 l0 w hr0 hp i hi
  have HI := Aside0.mk hri
  clear hri hi h hp hr0
  go_enter Try.func82, Try.ntmps82
  go_wp2_with fail
  refine hcall.mono ?_
  rintro e w2 ⟨rfl, hb2⟩
  clear hcall
  go_wp2
  go_ret
  exact ⟨by rw [HI.out]; rfl, hb2⟩
def slices_ContainsFunc_int_int.f (l0 : List Int) (a1 : Nat) : Option (Bool) := if a1 = 83 then Kit.anyO (fun x : Int => impl_isWorld_1.f x) l0 else none
theorem slices_ContainsFunc_int_int.calls (A0 : Option Addr) (c0 : Nat) (l0 : List Int) (a1 : Nat) (r : Bool) (w : World) (hr0 : Kd.C (Kd.int .i64) w A0 l0.length l0) (hc0 : l0.length ≤ c0) (h : slices_ContainsFunc_int_int.f l0 a1 = some r) :
    Calls Try.prog 82 #[.slice A0 l0.length c0, .func (.func a1) #[] #[]] w fun e w' => e = .returned (.bool r) ∧ Below w.heap.size w w' := by
  unfold slices_ContainsFunc_int_int.f at h
  by_cases e_ : a1 = 83
  · subst e_
    rw [if_pos rfl] at h
    exact cnt82_ 83 #[] (enters_of Try.func83 (by kernel_rfl) rfl) (fun x : Int => impl_isWorld_1.f x) A0 c0 l0 w hr0 (fun W x b hW hx => (impl_isWorld_1.calls x b W  hx).mono fun e w' ⟨he, hd⟩ => ⟨he, hd.below⟩) r h
  · rw [if_neg e_] at h
    clear e_
    exact absurd h (by simp)

/-! ### impl_isWorld: function 56 -/
def impl_isWorld.l0 : Nat → List (S82) → Int → Int → List (S82) → Int → Option (Bool)
 | 0, _, _, _, _, _ => none
 | k + 1, x6, x7, x8, x258000, x258001 => if x8 < x7 then (if 0 ≤ x8 then (if x8 < (x6.length : Int) then ((impl_in.f ((rd_T82 x6 x8).f0) (-1) (wrap64 (x8 - 1))).bind fun t262 => (if t262 = true then (if (((rd_T82 x6 x8).f1).length : Int) = 5 then ((slices_ContainsFunc_int_int.f ((rd_T82 x6 x8).f1) 83).bind fun t263 => (if t263 = true then (some false) else (impl_isWorld.l0 k x6 x7 (wrap64 (x8 + 1)) x258000 x258001))) else (some false)) else (some false))) else (none)) else (none)) else ((impl_in.f (x258000.length : Int) 1 8).bind fun t258 => (if t258 = true then ((impl_in.f x258001 0 1000000).bind fun t259 => (some t259)) else (some false)))
def impl_isWorld.f (k : Nat) (l0_0 : List (S82)) (a0_1 : Int) : Option (Bool) := impl_isWorld.l0 k l0_0 (l0_0.length : Int) 0 l0_0 a0_1
theorem impl_isWorld.mono_l : ∀ k, (∀ y0 y1 y2 y3 y4, LeO (impl_isWorld.l0 k y0 y1 y2 y3 y4) (impl_isWorld.l0 (k + 1) y0 y1 y2 y3 y4))
 | 0 => fun _ _ _ _ _ r h => by simp [impl_isWorld.l0] at h
 | k + 1 => by
  have ih0 := impl_isWorld.mono_l k
  ·intro y0 y1 y2 y3 y4
   unfold impl_isWorld.l0
   repeat' first
   | with_reducible apply ih0
   | (with_reducible exact LeO.refl _)
   | (with_reducible exact LeO.none _)
   | (with_reducible refine LeO.ite ?_ ?_)
   | (with_reducible refine LeO.bind ?_ (fun _ => ?_))
   | apply ih0
   | exact LeO.none _
   | refine LeO.ite ?_ ?_
   | refine LeO.bind ?_ (fun _ => ?_)
theorem impl_isWorld.mono : ∀ a0 a1 k, LeO (impl_isWorld.f k a0 a1) (impl_isWorld.f (k + 1) a0 a1) := by
 intro a0 a1 k
 have ih0 := impl_isWorld.mono_l k
 unfold impl_isWorld.f
 repeat' first
   | with_reducible apply ih0
   | (with_reducible exact LeO.refl _)
   | (with_reducible exact LeO.none _)
   | (with_reducible refine LeO.ite ?_ ?_)
   | (with_reducible refine LeO.bind ?_ (fun _ => ?_))
   | apply ih0
   | exact LeO.none _
   | refine LeO.ite ?_ ?_
   | refine LeO.bind ?_ (fun _ => ?_)
set_option maxHeartbeats 8000000 in
set_option maxRecDepth 100000 in
theorem impl_isWorld.calls (k : Nat) (A0_0 : Option Addr) (c0_0 : Nat) (l0_0 : List (S82)) (a0_1 : Int) (r : Bool) (w : World) (hr0_0 : Kd.C k82 w A0_0 l0_0.length l0_0) (hc0_0 : l0_0.length ≤ c0_0) (h : impl_isWorld.f k l0_0 a0_1 = some r) :
  Calls Try.prog 56 #[.agg #[.slice A0_0 l0_0.length c0_0, .int .i64 a0_1]] w fun e w' => e = .returned (.bool r) ∧ Below w.heap.size w w' := by
 have hu29 := Try.underlying29
 have hu82 := Try.underlying82
 have HR0_0 := Aside0.mk hr0_0
 have HC0_0 := Aside0.mk hc0_0
 clear hr0_0 hc0_0
 have HB := Aside0.mk (Below.refl w.heap.size w)
 have H : (impl_isWorld.l0 k l0_0 (l0_0.length : Int) 0 l0_0 a0_1) = some r := h
 clear h
 have H' := Aside0.mk H
 clear H
 go_enter Try.func56, Try.ntmps56
 go_wp2_with (first | ((with_reducible refine gate_dst (N := 1) rfl ?_); (try (refine gate_guard (by rfl) ?_; dsimp only)); refine bxe 1 #[.slice A0_0 l0_0.length c0_0, .int .i64 a0_1] 29 ?_; intro gb257 hg w2 hbox hb; have n0_ := Aside0.mk (below_step lB hb); have n1_ := Aside0.mk (hbox); have n2_ := lG w hg; have n3_ := lG w hg; clear HB; have HB := n0_; have BK257 := n1_; have GW257 := n2_; have GE257 := n3_; clear n0_ n1_ n2_ n3_; clear hb hbox hg; obtain ⟨hcz3_0, hfz3_0, hcz3_1, hfz3_1⟩ := bk2 BK257.out))
 go_loopg [8] k (fun kq v8 w' => ∃ (x8_1 : Int), v8 = .int .i64 x8_1 ∧ Aside0 (impl_isWorld.l0 kq l0_0 (l0_0.length : Int) x8_1 l0_0 a0_1 = some r) ∧ Aside0 (kq ≤ k) ∧ Aside0 (w'.heap[gb257]? = some (.cells #[(.slice A0_0 l0_0.length c0_0), .int .i64 a0_1] 29 (0, 0))) ∧ Aside0 (Below w.heap.size w w'))
 case atStart => exact ⟨(0), lF, H', ⟨Nat.le_refl _⟩, ⟨lK BK257.out⟩, ⟨lB⟩⟩
 case round =>
  clear H'
  try clear p2
  try clear hcz3_0 hcz3_1 hfz3_0 hfz3_1
  obtain ⟨x8_1, rfl, HA, HK1, BK257, HB⟩ := hrel
  cases gk with
  | zero => exact absurd HA.out (by simp [impl_isWorld.l0])
  | succ k1 =>
   have H := HA.out
   clear HA
   simp only [impl_isWorld.l0] at H
   by_cases c4 : x8_1 < (l0_0.length : Int)
   ·rw [if_pos c4] at H
    have c4b0 : decide (x8_1 < (l0_0.length : Int)) = true := decide_eq_true c4
    clear c4
    by_cases c5 : 0 ≤ x8_1
    ·rw [if_pos c5] at H
     have c5b0 : decide (0 ≤ x8_1) = true := decide_eq_true c5
     clear c5
     by_cases c6 : x8_1 < (l0_0.length : Int)
     ·rw [if_pos c6] at H
      have c6b0 : decide (x8_1 < (l0_0.length : Int)) = true := decide_eq_true c6
      clear c6
      replace H := lO H
      obtain ⟨t262, A7, H⟩ := H
      by_cases c8 : t262 = true
      ·subst c8
       rw [if_pos rfl] at H
       by_cases c9 : (((rd_T82 l0_0 x8_1).f1).length : Int) = 5
       ·rw [if_pos c9] at H
        have c9b0 : ((((rd_T82 l0_0 x8_1).f1).length : Int) == 5) = true := beq_iff_eq.mpr c9
        have c9b1 : ((((rd_T82 l0_0 x8_1).f1).length : Int) != 5) = false := bne_eq_false_iff_eq.mpr c9
        clear c9
        replace H := lO H
        obtain ⟨t263, A10, H⟩ := H
        by_cases c11 : t263 = true
        ·subst c11
         rw [if_pos rfl] at H
         obtain rfl := Option.some.inj H
         have p260 : 0 ≤ (x8_1 : Int) := lD
         have q260 : x8_1 < (l0_0.length : Int) := lD
         obtain ⟨ad260, A260_1, c260_1, e260, hx260_0, hx260_1, hl260_1, hi260_1⟩ := at_T82 HR0_0.out x8_1 p260 q260
         cases e260
         replace hx260_0 := pw_cell_below HB.out hx260_0
         replace hx260_1 := pw_cell_below HB.out hx260_1
         have HR260_1 := Aside0.mk hi260_1
         have HC260_1 := Aside0.mk hl260_1
         clear hi260_1 hl260_1
         replace p260 := eq_true p260
         replace q260 := eq_true q260
         go_wp2_with (first | ((with_reducible refine gate_dst (N := 4) rfl ?_); (try (refine gate_guard (by rfl) ?_; dsimp only)); refine bxe 4 #[.int .i64 0, .slice none 0 0] 82 ?_; intro gb261 hg w12 hbox hb; have n0_ := Aside0.mk (blk_below (lK BK257.out) hb); have n1_ := Aside0.mk (below_step lB hb); have n2_ := Aside0.mk (hbox); have n3_ := lG w hg; have n4_ := lG w hg; have n5_ := Aside0.mk ((by rw [hg]; exact Nat.ne_of_lt (blk_lt (lK BK257.out)) : gb257 ≠ gb261)); have n6_ := Aside0.mk ((by rw [hg]; exact Nat.ne_of_gt (blk_lt (lK BK257.out)) : gb261 ≠ gb257)); clear BK257; clear HB; have BK257 := n0_; have HB := n1_; have BK261 := n2_; have GW261 := n3_; have GE261 := n4_; have NB257_261 := n5_; have NB261_257 := n6_; clear n0_ n1_ n2_ n3_ n4_ n5_ n6_; clear hb hbox hg; have hnb13 := NB261_257.out; have hnc13 := NB257_261.out; obtain ⟨hcz14_0, hfz14_0, hcz14_1, hfz14_1⟩ := bk2 BK261.out) | ((with_reducible refine gate_callee (f := 59) rfl ?_); refine gl_ (some 17) (Try.func59) #[.int .i64 ((rd_T82 l0_0 x8_1).f0), .int .i64 (-1), .int .i64 (wrap64 (x8_1 - 1))] ?_; (with_reducible refine (impl_in.calls ((rd_T82 l0_0 x8_1).f0) (-1) (wrap64 (x8_1 - 1)) true _ A7.out).mono ?_); rintro e w' ⟨rfl, ⟨nd, rfl⟩⟩; refine ⟨_, rfl, ?_⟩) | (go_at_call 82; (with_reducible refine (slices_ContainsFunc_int_int.calls _ _ ((rd_T82 l0_0 x8_1).f1) 83 true _ ?side1 ?side2 A10.out).mono ?_); (case side1 => exact Kd.C_below HR260_1.out lB); (case side2 => exact HC260_1.out); rintro e w15 ⟨rfl, hb⟩; have n0_ := Aside0.mk (blk_below (lJ BK257.out) hb); have n1_ := Aside0.mk (blk_below (g := gb261) (o := .cells #[.int .i64 ((rd_T82 l0_0 x8_1).f0), .slice A260_1 ((rd_T82 l0_0 x8_1).f1).length c260_1] 82 (0, 0)) (by (with_reducible repeat first | apply bN | apply bD | apply bA); refine blk_put (cs := #[.int .i64 ((rd_T82 l0_0 x8_1).f0), .slice none 0 0]) ?_ 1 _ rfl; (with_reducible repeat first | apply bN | apply bD | apply bA); refine blk_put (cs := #[.int .i64 0, .slice none 0 0]) ?_ 0 _ rfl; (with_reducible repeat first | apply bN | apply bD | apply bA); exact BK261.out) hb); have n2_ := Aside0.mk (below_step lB hb); clear BK257; clear BK261; clear HB; have BK257 := n0_; have BK261 := n1_; have HB := n2_; clear n0_ n1_ n2_; (try clear hb); (try clear hb2); (try clear hk); (try clear hi)))
         go_ret
         exact ⟨lE, lB⟩
        ·replace c11 := Bool.eq_false_iff.mpr c11
         subst c11
         rw [if_neg (show ¬ (false = true) by decide)] at H
         have H' := Aside0.mk H
         clear H
         have p260 : 0 ≤ (x8_1 : Int) := lD
         have q260 : x8_1 < (l0_0.length : Int) := lD
         obtain ⟨ad260, A260_1, c260_1, e260, hx260_0, hx260_1, hl260_1, hi260_1⟩ := at_T82 HR0_0.out x8_1 p260 q260
         cases e260
         replace hx260_0 := pw_cell_below HB.out hx260_0
         replace hx260_1 := pw_cell_below HB.out hx260_1
         have HR260_1 := Aside0.mk hi260_1
         have HC260_1 := Aside0.mk hl260_1
         clear hi260_1 hl260_1
         replace p260 := eq_true p260
         replace q260 := eq_true q260
         go_wp2_with (first | ((with_reducible refine gate_dst (N := 4) rfl ?_); (try (refine gate_guard (by rfl) ?_; dsimp only)); refine bxe 4 #[.int .i64 0, .slice none 0 0] 82 ?_; intro gb261 hg w16 hbox hb; have n0_ := Aside0.mk (blk_below (lK BK257.out) hb); have n1_ := Aside0.mk (below_step lB hb); have n2_ := Aside0.mk (hbox); have n3_ := lG w hg; have n4_ := lG w hg; have n5_ := Aside0.mk ((by rw [hg]; exact Nat.ne_of_lt (blk_lt (lK BK257.out)) : gb257 ≠ gb261)); have n6_ := Aside0.mk ((by rw [hg]; exact Nat.ne_of_gt (blk_lt (lK BK257.out)) : gb261 ≠ gb257)); clear BK257; clear HB; have BK257 := n0_; have HB := n1_; have BK261 := n2_; have GW261 := n3_; have GE261 := n4_; have NB257_261 := n5_; have NB261_257 := n6_; clear n0_ n1_ n2_ n3_ n4_ n5_ n6_; clear hb hbox hg; have hnb17 := NB261_257.out; have hnc17 := NB257_261.out; obtain ⟨hcz18_0, hfz18_0, hcz18_1, hfz18_1⟩ := bk2 BK261.out) | ((with_reducible refine gate_callee (f := 59) rfl ?_); refine gl_ (some 17) (Try.func59) #[.int .i64 ((rd_T82 l0_0 x8_1).f0), .int .i64 (-1), .int .i64 (wrap64 (x8_1 - 1))] ?_; (with_reducible refine (impl_in.calls ((rd_T82 l0_0 x8_1).f0) (-1) (wrap64 (x8_1 - 1)) true _ A7.out).mono ?_); rintro e w' ⟨rfl, ⟨nd, rfl⟩⟩; refine ⟨_, rfl, ?_⟩) | (go_at_call 82; (with_reducible refine (slices_ContainsFunc_int_int.calls _ _ ((rd_T82 l0_0 x8_1).f1) 83 false _ ?side1 ?side2 A10.out).mono ?_); (case side1 => exact Kd.C_below HR260_1.out lB); (case side2 => exact HC260_1.out); rintro e w19 ⟨rfl, hb⟩; have n0_ := Aside0.mk (blk_below (lJ BK257.out) hb); have n1_ := Aside0.mk (blk_below (g := gb261) (o := .cells #[.int .i64 ((rd_T82 l0_0 x8_1).f0), .slice A260_1 ((rd_T82 l0_0 x8_1).f1).length c260_1] 82 (0, 0)) (by (with_reducible repeat first | apply bN | apply bD | apply bA); refine blk_put (cs := #[.int .i64 ((rd_T82 l0_0 x8_1).f0), .slice none 0 0]) ?_ 1 _ rfl; (with_reducible repeat first | apply bN | apply bD | apply bA); refine blk_put (cs := #[.int .i64 0, .slice none 0 0]) ?_ 0 _ rfl; (with_reducible repeat first | apply bN | apply bD | apply bA); exact BK261.out) hb); have n2_ := Aside0.mk (below_step lB hb); clear BK257; clear BK261; clear HB; have BK257 := n0_; have BK261 := n1_; have HB := n2_; clear n0_ n1_ n2_; (try clear hb); (try clear hb2); (try clear hk); (try clear hi)))
         go_roundg k1
         case measure => have := HK1.out; omega
         case rel => exact ⟨(wrap64 (x8_1 + 1)), lF, H', ⟨by have := HK1.out; omega⟩, ⟨lK BK257.out⟩, ⟨lB⟩⟩
       ·rw [if_neg c9] at H
        have c9b0 : ((((rd_T82 l0_0 x8_1).f1).length : Int) == 5) = false := beq_eq_false_iff_ne.mpr c9
        have c9b1 : ((((rd_T82 l0_0 x8_1).f1).length : Int) != 5) = true := bne_iff_ne.mpr c9
        obtain rfl := Option.some.inj H
        have p260 : 0 ≤ (x8_1 : Int) := lD
        have q260 : x8_1 < (l0_0.length : Int) := lD
        obtain ⟨ad260, A260_1, c260_1, e260, hx260_0, hx260_1, hl260_1, hi260_1⟩ := at_T82 HR0_0.out x8_1 p260 q260
        cases e260
        replace hx260_0 := pw_cell_below HB.out hx260_0
        replace hx260_1 := pw_cell_below HB.out hx260_1
        have HR260_1 := Aside0.mk hi260_1
        have HC260_1 := Aside0.mk hl260_1
        clear hi260_1 hl260_1
        replace p260 := eq_true p260
        replace q260 := eq_true q260
        go_wp2_with (first | ((with_reducible refine gate_dst (N := 4) rfl ?_); (try (refine gate_guard (by rfl) ?_; dsimp only)); refine bxe 4 #[.int .i64 0, .slice none 0 0] 82 ?_; intro gb261 hg w20 hbox hb; have n0_ := Aside0.mk (blk_below (lK BK257.out) hb); have n1_ := Aside0.mk (below_step lB hb); have n2_ := Aside0.mk (hbox); have n3_ := lG w hg; have n4_ := lG w hg; have n5_ := Aside0.mk ((by rw [hg]; exact Nat.ne_of_lt (blk_lt (lK BK257.out)) : gb257 ≠ gb261)); have n6_ := Aside0.mk ((by rw [hg]; exact Nat.ne_of_gt (blk_lt (lK BK257.out)) : gb261 ≠ gb257)); clear BK257; clear HB; have BK257 := n0_; have HB := n1_; have BK261 := n2_; have GW261 := n3_; have GE261 := n4_; have NB257_261 := n5_; have NB261_257 := n6_; clear n0_ n1_ n2_ n3_ n4_ n5_ n6_; clear hb hbox hg; have hnb21 := NB261_257.out; have hnc21 := NB257_261.out; obtain ⟨hcz22_0, hfz22_0, hcz22_1, hfz22_1⟩ := bk2 BK261.out) | ((with_reducible refine gate_callee (f := 59) rfl ?_); refine gl_ (some 17) (Try.func59) #[.int .i64 ((rd_T82 l0_0 x8_1).f0), .int .i64 (-1), .int .i64 (wrap64 (x8_1 - 1))] ?_; (with_reducible refine (impl_in.calls ((rd_T82 l0_0 x8_1).f0) (-1) (wrap64 (x8_1 - 1)) true _ A7.out).mono ?_); rintro e w' ⟨rfl, ⟨nd, rfl⟩⟩; refine ⟨_, rfl, ?_⟩))
        go_ret
        exact ⟨lE, lB⟩
      ·replace c8 := Bool.eq_false_iff.mpr c8
       subst c8
       rw [if_neg (show ¬ (false = true) by decide)] at H
       obtain rfl := Option.some.inj H
       have p260 : 0 ≤ (x8_1 : Int) := lD
       have q260 : x8_1 < (l0_0.length : Int) := lD
       obtain ⟨ad260, A260_1, c260_1, e260, hx260_0, hx260_1, hl260_1, hi260_1⟩ := at_T82 HR0_0.out x8_1 p260 q260
       cases e260
       replace hx260_0 := pw_cell_below HB.out hx260_0
       replace hx260_1 := pw_cell_below HB.out hx260_1
       have HR260_1 := Aside0.mk hi260_1
       have HC260_1 := Aside0.mk hl260_1
       clear hi260_1 hl260_1
       replace p260 := eq_true p260
       replace q260 := eq_true q260
       go_wp2_with (first | ((with_reducible refine gate_dst (N := 4) rfl ?_); (try (refine gate_guard (by rfl) ?_; dsimp only)); refine bxe 4 #[.int .i64 0, .slice none 0 0] 82 ?_; intro gb261 hg w23 hbox hb; have n0_ := Aside0.mk (blk_below (lK BK257.out) hb); have n1_ := Aside0.mk (below_step lB hb); have n2_ := Aside0.mk (hbox); have n3_ := lG w hg; have n4_ := lG w hg; have n5_ := Aside0.mk ((by rw [hg]; exact Nat.ne_of_lt (blk_lt (lK BK257.out)) : gb257 ≠ gb261)); have n6_ := Aside0.mk ((by rw [hg]; exact Nat.ne_of_gt (blk_lt (lK BK257.out)) : gb261 ≠ gb257)); clear BK257; clear HB; have BK257 := n0_; have HB := n1_; have BK261 := n2_; have GW261 := n3_; have GE261 := n4_; have NB257_261 := n5_; have NB261_257 := n6_; clear n0_ n1_ n2_ n3_ n4_ n5_ n6_; clear hb hbox hg; have hnb24 := NB261_257.out; have hnc24 := NB257_261.out; obtain ⟨hcz25_0, hfz25_0, hcz25_1, hfz25_1⟩ := bk2 BK261.out) | ((with_reducible refine gate_callee (f := 59) rfl ?_); refine gl_ (some 17) (Try.func59) #[.int .i64 ((rd_T82 l0_0 x8_1).f0), .int .i64 (-1), .int .i64 (wrap64 (x8_1 - 1))] ?_; (with_reducible refine (impl_in.calls ((rd_T82 l0_0 x8_1).f0) (-1) (wrap64 (x8_1 - 1)) false _ A7.out).mono ?_); rintro e w' ⟨rfl, ⟨nd, rfl⟩⟩; refine ⟨_, rfl, ?_⟩))
       go_ret
       exact ⟨lE, lB⟩
     ·rw [if_neg c6] at H
      exact absurd H (by simp)
    ·rw [if_neg c5] at H
     exact absurd H (by simp)
   ·rw [if_neg c4] at H
    have c4b0 : decide (x8_1 < (l0_0.length : Int)) = false := decide_eq_false c4
    clear c4
    replace H := lO H
    obtain ⟨t258, A26, H⟩ := H
    by_cases c27 : t258 = true
    ·subst c27
     rw [if_pos rfl] at H
     replace H := lO H
     obtain ⟨t259, A28, H⟩ := H
     obtain rfl := Option.some.inj H
     obtain ⟨hcz29_0, hfz29_0, hcz29_1, hfz29_1⟩ := bk2 BK257.out
     go_wp2_with (first | ((with_reducible refine gate_callee (f := 59) rfl ?_); refine gl_ (some 34) (Try.func59) #[.int .i64 (l0_0.length : Int), .int .i64 1, .int .i64 8] ?_; (with_reducible refine (impl_in.calls (l0_0.length : Int) 1 8 true _ A26.out).mono ?_); rintro e w' ⟨rfl, ⟨nd, rfl⟩⟩; refine ⟨_, rfl, ?_⟩) | (go_at_call 59; (with_reducible refine (impl_in.calls a0_1 0 1000000 t259 _ A28.out).mono ?_); rintro e w' ⟨rfl, ⟨nd, rfl⟩⟩))
     go_ret
     exact ⟨lE, lB⟩
    ·replace c27 := Bool.eq_false_iff.mpr c27
     subst c27
     rw [if_neg (show ¬ (false = true) by decide)] at H
     obtain rfl := Option.some.inj H
     obtain ⟨hcz30_0, hfz30_0, hcz30_1, hfz30_1⟩ := bk2 BK257.out
     go_wp2_with (first | ((with_reducible refine gate_callee (f := 59) rfl ?_); refine gl_ (some 34) (Try.func59) #[.int .i64 (l0_0.length : Int), .int .i64 1, .int .i64 8] ?_; (with_reducible refine (impl_in.calls (l0_0.length : Int) 1 8 false _ A26.out).mono ?_); rintro e w' ⟨rfl, ⟨nd, rfl⟩⟩; refine ⟨_, rfl, ?_⟩))
     go_ret
     exact ⟨lE, lB⟩

/-! ### impl_World_find: function 62 -/
def impl_World_find.l0 : Nat → Int → Int → List (S82) → Int → Option (Int)
 | 0, _, _, _, _ => none
 | k + 1, x1, x2, x265000, x265001 => if x1 ≥ 0 then (if 0 ≤ x1 then (if x1 < (x265000.length : Int) then (if 0 ≤ x2 then (if x2 < (((rd_T82 x265000 x1).f1).length : Int) then (if (rd ((rd_T82 x265000 x1).f1) x2) = 0 then (impl_World_find.l0 k ((rd_T82 x265000 x1).f0) x2 x265000 x265001) else (if x1 < 0 then (some 0) else (some (rd ((rd_T82 x265000 x1).f1) x2)))) else (none)) else (none)) else (none)) else (none)) else (if x1 < 0 then (some 0) else (if 0 ≤ x1 then (if x1 < (x265000.length : Int) then (if 0 ≤ x2 then (if x2 < (((rd_T82 x265000 x1).f1).length : Int) then (some (rd ((rd_T82 x265000 x1).f1) x2)) else (none)) else (none)) else (none)) else (none)))
def impl_World_find.f (k : Nat) (l0_0 : List (S82)) (a0_1 : Int) (a1 : Int) (a2 : Int) : Option (Int) := impl_World_find.l0 k a1 a2 l0_0 a0_1
theorem impl_World_find.mono_l : ∀ k, (∀ y0 y1 y2 y3, LeO (impl_World_find.l0 k y0 y1 y2 y3) (impl_World_find.l0 (k + 1) y0 y1 y2 y3))
 | 0 => fun _ _ _ _ r h => by simp [impl_World_find.l0] at h
 | k + 1 => by
  have ih0 := impl_World_find.mono_l k
  ·intro y0 y1 y2 y3
   unfold impl_World_find.l0
   repeat' first
   | with_reducible apply ih0
   | (with_reducible exact LeO.refl _)
   | (with_reducible exact LeO.none _)
   | (with_reducible refine LeO.ite ?_ ?_)
   | (with_reducible refine LeO.bind ?_ (fun _ => ?_))
   | apply ih0
   | exact LeO.none _
   | refine LeO.ite ?_ ?_
   | refine LeO.bind ?_ (fun _ => ?_)
theorem impl_World_find.mono : ∀ a0 a1 a2 a3 k, LeO (impl_World_find.f k a0 a1 a2 a3) (impl_World_find.f (k + 1) a0 a1 a2 a3) := by
 intro a0 a1 a2 a3 k
 have ih0 := impl_World_find.mono_l k
 unfold impl_World_find.f
 repeat' first
   | with_reducible apply ih0
   | (with_reducible exact LeO.refl _)
   | (with_reducible exact LeO.none _)
   | (with_reducible refine LeO.ite ?_ ?_)
   | (with_reducible refine LeO.bind ?_ (fun _ => ?_))
   | apply ih0
   | exact LeO.none _
   | refine LeO.ite ?_ ?_
   | refine LeO.bind ?_ (fun _ => ?_)
set_option maxHeartbeats 8000000 in
set_option maxRecDepth 100000 in
theorem impl_World_find.calls (k : Nat) (A0_0 : Option Addr) (c0_0 : Nat) (l0_0 : List (S82)) (a0_1 : Int) (a1 : Int) (a2 : Int) (r : Int) (w : World) (hr0_0 : Kd.C k82 w A0_0 l0_0.length l0_0) (hc0_0 : l0_0.length ≤ c0_0) (h : impl_World_find.f k l0_0 a0_1 a1 a2 = some r) :
  Calls Try.prog 62 #[.agg #[.slice A0_0 l0_0.length c0_0, .int .i64 a0_1], .int .i64 a1, .int .i64 a2] w fun e w' => e = .returned (.int .i64 r) ∧ Below w.heap.size w w' := by
 have hu29 := Try.underlying29
 have HR0_0 := Aside0.mk hr0_0
 have HC0_0 := Aside0.mk hc0_0
 clear hr0_0 hc0_0
 have HB := Aside0.mk (Below.refl w.heap.size w)
 have H : (impl_World_find.l0 k a1 a2 l0_0 a0_1) = some r := h
 clear h
 have H' := Aside0.mk H
 clear H
 go_enter Try.func62, Try.ntmps62
 go_wp2_with (first | ((with_reducible refine gate_dst (N := 3) rfl ?_); refine bxe 3 #[.slice A0_0 l0_0.length c0_0, .int .i64 a0_1] 29 ?_; intro gb264 hg w4 hbox hb; have n0_ := Aside0.mk (below_step lB hb); have n1_ := Aside0.mk (hbox); have n2_ := lG w hg; have n3_ := lG w hg; clear HB; have HB := n0_; have BK264 := n1_; have GW264 := n2_; have GE264 := n3_; clear n0_ n1_ n2_ n3_; clear hb hbox hg))
 go_loopg [1] k (fun kq v1 w' => ∃ (x1_1 : Int), v1 = .int .i64 x1_1 ∧ Aside0 (impl_World_find.l0 kq x1_1 a2 l0_0 a0_1 = some r) ∧ Aside0 (kq ≤ k) ∧ Aside0 (w'.heap[gb264]? = some (.cells #[(.slice A0_0 l0_0.length c0_0), .int .i64 a0_1] 29 (0, 0))) ∧ Aside0 (Below w.heap.size w w'))
 case atStart => exact ⟨(a1), lF, H', ⟨Nat.le_refl _⟩, ⟨lK BK264.out⟩, ⟨lB⟩⟩
 case round =>
  clear H'
  try clear p2
  obtain ⟨x1_1, rfl, HA, HK1, BK264, HB⟩ := hrel
  cases gk with
  | zero => exact absurd HA.out (by simp [impl_World_find.l0])
  | succ k1 =>
   have H := HA.out
   clear HA
   simp only [impl_World_find.l0] at H
   by_cases c5 : x1_1 ≥ 0
   ·rw [if_pos c5] at H
    have c5b0 : decide (0 ≤ x1_1) = true := decide_eq_true c5
    clear c5
    by_cases c6 : 0 ≤ x1_1
    ·rw [if_pos c6] at H
     have c6b0 : decide (0 ≤ x1_1) = true := decide_eq_true c6
     clear c6
     by_cases c7 : x1_1 < (l0_0.length : Int)
     ·rw [if_pos c7] at H
      have c7b0 : decide (x1_1 < (l0_0.length : Int)) = true := decide_eq_true c7
      clear c7
      by_cases c8 : 0 ≤ a2
      ·rw [if_pos c8] at H
       have c8b0 : decide (0 ≤ a2) = true := decide_eq_true c8
       clear c8
       by_cases c9 : a2 < (((rd_T82 l0_0 x1_1).f1).length : Int)
       ·rw [if_pos c9] at H
        have c9b0 : decide (a2 < (((rd_T82 l0_0 x1_1).f1).length : Int)) = true := decide_eq_true c9
        clear c9
        by_cases c10 : (rd ((rd_T82 l0_0 x1_1).f1) a2) = 0
        ·rw [if_pos c10] at H
         have c10b0 : ((rd ((rd_T82 l0_0 x1_1).f1) a2) == 0) = true := beq_iff_eq.mpr c10
         have c10b1 : ((rd ((rd_T82 l0_0 x1_1).f1) a2) != 0) = false := bne_eq_false_iff_eq.mpr c10
         clear c10
         have H' := Aside0.mk H
         clear H
         obtain ⟨hcz11_0, hfz11_0, hcz11_1, hfz11_1⟩ := bk2 BK264.out
         have p265 : 0 ≤ (x1_1 : Int) := lD
         have q265 : x1_1 < (l0_0.length : Int) := lD
         obtain ⟨ad265, A265_1, c265_1, e265, hx265_0, hx265_1, hl265_1, hi265_1⟩ := at_T82 HR0_0.out x1_1 p265 q265
         cases e265
         replace hx265_0 := pw_cell_below HB.out hx265_0
         replace hx265_1 := pw_cell_below HB.out hx265_1
         have HR265_1 := Aside0.mk hi265_1
         have HC265_1 := Aside0.mk hl265_1
         clear hi265_1 hl265_1
         replace p265 := eq_true p265
         replace q265 := eq_true q265
         have p266 : 0 ≤ (a2 : Int) := lD
         have q266 : a2 < (((rd_T82 l0_0 x1_1).f1).length : Int) := lD
         obtain ⟨ad266, e266, hx266_0⟩ := Kd.at_int HR265_1.out a2 p266 q266
         cases e266
         replace hx266_0 := pw_cell_below HB.out hx266_0
         replace p266 := eq_true p266
         replace q266 := eq_true q266
         have p267 : 0 ≤ (x1_1 : Int) := lD
         have q267 : x1_1 < (l0_0.length : Int) := lD
         obtain ⟨ad267, A267_1, c267_1, e267, hx267_0, hx267_1, hl267_1, hi267_1⟩ := at_T82 HR0_0.out x1_1 p267 q267
         obtain rfl : ad265 = ad267 := (by injection e267)
         replace hx267_0 := pw_cell_below HB.out hx267_0
         replace hx267_1 := pw_cell_below HB.out hx267_1
         have HR267_1 := Aside0.mk hi267_1
         have HC267_1 := Aside0.mk hl267_1
         clear hi267_1 hl267_1
         replace p267 := eq_true p267
         replace q267 := eq_true q267
         have ea_ := Option.some.inj (hx265_1.symm.trans hx267_1)
         injection ea_ with ea_ en_ ec_
         subst ea_
         subst ec_
         clear en_
         go_wp2
         go_roundg k1
         case measure => have := HK1.out; omega
         case rel => exact ⟨((rd_T82 l0_0 x1_1).f0), lF, H', ⟨by have := HK1.out; omega⟩, ⟨lK BK264.out⟩, ⟨lB⟩⟩
        ·rw [if_neg c10] at H
         have c10b0 : ((rd ((rd_T82 l0_0 x1_1).f1) a2) == 0) = false := beq_eq_false_iff_ne.mpr c10
         have c10b1 : ((rd ((rd_T82 l0_0 x1_1).f1) a2) != 0) = true := bne_iff_ne.mpr c10
         by_cases c12 : x1_1 < 0
         ·rw [if_pos c12] at H
          have c12b0 : decide (x1_1 < 0) = true := decide_eq_true c12
          clear c12
          obtain rfl := Option.some.inj H
          obtain ⟨hcz13_0, hfz13_0, hcz13_1, hfz13_1⟩ := bk2 BK264.out
          have p265 : 0 ≤ (x1_1 : Int) := lD
          have q265 : x1_1 < (l0_0.length : Int) := lD
          obtain ⟨ad265, A265_1, c265_1, e265, hx265_0, hx265_1, hl265_1, hi265_1⟩ := at_T82 HR0_0.out x1_1 p265 q265
          cases e265
          replace hx265_0 := pw_cell_below HB.out hx265_0
          replace hx265_1 := pw_cell_below HB.out hx265_1
          have HR265_1 := Aside0.mk hi265_1
          have HC265_1 := Aside0.mk hl265_1
          clear hi265_1 hl265_1
          replace p265 := eq_true p265
          replace q265 := eq_true q265
          have p266 : 0 ≤ (a2 : Int) := lD
          have q266 : a2 < (((rd_T82 l0_0 x1_1).f1).length : Int) := lD
          obtain ⟨ad266, e266, hx266_0⟩ := Kd.at_int HR265_1.out a2 p266 q266
          cases e266
          replace hx266_0 := pw_cell_below HB.out hx266_0
          replace p266 := eq_true p266
          replace q266 := eq_true q266
          first | (go_wp2; go_ret; exact ⟨lE, lB⟩) | (exfalso; simp only [decide_eq_false_iff_not, decide_eq_true_eq] at *; omega)
         ·rw [if_neg c12] at H
          have c12b0 : decide (x1_1 < 0) = false := decide_eq_false c12
          clear c12
          obtain rfl := Option.some.inj H
          obtain ⟨hcz14_0, hfz14_0, hcz14_1, hfz14_1⟩ := bk2 BK264.out
          have p265 : 0 ≤ (x1_1 : Int) := lD
          have q265 : x1_1 < (l0_0.length : Int) := lD
          obtain ⟨ad265, A265_1, c265_1, e265, hx265_0, hx265_1, hl265_1, hi265_1⟩ := at_T82 HR0_0.out x1_1 p265 q265
          cases e265
          replace hx265_0 := pw_cell_below HB.out hx265_0
          replace hx265_1 := pw_cell_below HB.out hx265_1
          have HR265_1 := Aside0.mk hi265_1
          have HC265_1 := Aside0.mk hl265_1
          clear hi265_1 hl265_1
          replace p265 := eq_true p265
          replace q265 := eq_true q265
          have p266 : 0 ≤ (a2 : Int) := lD
          have q266 : a2 < (((rd_T82 l0_0 x1_1).f1).length : Int) := lD
          obtain ⟨ad266, e266, hx266_0⟩ := Kd.at_int HR265_1.out a2 p266 q266
          cases e266
          replace hx266_0 := pw_cell_below HB.out hx266_0
          replace p266 := eq_true p266
          replace q266 := eq_true q266
          have p268 : 0 ≤ (x1_1 : Int) := lD
          have q268 : x1_1 < (l0_0.length : Int) := lD
          obtain ⟨ad268, A268_1, c268_1, e268, hx268_0, hx268_1, hl268_1, hi268_1⟩ := at_T82 HR0_0.out x1_1 p268 q268
          obtain rfl : ad265 = ad268 := (by injection e268)
          replace hx268_0 := pw_cell_below HB.out hx268_0
          replace hx268_1 := pw_cell_below HB.out hx268_1
          have HR268_1 := Aside0.mk hi268_1
          have HC268_1 := Aside0.mk hl268_1
          clear hi268_1 hl268_1
          replace p268 := eq_true p268
          replace q268 := eq_true q268
          have ea_ := Option.some.inj (hx265_1.symm.trans hx268_1)
          injection ea_ with ea_ en_ ec_
          subst ea_
          subst ec_
          clear en_
          have p269 : 0 ≤ (a2 : Int) := lD
          have q269 : a2 < (((rd_T82 l0_0 x1_1).f1).length : Int) := lD
          obtain ⟨ad269, e269, hx269_0⟩ := Kd.at_int HR268_1.out a2 p269 q269
          cases e269
          replace hx269_0 := pw_cell_below HB.out hx269_0
          replace p269 := eq_true p269
          replace q269 := eq_true q269
          first | (go_wp2; go_ret; exact ⟨lE, lB⟩) | (exfalso; simp only [decide_eq_false_iff_not, decide_eq_true_eq] at *; omega)
       ·rw [if_neg c9] at H
        exact absurd H (by simp)
      ·rw [if_neg c8] at H
       exact absurd H (by simp)
     ·rw [if_neg c7] at H
      exact absurd H (by simp)
    ·rw [if_neg c6] at H
     exact absurd H (by simp)
   ·rw [if_neg c5] at H
    have c5b0 : decide (0 ≤ x1_1) = false := decide_eq_false c5
    clear c5
    by_cases c15 : x1_1 < 0
    ·rw [if_pos c15] at H
     have c15b0 : decide (x1_1 < 0) = true := decide_eq_true c15
     clear c15
     obtain rfl := Option.some.inj H
     first | (go_wp2; go_ret; exact ⟨lE, lB⟩) | (exfalso; simp only [decide_eq_false_iff_not, decide_eq_true_eq] at *; omega)
    ·rw [if_neg c15] at H
     have c15b0 : decide (x1_1 < 0) = false := decide_eq_false c15
     clear c15
     by_cases c16 : 0 ≤ x1_1
     ·rw [if_pos c16] at H
      have c16b0 : decide (0 ≤ x1_1) = true := decide_eq_true c16
      clear c16
      by_cases c17 : x1_1 < (l0_0.length : Int)
      ·rw [if_pos c17] at H
       have c17b0 : decide (x1_1 < (l0_0.length : Int)) = true := decide_eq_true c17
       clear c17
       by_cases c18 : 0 ≤ a2
       ·rw [if_pos c18] at H
        have c18b0 : decide (0 ≤ a2) = true := decide_eq_true c18
        clear c18
        by_cases c19 : a2 < (((rd_T82 l0_0 x1_1).f1).length : Int)
        ·rw [if_pos c19] at H
         have c19b0 : decide (a2 < (((rd_T82 l0_0 x1_1).f1).length : Int)) = true := decide_eq_true c19
         clear c19
         obtain rfl := Option.some.inj H
         obtain ⟨hcz20_0, hfz20_0, hcz20_1, hfz20_1⟩ := bk2 BK264.out
         have p270 : 0 ≤ (x1_1 : Int) := lD
         have q270 : x1_1 < (l0_0.length : Int) := lD
         obtain ⟨ad270, A270_1, c270_1, e270, hx270_0, hx270_1, hl270_1, hi270_1⟩ := at_T82 HR0_0.out x1_1 p270 q270
         cases e270
         replace hx270_0 := pw_cell_below HB.out hx270_0
         replace hx270_1 := pw_cell_below HB.out hx270_1
         have HR270_1 := Aside0.mk hi270_1
         have HC270_1 := Aside0.mk hl270_1
         clear hi270_1 hl270_1
         replace p270 := eq_true p270
         replace q270 := eq_true q270
         have p271 : 0 ≤ (a2 : Int) := lD
         have q271 : a2 < (((rd_T82 l0_0 x1_1).f1).length : Int) := lD
         obtain ⟨ad271, e271, hx271_0⟩ := Kd.at_int HR270_1.out a2 p271 q271
         cases e271
         replace hx271_0 := pw_cell_below HB.out hx271_0
         replace p271 := eq_true p271
         replace q271 := eq_true q271
         first | (go_wp2; go_ret; exact ⟨lE, lB⟩) | (exfalso; simp only [decide_eq_false_iff_not, decide_eq_true_eq] at *; omega)
        ·rw [if_neg c19] at H
         exact absurd H (by simp)
       ·rw [if_neg c18] at H
        exact absurd H (by simp)
      ·rw [if_neg c17] at H
       exact absurd H (by simp)
     ·rw [if_neg c16] at H
      exact absurd H (by simp)

end Go.Proofs.Ytjmgleomljfieaa.Q
