-- Written by the program wip/tools/pr.py of this claim's session, over the kit's print.py.
import Derived.Test.YtgjojppbichaiaaQx0
namespace Go.Proofs.Ytgjojppbichaiaa.Q
open Go.RowKit Go.Proofs.YtgjojppbichaiaaW.PrintWords Go.Proofs.YtgjojppbichaiaaW.PrintLast Go.Proofs.YtgjojppbichaiaaW.PrintMore
attribute [local go_sem] max2_int min2_int max_two min_two max_three min_three max_four min_four   -- for this text's walks alone
set_option linter.unusedVariables false
set_option linter.unusedSimpArgs false
def IsS114 (w0 W : World) (g : Nat) (f0 : List Int) (f1 : Int) (f2 : Int) : Prop := ∃ A0 c0, W.heap[g]? = some (.cells #[.slice A0 f0.length c0, .int .i64 f1, .int .u64 f2] 114 (0, 0)) ∧ w0.heap.size ≤ g ∧ Kd.C (Kd.int .u8) w0 A0 f0.length f0
theorem IsS114.grown {w0 W : World} {g : Nat} {f0 : List Int} {f1 : Int} {f2 : Int} {W1 : World} {row : Option Nat} (h : IsS114 w0 W g f0 f1 f2) (hw : W.grownBy W1 row) (hne : some g ≠ row) : IsS114 w0 W1 g f0 f1 f2 := by
 obtain ⟨A0, c0, hb, hg, hr0⟩ := h
 exact ⟨A0, c0, blk_grown hb hw hne, hg, hr0⟩
theorem IsS114.kept {w0 W : World} {g : Nat} {f0 : List Int} {f1 : Int} {f2 : Int} {W1 : World} {S : Nat → Prop} (h : IsS114 w0 W g f0 f1 f2) (hk : Kept W W1 S) (hne : ¬ S g) : IsS114 w0 W1 g f0 f1 f2 := by
 obtain ⟨A0, c0, hb, hg, hr0⟩ := h
 exact ⟨A0, c0, blk_kept hb hk hne, hg, hr0⟩
theorem IsS114.below {w0 W : World} {g : Nat} {f0 : List Int} {f1 : Int} {f2 : Int} {W1 : World} (h : IsS114 w0 W g f0 f1 f2) (hw : Below W.heap.size W W1) : IsS114 w0 W1 g f0 f1 f2 := h.grown (grown_of_below hw none) (by simp)
theorem IsS114.alloc {w0 W : World} {g : Nat} {f0 : List Int} {f1 : Int} {f2 : Int} (h : IsS114 w0 W g f0 f1 f2) (o : Obj) : IsS114 w0 (W.alloc o) g f0 f1 f2 := h.below (below_alloc (Below.refl _ _) o)
theorem IsS114.drewN {w0 W : World} {g : Nat} {f0 : List Int} {f1 : Int} {f2 : Int} (h : IsS114 w0 W g f0 f1 f2) (m : Nat) : IsS114 w0 (W.drewN m) g f0 f1 f2 := h
theorem IsS114.drew {w0 W : World} {g : Nat} {f0 : List Int} {f1 : Int} {f2 : Int} (h : IsS114 w0 W g f0 f1 f2) : IsS114 w0 W.drew g f0 f1 f2 := h
theorem IsS114.at_ {w0 W : World} {g : Nat} {f0 : List Int} {f1 : Int} {f2 : Int} {w' : World} {m : Nat} (hq : W.drewN m = w') (h : IsS114 w0 W g f0 f1 f2) : IsS114 w0 w' g f0 f1 f2 := by subst hq; exact IsS114.drewN h m
theorem IsS114.apart {w0 W : World} {g : Nat} {f0 : List Int} {f1 : Int} {f2 : Int} {α : Type} {d : Kd α} {e : Nat} {base : Nat} {ok : Nat → Prop} {v : Value} {xs : List α} (h : IsS114 w0 W g f0 f1 f2) (ho : d.R e W base ok v xs) (ht : ∀ q, q ∈ e :: d.E → q ≠ 114) : d.R e W base (fun k => ok k ∧ k ≠ g) v xs := by
 obtain ⟨A0, c0, hb, hg, hr0⟩ := h
 exact Kd.R_types ho hb ht
theorem IsS114.own_ne {w0 W : World} {g : Nat} {f0 : List Int} {f1 : Int} {f2 : Int} {α : Type} {d : Kd α} {e : Nat} {base : Nat} {ok : Nat → Prop} {v : Value} {xs : List α} (h : IsS114 w0 W g f0 f1 f2) (ho : d.R e W base ok v xs) (ht : e ≠ 114) : some g ≠ v.ownBlock := by
 obtain ⟨A0, c0, hb, hg, hr0⟩ := h
 exact Kd.R_ne ho hb ht
theorem IsS114.lt {w0 W : World} {g : Nat} {f0 : List Int} {f1 : Int} {f2 : Int} (h : IsS114 w0 W g f0 f1 f2) : g < W.heap.size := by
 obtain ⟨A0, c0, hb, hg, hr0⟩ := h
 exact blk_lt hb
theorem IsS114.ge {w0 W : World} {g : Nat} {f0 : List Int} {f1 : Int} {f2 : Int} (h : IsS114 w0 W g f0 f1 f2) : w0.heap.size ≤ g := by
 obtain ⟨A0, c0, hb, hg, hr0⟩ := h
 exact hg
theorem IsS114.far {w0 W : World} {g : Nat} {f0 : List Int} {f1 : Int} {f2 : Int} {p : Addr} (h : IsS114 w0 W g f0 f1 f2) (hne : g ≠ p.block) (u : Value) : IsS114 w0 (W.setCell p u) g f0 f1 f2 := by
 obtain ⟨A0, c0, hb, hg, hr0⟩ := h
 exact ⟨A0, c0, blk_far hb hne u, hg, hr0⟩
theorem cellS114_0 {W : World} {g : Nat} {A0 : Option Addr} {c0 : Nat} {f0 : List Int} {f1 : Int} {f2 : Int} (h : W.heap[g]? = some (.cells #[.slice A0 f0.length c0, .int .i64 f1, .int .u64 f2] 114 (0, 0))) : W.cell? ⟨g, 0, none⟩ = some (.slice A0 f0.length c0) := (blk_cell h 0).trans rfl
theorem cellS114_1 {W : World} {g : Nat} {A0 : Option Addr} {c0 : Nat} {f0 : List Int} {f1 : Int} {f2 : Int} (h : W.heap[g]? = some (.cells #[.slice A0 f0.length c0, .int .i64 f1, .int .u64 f2] 114 (0, 0))) : W.cell? ⟨g, 1, none⟩ = some (.int .i64 f1) := (blk_cell h 1).trans rfl
theorem IsS114.set_1 {w0 W : World} {g : Nat} {f0 : List Int} {f1 : Int} {f2 : Int} (h : IsS114 w0 W g f0 f1 f2) (x : Int) : IsS114 w0 (W.setCell ⟨g, 1, none⟩ (.int .i64 x)) g f0 x f2 := by
 obtain ⟨A0, c0, hb, hg, hr0⟩ := h
 exact ⟨A0, c0, by simpa using blk_set hb 1 (.int .i64 x), hg, hr0⟩
theorem cellS114_2 {W : World} {g : Nat} {A0 : Option Addr} {c0 : Nat} {f0 : List Int} {f1 : Int} {f2 : Int} (h : W.heap[g]? = some (.cells #[.slice A0 f0.length c0, .int .i64 f1, .int .u64 f2] 114 (0, 0))) : W.cell? ⟨g, 2, none⟩ = some (.int .u64 f2) := (blk_cell h 2).trans rfl
theorem IsS114.set_2 {w0 W : World} {g : Nat} {f0 : List Int} {f1 : Int} {f2 : Int} (h : IsS114 w0 W g f0 f1 f2) (x : Int) : IsS114 w0 (W.setCell ⟨g, 2, none⟩ (.int .u64 x)) g f0 f1 x := by
 obtain ⟨A0, c0, hb, hg, hr0⟩ := h
 exact ⟨A0, c0, by simpa using blk_set hb 2 (.int .u64 x), hg, hr0⟩
def spec_l1Cur_next.f (s0_0 : List Int) (s0_1 : Int) (s0_2 : Int) : Option (Int × Int × Int) := if s0_1 < (s0_0.length : Int) then (if 0 ≤ s0_1 then (if (wrap64 (s0_1 + 1)) ≤ (s0_0.length : Int) then (some (wrap64 (rd s0_0 s0_1), wrap64 (s0_1 + 1), IntKind.u64.wrap ((IntKind.u64.wrap ((IntKind.u64.wrap (s0_2 * 6364136223846793005)) + (IntKind.u64.wrap (wrap64 (rd s0_0 s0_1))))) + 1442695040888963407))) else (some (wrap64 (Go.bits .and .u64 ((IntKind.u64.wrap ((IntKind.u64.wrap ((IntKind.u64.wrap (s0_2 * 6364136223846793005)) + (IntKind.u64.wrap (wrap64 (rd s0_0 s0_1))))) + 1442695040888963407)) / 1099511627776) 255), wrap64 (s0_1 + 1), IntKind.u64.wrap ((IntKind.u64.wrap ((IntKind.u64.wrap (s0_2 * 6364136223846793005)) + (IntKind.u64.wrap (wrap64 (rd s0_0 s0_1))))) + 1442695040888963407)))) else (none)) else (if (wrap64 (s0_1 + 1)) ≤ (s0_0.length : Int) then (some (0, wrap64 (s0_1 + 1), IntKind.u64.wrap ((IntKind.u64.wrap ((IntKind.u64.wrap (s0_2 * 6364136223846793005)) + 0)) + 1442695040888963407))) else (some (wrap64 (Go.bits .and .u64 ((IntKind.u64.wrap ((IntKind.u64.wrap ((IntKind.u64.wrap (s0_2 * 6364136223846793005)) + 0)) + 1442695040888963407)) / 1099511627776) 255), wrap64 (s0_1 + 1), IntKind.u64.wrap ((IntKind.u64.wrap ((IntKind.u64.wrap (s0_2 * 6364136223846793005)) + 0)) + 1442695040888963407))))
set_option maxHeartbeats 8000000 in
set_option maxRecDepth 100000 in
theorem spec_l1Cur_next.calls (g : Nat) (s0_0 : List Int) (s0_1 : Int) (s0_2 : Int) (r1 : Int) (r2 : Int) (r3 : Int) (w0 w : World) (hI : IsS114 w0 w g s0_0 s0_1 s0_2) (hB : Below w0.heap.size w0 w) (h : spec_l1Cur_next.f s0_0 s0_1 s0_2 = some (r1, r2, r3)) :
  Calls Try.prog 91 #[.pointer (some ⟨g, 0, none⟩)] w fun e w' => e = .returned (.int .i64 r1) ∧ IsS114 w0 w' g s0_0 r2 r3 ∧ Below w0.heap.size w0 w' ∧ KeepBut w w' g none := by
 have HI0 := Aside0.mk hI
 have HK := Aside0.mk (KeepBut.refl w g none)
 have HL := Aside0.mk hB.size
 clear hI
 have HW0 := Aside0.mk hB.size
 have HB := Aside0.mk hB
 clear hB
 have H : (if s0_1 < (s0_0.length : Int) then (if 0 ≤ s0_1 then (if (wrap64 (s0_1 + 1)) ≤ (s0_0.length : Int) then (some (wrap64 (rd s0_0 s0_1), wrap64 (s0_1 + 1), IntKind.u64.wrap ((IntKind.u64.wrap ((IntKind.u64.wrap (s0_2 * 6364136223846793005)) + (IntKind.u64.wrap (wrap64 (rd s0_0 s0_1))))) + 1442695040888963407))) else (some (wrap64 (Go.bits .and .u64 ((IntKind.u64.wrap ((IntKind.u64.wrap ((IntKind.u64.wrap (s0_2 * 6364136223846793005)) + (IntKind.u64.wrap (wrap64 (rd s0_0 s0_1))))) + 1442695040888963407)) / 1099511627776) 255), wrap64 (s0_1 + 1), IntKind.u64.wrap ((IntKind.u64.wrap ((IntKind.u64.wrap (s0_2 * 6364136223846793005)) + (IntKind.u64.wrap (wrap64 (rd s0_0 s0_1))))) + 1442695040888963407)))) else (none)) else (if (wrap64 (s0_1 + 1)) ≤ (s0_0.length : Int) then (some (0, wrap64 (s0_1 + 1), IntKind.u64.wrap ((IntKind.u64.wrap ((IntKind.u64.wrap (s0_2 * 6364136223846793005)) + 0)) + 1442695040888963407))) else (some (wrap64 (Go.bits .and .u64 ((IntKind.u64.wrap ((IntKind.u64.wrap ((IntKind.u64.wrap (s0_2 * 6364136223846793005)) + 0)) + 1442695040888963407)) / 1099511627776) 255), wrap64 (s0_1 + 1), IntKind.u64.wrap ((IntKind.u64.wrap ((IntKind.u64.wrap (s0_2 * 6364136223846793005)) + 0)) + 1442695040888963407))))) = some (r1, r2, r3) := h
 clear h
 by_cases c2 : s0_1 < (s0_0.length : Int)
 ·rw [if_pos c2] at H
  have c2b0 : decide (s0_1 < (s0_0.length : Int)) = true := decide_eq_true c2
  clear c2
  by_cases c3 : 0 ≤ s0_1
  ·rw [if_pos c3] at H
   have c3b0 : decide (0 ≤ s0_1) = true := decide_eq_true c3
   clear c3
   by_cases c4 : (wrap64 (s0_1 + 1)) ≤ (s0_0.length : Int)
   ·rw [if_pos c4] at H
    have c4b0 : decide ((wrap64 (s0_1 + 1)) ≤ (s0_0.length : Int)) = true := decide_eq_true c4
    clear c4
    simp only [Option.some.injEq, Prod.mk.injEq] at H
    obtain ⟨rfl, rfl, rfl⟩ := H
    obtain ⟨ASz5_0, cSz5_0, HGz5, hgz5, HSz5_0⟩ := HI0.out
    have hcz5_0 := cellS114_0 HGz5
    have hcz5_1 := cellS114_1 HGz5
    have hcz5_2 := cellS114_2 HGz5
    have hfz5_1 := blk_frozen HGz5 1
    have hfz5_2 := blk_frozen HGz5 2
    clear HGz5 hgz5
    have p240 : 0 ≤ (s0_1 : Int) := lD
    have q240 : s0_1 < (s0_0.length : Int) := lD
    obtain ⟨ad240, e240, hx240_0⟩ := Kd.at_int HSz5_0 s0_1 p240 q240
    cases e240
    replace hx240_0 := pw_cell_below HB.out hx240_0
    replace p240 := eq_true p240
    replace q240 := eq_true q240
    go_enter Try.func91, Try.ntmps91
    go_wp2
    repeat (go_quiet (fail); try go_wp2)
    go_ret
    (try simp only [Int.add_zero])
    exact ⟨lE, by repeat (first | (with_reducible first | exact HI0.out | apply IsS114.alloc | apply IsS114.drewN | apply IsS114.drew | apply IsS114.set_1 | apply IsS114.set_2) | exact HI0.out), by repeat (first | (with_reducible first | exact HB.out | apply below_alloc | apply pw_below_drewN | apply below_drew1 | refine below_set ?_ (IsS114.ge HI0.out)) | exact HB.out), by repeat (first | (with_reducible first | exact HK.out | apply KeepBut.set_ | apply keep_drewN | apply keep_drew | apply keep_alloc) | exact HK.out)⟩
   ·rw [if_neg c4] at H
    have c4b0 : decide ((wrap64 (s0_1 + 1)) ≤ (s0_0.length : Int)) = false := decide_eq_false c4
    clear c4
    simp only [Option.some.injEq, Prod.mk.injEq] at H
    obtain ⟨rfl, rfl, rfl⟩ := H
    obtain ⟨ASz6_0, cSz6_0, HGz6, hgz6, HSz6_0⟩ := HI0.out
    have hcz6_0 := cellS114_0 HGz6
    have hcz6_1 := cellS114_1 HGz6
    have hcz6_2 := cellS114_2 HGz6
    have hfz6_1 := blk_frozen HGz6 1
    have hfz6_2 := blk_frozen HGz6 2
    clear HGz6 hgz6
    have p240 : 0 ≤ (s0_1 : Int) := lD
    have q240 : s0_1 < (s0_0.length : Int) := lD
    obtain ⟨ad240, e240, hx240_0⟩ := Kd.at_int HSz6_0 s0_1 p240 q240
    cases e240
    replace hx240_0 := pw_cell_below HB.out hx240_0
    replace p240 := eq_true p240
    replace q240 := eq_true q240
    go_enter Try.func91, Try.ntmps91
    go_wp2
    repeat (go_quiet (fail); try go_wp2)
    go_ret
    (try simp only [Int.add_zero])
    exact ⟨lE, by repeat (first | (with_reducible first | exact HI0.out | apply IsS114.alloc | apply IsS114.drewN | apply IsS114.drew | apply IsS114.set_1 | apply IsS114.set_2) | exact HI0.out), by repeat (first | (with_reducible first | exact HB.out | apply below_alloc | apply pw_below_drewN | apply below_drew1 | refine below_set ?_ (IsS114.ge HI0.out)) | exact HB.out), by repeat (first | (with_reducible first | exact HK.out | apply KeepBut.set_ | apply keep_drewN | apply keep_drew | apply keep_alloc) | exact HK.out)⟩
  ·rw [if_neg c3] at H
   exact absurd H (by simp)
 ·rw [if_neg c2] at H
  have c2b0 : decide (s0_1 < (s0_0.length : Int)) = false := decide_eq_false c2
  clear c2
  by_cases c7 : (wrap64 (s0_1 + 1)) ≤ (s0_0.length : Int)
  ·rw [if_pos c7] at H
   have c7b0 : decide ((wrap64 (s0_1 + 1)) ≤ (s0_0.length : Int)) = true := decide_eq_true c7
   clear c7
   simp only [Option.some.injEq, Prod.mk.injEq] at H
   obtain ⟨rfl, rfl, rfl⟩ := H
   obtain ⟨ASz8_0, cSz8_0, HGz8, hgz8, HSz8_0⟩ := HI0.out
   have hcz8_0 := cellS114_0 HGz8
   have hcz8_1 := cellS114_1 HGz8
   have hcz8_2 := cellS114_2 HGz8
   have hfz8_1 := blk_frozen HGz8 1
   have hfz8_2 := blk_frozen HGz8 2
   clear HGz8 hgz8
   go_enter Try.func91, Try.ntmps91
   go_wp2
   repeat (go_quiet (fail); try go_wp2)
   go_ret
   (try simp only [Int.add_zero])
   exact ⟨lE, by repeat (first | (with_reducible first | exact HI0.out | apply IsS114.alloc | apply IsS114.drewN | apply IsS114.drew | apply IsS114.set_1 | apply IsS114.set_2) | exact HI0.out), by repeat (first | (with_reducible first | exact HB.out | apply below_alloc | apply pw_below_drewN | apply below_drew1 | refine below_set ?_ (IsS114.ge HI0.out)) | exact HB.out), by repeat (first | (with_reducible first | exact HK.out | apply KeepBut.set_ | apply keep_drewN | apply keep_drew | apply keep_alloc) | exact HK.out)⟩
  ·rw [if_neg c7] at H
   have c7b0 : decide ((wrap64 (s0_1 + 1)) ≤ (s0_0.length : Int)) = false := decide_eq_false c7
   clear c7
   simp only [Option.some.injEq, Prod.mk.injEq] at H
   obtain ⟨rfl, rfl, rfl⟩ := H
   obtain ⟨ASz9_0, cSz9_0, HGz9, hgz9, HSz9_0⟩ := HI0.out
   have hcz9_0 := cellS114_0 HGz9
   have hcz9_1 := cellS114_1 HGz9
   have hcz9_2 := cellS114_2 HGz9
   have hfz9_1 := blk_frozen HGz9 1
   have hfz9_2 := blk_frozen HGz9 2
   clear HGz9 hgz9
   go_enter Try.func91, Try.ntmps91
   go_wp2
   repeat (go_quiet (fail); try go_wp2)
   go_ret
   (try simp only [Int.add_zero])
   exact ⟨lE, by repeat (first | (with_reducible first | exact HI0.out | apply IsS114.alloc | apply IsS114.drewN | apply IsS114.drew | apply IsS114.set_1 | apply IsS114.set_2) | exact HI0.out), by repeat (first | (with_reducible first | exact HB.out | apply below_alloc | apply pw_below_drewN | apply below_drew1 | refine below_set ?_ (IsS114.ge HI0.out)) | exact HB.out), by repeat (first | (with_reducible first | exact HK.out | apply KeepBut.set_ | apply keep_drewN | apply keep_drew | apply keep_alloc) | exact HK.out)⟩
def spec_l1Cur_pick.f (s0_0 : List Int) (s0_1 : Int) (s0_2 : Int) (a1 : Int) : Option (Int × Int × Int) := if a1 ≤ 1 then (some (0, s0_1, s0_2)) else ((spec_l1Cur_next.f s0_0 s0_1 s0_2).bind fun bt241 => (if a1 > 200 then ((spec_l1Cur_next.f s0_0 bt241.2.1 bt241.2.2).bind fun bt244 => (if a1 = 0 then (none) else (some (Int.tmod (wrap64 ((wrap64 (bt241.1 * 256)) + bt244.1)) a1, bt244.2.1, bt244.2.2)))) else (if a1 = 0 then (none) else (some (Int.tmod bt241.1 a1, bt241.2.1, bt241.2.2)))))
set_option maxHeartbeats 8000000 in
set_option maxRecDepth 100000 in
theorem spec_l1Cur_pick.calls (g : Nat) (s0_0 : List Int) (s0_1 : Int) (s0_2 : Int) (a1 : Int) (r1 : Int) (r2 : Int) (r3 : Int) (w0 w : World) (hI : IsS114 w0 w g s0_0 s0_1 s0_2) (hB : Below w0.heap.size w0 w) (h : spec_l1Cur_pick.f s0_0 s0_1 s0_2 a1 = some (r1, r2, r3)) :
  Calls Try.prog 72 #[.pointer (some ⟨g, 0, none⟩), .int .i64 a1] w fun e w' => e = .returned (.int .i64 r1) ∧ IsS114 w0 w' g s0_0 r2 r3 ∧ Below w0.heap.size w0 w' ∧ KeepBut w w' g none := by
 have HI0 := Aside0.mk hI
 have HK := Aside0.mk (KeepBut.refl w g none)
 have HL := Aside0.mk hB.size
 clear hI
 have HW0 := Aside0.mk hB.size
 have HB := Aside0.mk hB
 clear hB
 have H : (if a1 ≤ 1 then (some (0, s0_1, s0_2)) else ((spec_l1Cur_next.f s0_0 s0_1 s0_2).bind fun bt241 => (if a1 > 200 then ((spec_l1Cur_next.f s0_0 bt241.2.1 bt241.2.2).bind fun bt244 => (if a1 = 0 then (none) else (some (Int.tmod (wrap64 ((wrap64 (bt241.1 * 256)) + bt244.1)) a1, bt244.2.1, bt244.2.2)))) else (if a1 = 0 then (none) else (some (Int.tmod bt241.1 a1, bt241.2.1, bt241.2.2)))))) = some (r1, r2, r3) := h
 clear h
 by_cases c3 : a1 ≤ 1
 ·rw [if_pos c3] at H
  have c3b0 : decide (a1 ≤ 1) = true := decide_eq_true c3
  clear c3
  simp only [Option.some.injEq, Prod.mk.injEq] at H
  obtain ⟨rfl, rfl, rfl⟩ := H
  go_enter Try.func72, Try.ntmps72
  first | (go_wp2; go_ret; exact ⟨lE, by repeat (first | (with_reducible first | exact HI0.out | apply IsS114.alloc | apply IsS114.drewN | apply IsS114.drew | apply IsS114.set_1 | apply IsS114.set_2) | exact HI0.out), by repeat (first | (with_reducible first | exact HB.out | apply below_alloc | apply pw_below_drewN | apply below_drew1 | refine below_set ?_ (IsS114.ge HI0.out)) | exact HB.out), by repeat (first | (with_reducible first | exact HK.out | apply KeepBut.set_ | apply keep_drewN | apply keep_drew | apply keep_alloc) | exact HK.out)⟩) | (exfalso; simp only [decide_eq_false_iff_not, decide_eq_true_eq] at *; omega)
 ·rw [if_neg c3] at H
  have c3b0 : decide (a1 ≤ 1) = false := decide_eq_false c3
  clear c3
  replace H := Option.bind_eq_some_iff.mp H
  obtain ⟨⟨t241, t242, t243⟩, A40, H⟩ := H
  replace H : (if a1 > 200 then ((spec_l1Cur_next.f s0_0 t242 t243).bind fun bt244 => (if a1 = 0 then (none) else (some (Int.tmod (wrap64 ((wrap64 (t241 * 256)) + bt244.1)) a1, bt244.2.1, bt244.2.2)))) else (if a1 = 0 then (none) else (some (Int.tmod t241 a1, t242, t243)))) = some (r1, r2, r3) := H
  have A4 := Aside0.mk A40
  clear A40
  by_cases c5 : a1 > 200
  ·rw [if_pos c5] at H
   have c5b0 : decide (200 < a1) = true := decide_eq_true c5
   clear c5
   replace H := Option.bind_eq_some_iff.mp H
   obtain ⟨⟨t244, t245, t246⟩, A60, H⟩ := H
   replace H : (if a1 = 0 then (none) else (some (Int.tmod (wrap64 ((wrap64 (t241 * 256)) + t244)) a1, t245, t246))) = some (r1, r2, r3) := H
   have A6 := Aside0.mk A60
   clear A60
   by_cases c7 : a1 = 0
   ·rw [if_pos c7] at H
    exact absurd H (by simp)
   ·rw [if_neg c7] at H
    have c7b0 : (a1 == 0) = false := beq_eq_false_iff_ne.mpr c7
    have c7b1 : (a1 != 0) = true := bne_iff_ne.mpr c7
    simp only [Option.some.injEq, Prod.mk.injEq] at H
    obtain ⟨rfl, rfl, rfl⟩ := H
    go_enter Try.func72, Try.ntmps72
    go_wp2_with (first | ((with_reducible refine gate_callee (f := 91) rfl ?_); refine gl_ (some 9) (Try.func91) #[.pointer (some ⟨g, 0, none⟩)] ?_; (with_reducible refine (spec_l1Cur_next.calls g s0_0 s0_1 s0_2 t241 t242 t243 w0 _ ?side1 ?side2 A4.out).mono ?_); (case side1 => repeat (first | (with_reducible first | exact HI0.out | apply IsS114.alloc | apply IsS114.drewN | apply IsS114.drew | apply IsS114.set_1 | apply IsS114.set_2) | exact HI0.out)); (case side2 => repeat (first | (with_reducible first | exact HB.out | apply below_alloc | apply pw_below_drewN | apply below_drew1 | refine below_set ?_ (IsS114.ge HI0.out)) | exact HB.out)); rintro e w8 ⟨rfl, hi, hb, hk⟩; refine ⟨_, rfl, ?_⟩; have n0_ := Aside0.mk (KeepBut.trans (by repeat (first | (with_reducible first | exact HK.out | apply KeepBut.set_ | apply keep_drewN | apply keep_drew | apply keep_alloc) | exact HK.out)) hk (.inl rfl)); have n1_ := Aside0.mk (hb); have n2_ := Aside0.mk (hi); clear HK; clear HB; clear HI0; have HK := n0_; have HB := n1_; have HI0 := n2_; clear n0_ n1_ n2_; (try clear hb); (try clear hb2); (try clear hk); (try clear hi)) | ((with_reducible refine gate_callee (f := 91) rfl ?_); refine gl_ (some 15) (Try.func91) #[.pointer (some ⟨g, 0, none⟩)] ?_; (with_reducible refine (spec_l1Cur_next.calls g s0_0 t242 t243 t244 t245 t246 w0 _ ?side1 ?side2 A6.out).mono ?_); (case side1 => repeat (first | (with_reducible first | exact HI0.out | apply IsS114.alloc | apply IsS114.drewN | apply IsS114.drew | apply IsS114.set_1 | apply IsS114.set_2) | exact HI0.out)); (case side2 => repeat (first | (with_reducible first | exact HB.out | apply below_alloc | apply pw_below_drewN | apply below_drew1 | refine below_set ?_ (IsS114.ge HI0.out)) | exact HB.out)); rintro e w9 ⟨rfl, hi, hb, hk⟩; refine ⟨_, rfl, ?_⟩; have n0_ := Aside0.mk (KeepBut.trans (by repeat (first | (with_reducible first | exact HK.out | apply KeepBut.set_ | apply keep_drewN | apply keep_drew | apply keep_alloc) | exact HK.out)) hk (.inl rfl)); have n1_ := Aside0.mk (hb); have n2_ := Aside0.mk (hi); clear HK; clear HB; clear HI0; have HK := n0_; have HB := n1_; have HI0 := n2_; clear n0_ n1_ n2_; (try clear hb); (try clear hb2); (try clear hk); (try clear hi)))
    go_ret
    exact ⟨lE, by repeat (first | (with_reducible first | exact HI0.out | apply IsS114.alloc | apply IsS114.drewN | apply IsS114.drew | apply IsS114.set_1 | apply IsS114.set_2) | exact HI0.out), by repeat (first | (with_reducible first | exact HB.out | apply below_alloc | apply pw_below_drewN | apply below_drew1 | refine below_set ?_ (IsS114.ge HI0.out)) | exact HB.out), by repeat (first | (with_reducible first | exact HK.out | apply KeepBut.set_ | apply keep_drewN | apply keep_drew | apply keep_alloc) | exact HK.out)⟩
  ·rw [if_neg c5] at H
   have c5b0 : decide (200 < a1) = false := decide_eq_false c5
   clear c5
   by_cases c10 : a1 = 0
   ·rw [if_pos c10] at H
    exact absurd H (by simp)
   ·rw [if_neg c10] at H
    have c10b0 : (a1 == 0) = false := beq_eq_false_iff_ne.mpr c10
    have c10b1 : (a1 != 0) = true := bne_iff_ne.mpr c10
    simp only [Option.some.injEq, Prod.mk.injEq] at H
    obtain ⟨rfl, rfl, rfl⟩ := H
    go_enter Try.func72, Try.ntmps72
    go_wp2_with (first | ((with_reducible refine gate_callee (f := 91) rfl ?_); refine gl_ (some 9) (Try.func91) #[.pointer (some ⟨g, 0, none⟩)] ?_; (with_reducible refine (spec_l1Cur_next.calls g s0_0 s0_1 s0_2 t241 t242 t243 w0 _ ?side1 ?side2 A4.out).mono ?_); (case side1 => repeat (first | (with_reducible first | exact HI0.out | apply IsS114.alloc | apply IsS114.drewN | apply IsS114.drew | apply IsS114.set_1 | apply IsS114.set_2) | exact HI0.out)); (case side2 => repeat (first | (with_reducible first | exact HB.out | apply below_alloc | apply pw_below_drewN | apply below_drew1 | refine below_set ?_ (IsS114.ge HI0.out)) | exact HB.out)); rintro e w11 ⟨rfl, hi, hb, hk⟩; refine ⟨_, rfl, ?_⟩; have n0_ := Aside0.mk (KeepBut.trans (by repeat (first | (with_reducible first | exact HK.out | apply KeepBut.set_ | apply keep_drewN | apply keep_drew | apply keep_alloc) | exact HK.out)) hk (.inl rfl)); have n1_ := Aside0.mk (hb); have n2_ := Aside0.mk (hi); clear HK; clear HB; clear HI0; have HK := n0_; have HB := n1_; have HI0 := n2_; clear n0_ n1_ n2_; (try clear hb); (try clear hb2); (try clear hk); (try clear hi)))
    go_ret
    exact ⟨lE, by repeat (first | (with_reducible first | exact HI0.out | apply IsS114.alloc | apply IsS114.drewN | apply IsS114.drew | apply IsS114.set_1 | apply IsS114.set_2) | exact HI0.out), by repeat (first | (with_reducible first | exact HB.out | apply below_alloc | apply pw_below_drewN | apply below_drew1 | refine below_set ?_ (IsS114.ge HI0.out)) | exact HB.out), by repeat (first | (with_reducible first | exact HK.out | apply KeepBut.set_ | apply keep_drewN | apply keep_drew | apply keep_alloc) | exact HK.out)⟩
def spec_l1Cur_one.f (s0_0 : List Int) (s0_1 : Int) (s0_2 : Int) (a1 : Int) : Option (Bool × Int × Int) := (spec_l1Cur_pick.f s0_0 s0_1 s0_2 a1).bind fun bt247 => (some ((bt247.1 == 0), bt247.2.1, bt247.2.2))
set_option maxHeartbeats 8000000 in
set_option maxRecDepth 100000 in
theorem spec_l1Cur_one.calls (g : Nat) (s0_0 : List Int) (s0_1 : Int) (s0_2 : Int) (a1 : Int) (r1 : Bool) (r2 : Int) (r3 : Int) (w0 w : World) (hI : IsS114 w0 w g s0_0 s0_1 s0_2) (hB : Below w0.heap.size w0 w) (h : spec_l1Cur_one.f s0_0 s0_1 s0_2 a1 = some (r1, r2, r3)) :
  Calls Try.prog 90 #[.pointer (some ⟨g, 0, none⟩), .int .i64 a1] w fun e w' => e = .returned (.bool r1) ∧ IsS114 w0 w' g s0_0 r2 r3 ∧ Below w0.heap.size w0 w' ∧ KeepBut w w' g none := by
 have HI0 := Aside0.mk hI
 have HK := Aside0.mk (KeepBut.refl w g none)
 have HL := Aside0.mk hB.size
 clear hI
 have HW0 := Aside0.mk hB.size
 have HB := Aside0.mk hB
 clear hB
 have H : ((spec_l1Cur_pick.f s0_0 s0_1 s0_2 a1).bind fun bt247 => (some ((bt247.1 == 0), bt247.2.1, bt247.2.2))) = some (r1, r2, r3) := h
 clear h
 replace H := Option.bind_eq_some_iff.mp H
 obtain ⟨⟨t247, t248, t249⟩, A30, H⟩ := H
 replace H : (some ((t247 == 0), t248, t249)) = some (r1, r2, r3) := H
 have A3 := Aside0.mk A30
 clear A30
 simp only [Option.some.injEq, Prod.mk.injEq] at H
 obtain ⟨rfl, rfl, rfl⟩ := H
 go_enter Try.func90, Try.ntmps90
 go_wp2_with (first | ((with_reducible refine gate_callee (f := 72) rfl ?_); refine gl_ (some 7) (Try.func72) #[.pointer (some ⟨g, 0, none⟩), .int .i64 a1] ?_; (with_reducible refine (spec_l1Cur_pick.calls g s0_0 s0_1 s0_2 a1 t247 t248 t249 w0 _ ?side1 ?side2 A3.out).mono ?_); (case side1 => repeat (first | (with_reducible first | exact HI0.out | apply IsS114.alloc | apply IsS114.drewN | apply IsS114.drew | apply IsS114.set_1 | apply IsS114.set_2) | exact HI0.out)); (case side2 => repeat (first | (with_reducible first | exact HB.out | apply below_alloc | apply pw_below_drewN | apply below_drew1 | refine below_set ?_ (IsS114.ge HI0.out)) | exact HB.out)); rintro e w4 ⟨rfl, hi, hb, hk⟩; refine ⟨_, rfl, ?_⟩; have n0_ := Aside0.mk (KeepBut.trans (by repeat (first | (with_reducible first | exact HK.out | apply KeepBut.set_ | apply keep_drewN | apply keep_drew | apply keep_alloc) | exact HK.out)) hk (.inl rfl)); have n1_ := Aside0.mk (hb); have n2_ := Aside0.mk (hi); clear HK; clear HB; clear HI0; have HK := n0_; have HB := n1_; have HI0 := n2_; clear n0_ n1_ n2_; (try clear hb); (try clear hb2); (try clear hk); (try clear hi)))
 go_ret
 exact ⟨lE, by repeat (first | (with_reducible first | exact HI0.out | apply IsS114.alloc | apply IsS114.drewN | apply IsS114.drew | apply IsS114.set_1 | apply IsS114.set_2) | exact HI0.out), by repeat (first | (with_reducible first | exact HB.out | apply below_alloc | apply pw_below_drewN | apply below_drew1 | refine below_set ?_ (IsS114.ge HI0.out)) | exact HB.out), by repeat (first | (with_reducible first | exact HK.out | apply KeepBut.set_ | apply keep_drewN | apply keep_drew | apply keep_alloc) | exact HK.out)⟩
theorem Fl.info76 : (Try.prog.info? 76).map (fun i => (i.zero, i.size, i.bytes)) = some (some (.agg #[.int .i64 0, .int .i64 0]), 2, 16) := by kernel_rfl
theorem Fl.add0 (a : Addr) : a.add 0 = a := by unfold Addr.add; rw [if_pos rfl]
mutual
/-- The cells of a tree. -/
def Fl.flat : S72 → List S76
  | ⟨k, n, ts⟩ => ⟨k, n⟩ :: Fl.flats ts
def Fl.flats : List S72 → List S76
  | [] => []
  | t :: ts => Fl.flat t ++ Fl.flats ts
end
theorem Fl.flats_take : ∀ (ts : List S72) (i : Nat) (t : S72), ts[i]? = some t → Fl.flats (ts.take (i + 1)) = Fl.flats (ts.take i) ++ Fl.flat t
  | [], i, t, h => by simp at h
  | x :: xs, 0, t, h => by
    simp only [List.getElem?_cons_zero, Option.some.injEq] at h
    subst h
    simp [Fl.flats]
  | x :: xs, i + 1, t, h => by
    simp only [List.getElem?_cons_succ] at h
    rw [List.take_succ_cons, List.take_succ_cons]
    simp only [Fl.flats]
    rw [Fl.flats_take xs i t h, List.append_assoc]
theorem Fl.flats_app : ∀ (xs ys : List S72), Fl.flats (xs ++ ys) = Fl.flats xs ++ Fl.flats ys
  | [], ys => by simp [Fl.flats]
  | x :: xs, ys => by simp [Fl.flats, Fl.flats_app xs ys]
def spec_l16Flat.f (a0_0 a0_1 : Int) (l0_2 : List S72) (l1 : List S76) : Option (List S76) := if l1.length + (Fl.flat ⟨a0_0, a0_1, l0_2⟩).length ≤ 1000000000 then some (l1 ++ Fl.flat ⟨a0_0, a0_1, l0_2⟩) else none
def Fl.Post (P : Nat → Prop) (w0 w : World) (r : List S76) (e : Ending) (w' : World) : Prop := ∃ v0_ : Value, e = .returned v0_ ∧ Kd.R k76 76 w' w0.heap.size (fun k_ => (P k_ ∨ w.heap.size ≤ k_)) v0_ r ∧ Below w0.heap.size w0 w' ∧ Kept w w' (fun k_ => P k_)
theorem Fl.kid {w : World} {P : Nat → Prop} {A : Option Addr} {xs : List S72} (hr : ∀ W_, Kept w W_ (fun k_ => P k_) → Kd.C k72 W_ A xs.length xs) {i : Nat} {t : S72} (ht : xs[i]? = some t) :
    ∃ ad A2 c2, A = some ad ∧ t.f2.length ≤ c2 ∧ (∀ W_, Kept w W_ (fun k_ => P k_) → W_.cell? (ad.add (i * 3)) = some (.int .i64 t.f0) ∧ W_.cell? ⟨(ad.add (i * 3)).block, (ad.add (i * 3)).off + 1, none⟩ = some (.int .i64 t.f1) ∧ W_.cell? ⟨(ad.add (i * 3)).block, (ad.add (i * 3)).off + 2, none⟩ = some (.slice A2 t.f2.length c2) ∧ Kd.C k72 W_ A2 t.f2.length t.f2) := by
  have hil : i < xs.length := (List.getElem?_eq_some_iff.1 ht).1
  have e2 : rd_T72 xs (i : Int) = t := by unfold rd_T72; rw [Int.toNat_natCast, List.getD, ht]; rfl
  obtain ⟨ad, A2, c2, e1, h1, h2, h3, h4, h5⟩ := at_T72 (hr w (Kept.refl _ _)) (i : Int) (by omega) (by omega)
  rw [e2, Int.toNat_natCast] at h3
  rw [e2] at h4
  refine ⟨ad, A2, c2, e1, h4, fun W_ hW => ?_⟩
  obtain ⟨ad', A2', c2', e1', h1', h2', h3', h4', h5'⟩ := at_T72 (hr W_ hW) (i : Int) (by omega) (by omega)
  rw [e1] at e1'
  obtain rfl := Option.some.inj e1'
  rw [e2, Int.toNat_natCast] at h1' h2' h3'
  rw [e2] at h5'
  have hb : (ad.add (i * 3)).block < w.heap.size := by
    cases hh : w.heap[(ad.add (i * 3)).block]? with
    | none =>
      have : w.cell? ⟨(ad.add (i * 3)).block, (ad.add (i * 3)).off + 2, none⟩ = none := by simp [World.cell?, hh]
      rw [this] at h3; cases h3
    | some o => exact blk_lt hh
  have hP : ¬ P (ad.add (i * 3)).block := by
    intro hp
    have hK : Kept w (w.setCell ⟨(ad.add (i * 3)).block, (ad.add (i * 3)).off + 2, none⟩ (.bool true)) (fun k_ => P k_) := (Kept.refl w (fun k_ => P k_)).setCell (p := ⟨(ad.add (i * 3)).block, (ad.add (i * 3)).off + 2, none⟩) (.inl hp) _
    obtain ⟨ad'', A3, c3, e1'', _, _, h3'', _, _⟩ := at_T72 (hr _ hK) (i : Int) (by omega) (by omega)
    rw [e1] at e1''
    obtain rfl := Option.some.inj e1''
    rw [Int.toNat_natCast, World.cell?_setCell_same _ _ _ h3] at h3''
    cases h3''
  have hc : W_.cell? ⟨(ad.add (i * 3)).block, (ad.add (i * 3)).off + 2, none⟩ = w.cell? ⟨(ad.add (i * 3)).block, (ad.add (i * 3)).off + 2, none⟩ := World.cell?_of_block (hW.2 _ hb hP)
  rw [hc, h3] at h3'
  injection h3' with h3'
  injection h3' with h6 h7 h8
  subst h6
  exact ⟨h1', h2', hc.trans h3, h5'⟩
set_option maxHeartbeats 8000000 in
set_option maxRecDepth 100000 in
theorem Fl.ok : ∀ (N : Nat) (t : S72), SizeOf.sizeOf t ≤ N → ∀ (P : Nat → Prop) (A : Option Addr) (c : Nat) (v : Value) (l1 : List S76) (w0 w : World), Below w0.heap.size w0 w → (∀ W_, Kept w W_ (fun k_ => P k_) → Kd.C k72 W_ A t.f2.length t.f2) → Kd.R k76 76 w w0.heap.size P v l1 → l1.length + (Fl.flat t).length ≤ 1000000000 →
    Calls Try.prog 94 #[.agg #[.int .i64 t.f0, .int .i64 t.f1, .slice A t.f2.length c], v] w (Fl.Post P w0 w (l1 ++ Fl.flat t)) := by
 intro N
 induction N with
 | zero => intro t ht; cases t; simp at ht
 | succ N ih =>
 intro t hN P A c v l1 w0 w hB hr hR hlen
 obtain ⟨kd, n, ks⟩ := t
 simp only at hr ⊢
 have hu25 := Try.underlying25
 have hu72 := Try.underlying72
 have hu76 := Try.underlying76
 have hu70 := Try.underlying70
 have HR := Aside0.mk hr
 have HO := Aside0.mk (show Kd.R k76 76 w w0.heap.size (fun k_ => (P k_ ∨ w.heap.size ≤ k_)) v l1 from Kd.R_mono hR (fun _ hk => .inl hk))
 have HB := Aside0.mk hB
 have HK := Aside0.mk (Kept.refl w (fun k_ => P k_))
 have HL := Aside0.mk hlen
 have HW0 := Aside0.mk hB.size
 clear hr hR hB hlen
 have hfl : Fl.flat ⟨kd, n, ks⟩ = ⟨kd, n⟩ :: Fl.flats ks := by unfold Fl.flat; rfl
 have hmx : ks.length ≤ 9223372036854775807 := Kd.C_max (HR.out w (Kept.refl _ _))
 obtain ⟨Av, cv, ev⟩ := Kd.R_slice HO.out
 subst ev
 go_enter Try.func94, Try.ntmps94
 go_upto_region 2 with (first | ((with_reducible refine gate_dst (N := 2) rfl ?_); refine bxe 2 #[.int .i64 kd, .int .i64 n, .slice A ks.length c] 72 ?_; intro gt hg w4 hbox hb; have n0_ := Aside0.mk hbox; have n1_ := Aside0.mk (Kd.R_below HO.out hb); have n2_ : Aside0 (Below w0.heap.size w0 w4) := ⟨HB.out.trans (hb.mono HW0.out)⟩; have n3_ := Aside0.mk (HK.out.below hb); have n4_ := Aside0.mk (show w.heap.size ≤ gt from Nat.le_of_eq hg.symm); clear HO HB HK hbox hb hg; have BK := n0_; have HO := n1_; have HB := n2_; have HK := n3_; have GE := n4_; clear n0_ n1_ n2_ n3_ n4_; obtain ⟨hcz0, hfz0, hcz1, hfz1, hcz2, hfz2⟩ := bk3 BK.out) | ((with_reducible refine gate_builtin (b := .append) (xs := #[.tmp 7, .tmp 13]) rfl ?_); at_builtin; refine Kd.R_append k76 (w0 := w0) w0.heap.size rfl (.tmp 7) (.tmp 13) 25 76 (.agg #[.int .i64 0, .int .i64 0]) 16 rfl Try.underlying25 Fl.info76 rfl (by decide) (by omega) (.slice Av l1.length cv) l1 (⟨kd, n⟩ : S76) [.int .i64 kd, .int .i64 n] (fun k_ => (P k_ ∨ w.heap.size ≤ k_)) (fun _ => False) rfl (by first | (go_simp; done) | (go_simp; rfl)) ?aP (fun _ hk => hk.elim) (fun k hk => .inr (Nat.le_trans HK.out.1 hk)) ?aO ?aB ?aS ?aL ?_; (case aP => exact k76_mkM _ _ _ (⟨kd, n⟩ : S76)); (case aO => exact HO.out); (case aB => exact HB.out); (case aS => exact Nat.le_trans HW0.out HK.out.1); (case aL => have h_ := HL.out; rw [hfl] at h_; simp only [List.length_cons] at h_; omega); intro v6 w6 ho hb hg hat; have n0_ := Aside0.mk (blk_grown BK.out hg (Kd.R_ne HO.out BK.out (by decide))); have n1_ := Aside0.mk (Kept.of_grown hg HK.out (fun k e => HO.out.1 k e)); have n2_ := Aside0.mk ho; have n3_ := Aside0.mk hb; clear BK HK HO HB ho hb hg hat hcz0 hfz0 hcz1 hfz1 hcz2 hfz2; have BK := n0_; have HK := n1_; have HO := n2_; have HB := n3_; clear n0_ n1_ n2_ n3_; obtain ⟨hcz0, hfz0, hcz1, hfz1, hcz2, hfz2⟩ := bk3 BK.out))
 go_wp2
 go_loopg [1, 18] (ks.length + 1) (fun j v1 v18 wr => ∃ (i q : Nat), v18 = .int .i64 (i : Int) ∧ j = q + 1 ∧ i + q = ks.length ∧ Aside0 (Kd.R k76 76 wr w0.heap.size (fun k_ => (P k_ ∨ w.heap.size ≤ k_)) v1 (l1 ++ ⟨kd, n⟩ :: Fl.flats (ks.take i))) ∧ Aside0 (Below w0.heap.size w0 wr) ∧ Aside0 (Kept w wr (fun k_ => P k_)) ∧ Aside0 (wr.heap[gt]? = some (.cells #[.int .i64 kd, .int .i64 n, .slice A ks.length c] 72 (0, 0))))
 case atStart => exact ⟨0, ks.length, rfl, rfl, by omega, HO, HB, HK, BK⟩
 case round =>
  clear HO HB HK BK hcz0 hfz0 hcz1 hfz1 hcz2 hfz2
  obtain ⟨i, q, rfl, rfl, hiq, HO, HB, HK, BK⟩ := hrel
  cases q with
  | zero =>
   have hd1 : decide ((i : Int) < (ks.length : Int)) = false := decide_eq_false (by omega)
   go_wp2
   go_ret
   refine ⟨_, lE, ?_, HB.out, HK.out⟩
   rw [hfl]
   have h_ := HO.out
   rw [List.take_of_length_le (by omega)] at h_
   exact h_
  | succ q =>
   have hil : i < ks.length := by omega
   obtain ⟨t, ht⟩ : ∃ t, ks[i]? = some t := ⟨ks[i], List.getElem?_eq_getElem hil⟩
   obtain ⟨ad, A2, c2, eA, hc2, hkid⟩ := Fl.kid HR.out ht
   subst eA
   obtain ⟨h1, h2, h3, _⟩ := hkid wr HK.out
   have hd1 : decide ((i : Int) < (ks.length : Int)) = true := decide_eq_true (by omega)
   have hi0 : ((0 : Int) ≤ (i : Int)) = True := eq_true (by omega)
   have hi1 : ((i : Int) < (ks.length : Int)) = True := eq_true (by omega)
   have htn : (i : Int).toNat = i := Int.toNat_natCast i
   go_upto_region 5 with (first | ((with_reducible refine gate_dst (N := 6) rfl ?_); refine bxe 6 #[.int .i64 0, .int .i64 0, .slice none 0 0] 72 ?_; intro gk hg w7 hbox hb; have n0_ := Aside0.mk hbox; have n1_ := Aside0.mk (Kd.R_below HO.out hb); have n2_ : Aside0 (Below w0.heap.size w0 w7) := ⟨HB.out.trans (hb.mono HB.out.size)⟩; have n3_ := Aside0.mk (HK.out.below hb); have n4_ := Aside0.mk (show w.heap.size ≤ gk from by rw [hg]; exact HK.out.1); have n5_ := Aside0.mk (blk_below BK.out hb); have HNE := Aside0.mk (show gt ≠ gk from Nat.ne_of_lt (by rw [hg]; exact blk_lt BK.out)); clear HO HB HK BK hbox hb hg; have BX := n0_; have HO := n1_; have HB := n2_; have HK := n3_; have GX := n4_; have BK := n5_; clear n0_ n1_ n2_ n3_ n4_ n5_; obtain ⟨hbz0, hbf0, hbz1, hbf1, hbz2, hbf2⟩ := bk3 BX.out))
   have b0_ := Aside0.mk (blk_put (cs := #[.int .i64 0, .int .i64 0, .slice none 0 0]) BX.out 0 (.int .i64 t.f0) rfl)
   have b1_ := Aside0.mk (blk_put (cs := #[.int .i64 t.f0, .int .i64 0, .slice none 0 0]) b0_.out 1 (.int .i64 t.f1) rfl)
   have n0_ : Aside0 ((((w7.setCell ⟨gk, 0, none⟩ (.int .i64 t.f0)).setCell ⟨gk, 1, none⟩ (.int .i64 t.f1)).setCell ⟨gk, 2, none⟩ (.slice A2 t.f2.length c2)).heap[gk]? = some (.cells #[.int .i64 t.f0, .int .i64 t.f1, .slice A2 t.f2.length c2] 72 (0, 0))) := ⟨blk_put (cs := #[.int .i64 t.f0, .int .i64 t.f1, .slice none 0 0]) b1_.out 2 _ rfl⟩
   have n1_ := Aside0.mk (Kd.R_set (Kd.R_set (Kd.R_set HO.out BX.out (by decide) 0 (.int .i64 t.f0)) b0_.out (by decide) 1 (.int .i64 t.f1)) b1_.out (by decide) 2 (.slice A2 t.f2.length c2))
   have hgk : w0.heap.size ≤ gk := Nat.le_trans HW0.out GX.out
   have n2_ : Aside0 (Below w0.heap.size w0 (((w7.setCell ⟨gk, 0, none⟩ (.int .i64 t.f0)).setCell ⟨gk, 1, none⟩ (.int .i64 t.f1)).setCell ⟨gk, 2, none⟩ (.slice A2 t.f2.length c2))) := ⟨below_set (below_set (below_set HB.out hgk) hgk) hgk⟩
   have n3_ : Aside0 (Kept w (((w7.setCell ⟨gk, 0, none⟩ (.int .i64 t.f0)).setCell ⟨gk, 1, none⟩ (.int .i64 t.f1)).setCell ⟨gk, 2, none⟩ (.slice A2 t.f2.length c2)) (fun k_ => P k_)) := ⟨((HK.out.setCell (p := ⟨gk, 0, none⟩) (.inr GX.out) _).setCell (p := ⟨gk, 1, none⟩) (.inr GX.out) _).setCell (p := ⟨gk, 2, none⟩) (.inr GX.out) _⟩
   have n4_ : Aside0 ((((w7.setCell ⟨gk, 0, none⟩ (.int .i64 t.f0)).setCell ⟨gk, 1, none⟩ (.int .i64 t.f1)).setCell ⟨gk, 2, none⟩ (.slice A2 t.f2.length c2)).heap[gt]? = some (.cells #[.int .i64 kd, .int .i64 n, .slice (some ad) ks.length c] 72 (0, 0))) := ⟨blk_far (blk_far (blk_far BK.out (p := ⟨gk, 0, none⟩) HNE.out _) (p := ⟨gk, 1, none⟩) HNE.out _) (p := ⟨gk, 2, none⟩) HNE.out _⟩
   clear BX HO HB HK BK b0_ b1_ hbz0 hbf0 hbz1 hbf1 hbz2 hbf2 h1 h2 h3
   generalize ((w7.setCell ⟨gk, 0, none⟩ (.int .i64 t.f0)).setCell ⟨gk, 1, none⟩ (.int .i64 t.f1)).setCell ⟨gk, 2, none⟩ (.slice A2 t.f2.length c2) = w8 at n0_ n1_ n2_ n3_ n4_ ⊢
   have BX := n0_
   have HO := n1_
   have HB := n2_
   have HK := n3_
   have BK := n4_
   clear n0_ n1_ n2_ n3_ n4_
   obtain ⟨hbz0, hbf0, hbz1, hbf1, hbz2, hbf2⟩ := bk3 BX.out
   have hsz : SizeOf.sizeOf t ≤ N := by
    have h1 := List.sizeOf_lt_of_mem (List.mem_of_getElem? ht)
    have h2 : SizeOf.sizeOf ks < SizeOf.sizeOf (⟨kd, n, ks⟩ : S72) := by simp only [S72.mk.sizeOf_spec]; omega
    omega
   have hft := Fl.flats_take ks i t ht
   have hlt : (l1 ++ ⟨kd, n⟩ :: Fl.flats (ks.take i)).length + (Fl.flat t).length ≤ 1000000000 := by
    have h_ := HL.out
    rw [hfl] at h_
    have e_ : Fl.flats ks = Fl.flats (ks.take (i + 1)) ++ Fl.flats (ks.drop (i + 1)) := by rw [← Fl.flats_app, List.take_append_drop]
    rw [e_, hft] at h_
    simp only [List.length_append, List.length_cons] at h_ ⊢
    omega
   have HC := Aside0.mk (ih t hsz (fun k_ => (P k_ ∨ w.heap.size ≤ k_) ∧ k_ ≠ gt) A2 c2 _ _ w0 w8 HB.out (fun W_ hW => (hkid W_ (HK.out.then_ hW (fun k hk => hk.1))).2.2.2) (Kd.R_types HO.out BK.out (by decide)) hlt)
   go_wp2_with (first | (go_at_call 94; (with_reducible refine HC.out.mono ?_); rintro e w9 ⟨v9, rfl, ho, hb, hk⟩; have n1_ := Aside0.mk (show Kd.R k76 76 w9 w0.heap.size (fun k_ => (P k_ ∨ w.heap.size ≤ k_)) v9 (l1 ++ ⟨kd, n⟩ :: Fl.flats (ks.take (i + 1))) from by rw [hft]; have h_ := Kd.R_mono ho (ok' := fun k_ => (P k_ ∨ w.heap.size ≤ k_)) (fun k hk_ => hk_.elim (fun z => z.1) (fun z => .inr (Nat.le_trans HK.out.1 z))); rw [List.append_assoc, List.cons_append] at h_; exact h_); have n2_ := Aside0.mk hb; have n3_ := Aside0.mk (HK.out.then_ hk (fun k hk_ => hk_.1)); have n4_ := Aside0.mk ((hk.2 gt (blk_lt BK.out) (fun h_ => h_.2 rfl)).trans BK.out); clear HO HB HK BK BX HC hbz0 hbf0 hbz1 hbf1 hbz2 hbf2 ho hb hk; have HO := n1_; have HB := n2_; have HK := n3_; have BK := n4_; clear n1_ n2_ n3_ n4_))
   go_roundg (q + 1)
   case measure => omega
   case rel => exact ⟨i + 1, q, by go_num, rfl, by omega, HO, HB, HK, BK⟩
theorem spec_l16Flat.calls (a0_0 : Int) (a0_1 : Int) (A0_2 : Option Addr) (c0_2 : Nat) (l0_2 : List S72) (P1_ : Nat → Prop) (u9001_ : Value) (l1 : List S76) (r : List S76) (w0 w : World) (hB : Below w0.heap.size w0 w) (hr0_2 : ∀ W_, Kept w W_ (fun k_ => P1_ k_) → Kd.C k72 W_ A0_2 l0_2.length l0_2) (hc0_2 : l0_2.length ≤ c0_2) (ho1 : Kd.R k76 76 w w0.heap.size P1_ u9001_ l1) (h : spec_l16Flat.f a0_0 a0_1 l0_2 l1 = some r) :
    Calls Try.prog 94 #[.agg #[.int .i64 a0_0, .int .i64 a0_1, .slice A0_2 l0_2.length c0_2], u9001_] w fun e w' => ∃ v0_ : Value, e = .returned v0_ ∧ Kd.R k76 76 w' w0.heap.size (fun k_ => (P1_ k_ ∨ w.heap.size ≤ k_)) v0_ r ∧ Below w0.heap.size w0 w' ∧ Kept w w' (fun k_ => P1_ k_) := by
 unfold spec_l16Flat.f at h
 split at h
 ·rename_i hl
  obtain rfl := Option.some.inj h
  exact Fl.ok _ ⟨a0_0, a0_1, l0_2⟩ (Nat.le_refl _) P1_ A0_2 c0_2 u9001_ l1 w0 w hB hr0_2 ho1 hl
 ·cases h
def spec_l1Cur_among.f (s0_0 : List Int) (s0_1 : Int) (s0_2 : Int) (l1 : List Int) : Option (Int × Int × Int) := (spec_l1Cur_pick.f s0_0 s0_1 s0_2 (l1.length : Int)).bind fun bt250 => (if 0 ≤ bt250.1 then (if bt250.1 < (l1.length : Int) then (some (rd l1 bt250.1, bt250.2.1, bt250.2.2)) else (none)) else (none))
set_option maxHeartbeats 8000000 in
set_option maxRecDepth 100000 in
theorem spec_l1Cur_among.calls (g : Nat) (s0_0 : List Int) (s0_1 : Int) (s0_2 : Int) (A1 : Option Addr) (c1 : Nat) (l1 : List Int) (r1 : Int) (r2 : Int) (r3 : Int) (w0 w : World) (hI : IsS114 w0 w g s0_0 s0_1 s0_2) (hB : Below w0.heap.size w0 w) (hr1 : Kd.C (Kd.int .i64) w A1 l1.length l1) (hc1 : l1.length ≤ c1) (hf1 : ∀ ad, A1 = some ad → 0 < l1.length → ad.block ≠ g) (h : spec_l1Cur_among.f s0_0 s0_1 s0_2 l1 = some (r1, r2, r3)) :
  Calls Try.prog 73 #[.pointer (some ⟨g, 0, none⟩), .slice A1 l1.length c1] w fun e w' => e = .returned (.int .i64 r1) ∧ IsS114 w0 w' g s0_0 r2 r3 ∧ Below w0.heap.size w0 w' ∧ KeepBut w w' g none := by
 have HR1 := Aside0.mk hr1
 have HC1 := Aside0.mk hc1
 clear hr1 hc1
 have HI0 := Aside0.mk hI
 have HK := Aside0.mk (KeepBut.refl w g none)
 have HL := Aside0.mk hB.size
 clear hI
 have HW0 := Aside0.mk hB.size
 have HB := Aside0.mk hB
 clear hB
 have H : ((spec_l1Cur_pick.f s0_0 s0_1 s0_2 (l1.length : Int)).bind fun bt250 => (if 0 ≤ bt250.1 then (if bt250.1 < (l1.length : Int) then (some (rd l1 bt250.1, bt250.2.1, bt250.2.2)) else (none)) else (none))) = some (r1, r2, r3) := h
 clear h
 replace H := Option.bind_eq_some_iff.mp H
 obtain ⟨⟨t250, t251, t252⟩, A30, H⟩ := H
 replace H : (if 0 ≤ t250 then (if t250 < (l1.length : Int) then (some (rd l1 t250, t251, t252)) else (none)) else (none)) = some (r1, r2, r3) := H
 have A3 := Aside0.mk A30
 clear A30
 by_cases c4 : 0 ≤ t250
 ·rw [if_pos c4] at H
  have c4b0 : decide (0 ≤ t250) = true := decide_eq_true c4
  clear c4
  by_cases c5 : t250 < (l1.length : Int)
  ·rw [if_pos c5] at H
   have c5b0 : decide (t250 < (l1.length : Int)) = true := decide_eq_true c5
   clear c5
   simp only [Option.some.injEq, Prod.mk.injEq] at H
   obtain ⟨rfl, rfl, rfl⟩ := H
   go_enter Try.func73, Try.ntmps73
   go_wp2_with (first | ((with_reducible refine gate_callee (f := 72) rfl ?_); refine gl_ (some 9) (Try.func72) #[.pointer (some ⟨g, 0, none⟩), .int .i64 (l1.length : Int)] ?_; (with_reducible refine (spec_l1Cur_pick.calls g s0_0 s0_1 s0_2 (l1.length : Int) t250 t251 t252 w0 _ ?side1 ?side2 A3.out).mono ?_); (case side1 => repeat (first | (with_reducible first | exact HI0.out | apply IsS114.alloc | apply IsS114.drewN | apply IsS114.drew | apply IsS114.set_1 | apply IsS114.set_2) | exact HI0.out)); (case side2 => repeat (first | (with_reducible first | exact HB.out | apply below_alloc | apply pw_below_drewN | apply below_drew1 | refine below_set ?_ (IsS114.ge HI0.out)) | exact HB.out)); rintro e w6 ⟨rfl, hi, hb, hk⟩; refine ⟨_, rfl, ?_⟩; have n0_ := Aside0.mk (KeepBut.trans (by repeat (first | (with_reducible first | exact HK.out | apply KeepBut.set_ | apply keep_drewN | apply keep_drew | apply keep_alloc) | exact HK.out)) hk (.inl rfl)); have n1_ := Aside0.mk (hb); have n2_ := Aside0.mk (hi); clear HK; clear HB; clear HI0; have HK := n0_; have HB := n1_; have HI0 := n2_; clear n0_ n1_ n2_; (try clear hb); (try clear hb2); (try clear hk); (try clear hi); have p253 : 0 ≤ (t250 : Int) := lD; have q253 : t250 < (l1.length : Int) := lD; obtain ⟨ad253, e253, hx253_0⟩ := Kd.at_int HR1.out t250 p253 q253; cases e253; replace hx253_0 := keep_cell HK.out hx253_0 (by first | (rw [add_block]; exact hf1 _ rfl (by omega)) | exact hf1 _ rfl (by omega) | exact hf1 ad253 rfl (by omega)); replace p253 := eq_true p253; replace q253 := eq_true q253))
   go_ret
   exact ⟨lE, by repeat (first | (with_reducible first | exact HI0.out | apply IsS114.alloc | apply IsS114.drewN | apply IsS114.drew | apply IsS114.set_1 | apply IsS114.set_2) | exact HI0.out), by repeat (first | (with_reducible first | exact HB.out | apply below_alloc | apply pw_below_drewN | apply below_drew1 | refine below_set ?_ (IsS114.ge HI0.out)) | exact HB.out), by repeat (first | (with_reducible first | exact HK.out | apply KeepBut.set_ | apply keep_drewN | apply keep_drew | apply keep_alloc) | exact HK.out)⟩
  ·rw [if_neg c5] at H
   exact absurd H (by simp)
 ·rw [if_neg c4] at H
  exact absurd H (by simp)
end Go.Proofs.Ytgjojppbichaiaa.Q
