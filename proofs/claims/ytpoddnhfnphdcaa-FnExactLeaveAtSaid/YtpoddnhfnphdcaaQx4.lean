-- Written by the program wip/tools/pr.py of this claim's session, over the kit's print.py.
import Derived.Test.YtpoddnhfnphdcaaQx0
import Derived.Test.YtpoddnhfnphdcaaQx3
namespace Go.Proofs.Ytpoddnhfnphdcaa.Q
open Go.RowKit Go.Proofs.YtpoddnhfnphdcaaW.PrintWords Go.Proofs.YtpoddnhfnphdcaaW.PrintLast Go.Proofs.YtpoddnhfnphdcaaW.PrintMore
attribute [local go_sem] max2_int min2_int max_two min_two max_three min_three max_four min_four   -- for this text's walks alone
set_option linter.unusedVariables false
set_option linter.unusedSimpArgs false

/-! ### slices_IndexFunc_int_int: function 72 -/
-- slices.IndexFunc, whatever is asked
set_option maxHeartbeats 800000 in
set_option maxRecDepth 100000 in
theorem idx72_ (g : Nat) (caps : Array Value) (eg : ∀ args w, (callFunc g args).run Try.prog w = .ok (.enter g args) w) (p : Int → Option Bool) (A0 : Option Addr) (c0 : Nat) (l0 : List Int) (w : World) (hr0 : Kd.C (Kd.int .i64) w A0 l0.length l0)
  (hp : ∀ (W : World) (x : Int) (b : Bool), Below w.heap.size w W → p x = some b → Calls Try.prog g (#[.int .i64 x] ++ caps) W fun e w' => e = .returned (.bool b) ∧ Below W.heap.size W w') (r : Int) (h : Kit.idxO p l0 0 = some r) :
  Calls Try.prog 72 #[.slice A0 l0.length c0, .func (.func g) #[] caps] w fun e w' => e = .returned (.int .i64 r) ∧ Below w.heap.size w w' := by
 have HR := Aside0.mk hr0
 have HP := Aside0.mk hp
 have HH := Aside0.mk h
 have hbig := hr0.2.1
 clear hr0 hp h
 go_enter Try.func72, Try.ntmps72
 go_wp2
 go_loopg [5, 8] l0.length (fun gg _ s8 wr => ∃ kk : Nat, kk ≤ l0.length ∧ l0.length - kk ≤ gg ∧ s8 = .int .i64 kk ∧ Aside0 (Below w.heap.size w wr) ∧ Aside0 (Kit.idxO p (l0.drop kk) kk = some r))
 case atStart => exact ⟨0, Nat.zero_le _, by omega, rfl, ⟨Below.refl _ _⟩, ⟨by simpa using HH.out⟩⟩
 case round =>
  obtain ⟨kk, hkk, hg, rfl, HB, HI⟩ := hrel
  by_cases hlt : kk < l0.length
  ·have hltz : (kk : Int) < (l0.length : Int) := by omega
   have hd0 : decide (kk < l0.length) = true := decide_eq_true hlt
   obtain ⟨ad, e_, hx0⟩ := Kd.at_int HR.out (kk : Int) (by omega) (by omega)
   cases e_
   replace hx0 := (HB.out.cell (World.block_lt_of_cell? w _ hx0)).trans hx0
   simp only [Int.toNat_natCast] at hx0
   have hd : l0.drop kk = rd l0 (kk : Int) :: l0.drop (kk + 1) := by
    rw [List.drop_eq_getElem_cons hlt]; simp [rd, List.getD, hlt]
   generalize rd l0 (kk : Int) = y at hd hx0
   have HI' := HI.out
   rw [hd] at HI'
   simp only [Kit.idxO] at HI'
   obtain ⟨b, hb, hI⟩ := Option.bind_eq_some_iff.1 HI'
   have hcall := HP.out wr y b HB.out hb
   have HIb := Aside0.mk hI
   clear hI HI' hb hd HI
   cases b with
   | true =>
    go_wp2_with fail
    refine hcall.mono ?_
    rintro e w2 ⟨rfl, hb2⟩
    clear hcall
    go_wp2_with fail
    go_ret
    have hI := HIb.out
    simp only [if_true, Option.some.injEq] at hI
    exact ⟨by subst hI; rfl, HB.out.trans (hb2.mono HB.out.size)⟩
   | false =>
    go_wp2_with fail
    refine hcall.mono ?_
    rintro e w2 ⟨rfl, hb2⟩
    clear hcall
    go_wp2_with fail
    go_roundg (l0.length - (kk + 1))
    case measure => omega
    case rel => exact ⟨kk + 1, by omega, by omega, by go_num, ⟨HB.out.trans (hb2.mono HB.out.size)⟩, ⟨by simpa using HIb.out⟩⟩
  ·have hltz : ¬ (kk : Int) < (l0.length : Int) := by omega
   have hd0 : decide (kk < l0.length) = false := decide_eq_false hlt
   have hkl : kk = l0.length := by omega
   have hI := HI.out
   rw [hkl, List.drop_length] at hI
   simp [Kit.idxO] at hI
   clear HI hkl
   have HR2 := Aside0.mk hI
   clear hI
   go_wp2
   go_ret
   exact ⟨by have e_ := HR2.out; subst e_; rfl, HB.out⟩

/-! ### slices_ContainsFunc_int_int: function 53 -/
-- slices.ContainsFunc, whatever is asked
set_option maxHeartbeats 800000 in
set_option maxRecDepth 100000 in
theorem cnt53_ (g : Nat) (caps : Array Value) (eg : ∀ args w, (callFunc g args).run Try.prog w = .ok (.enter g args) w) (p : Int → Option Bool) (A0 : Option Addr) (c0 : Nat) (l0 : List Int) (w : World) (hr0 : Kd.C (Kd.int .i64) w A0 l0.length l0)
  (hp : ∀ (W : World) (x : Int) (b : Bool), Below w.heap.size w W → p x = some b → Calls Try.prog g (#[.int .i64 x] ++ caps) W fun e w' => e = .returned (.bool b) ∧ Below W.heap.size W w') (r : Bool) (h : Kit.anyO p l0 = some r) :
  Calls Try.prog 53 #[.slice A0 l0.length c0, .func (.func g) #[] caps] w fun e w' => e = .returned (.bool r) ∧ Below w.heap.size w w' := by
 obtain ⟨i, hi, hri⟩ := Kit.idxO_any p l0 0 r h
 have hcall := idx72_ g caps eg p A0 c0 l0 w hr0 hp i hi
 have HI := Aside0.mk hri
 clear hri hi h hp hr0
 go_enter Try.func53, Try.ntmps53
 go_wp2_with fail
 refine hcall.mono ?_
 rintro e w2 ⟨rfl, hb2⟩
 clear hcall
 go_wp2
 go_ret
 exact ⟨by rw [HI.out]; rfl, hb2⟩
def slices_ContainsFunc_int_int.f (l0 : List Int) (a1 : Nat) : Option (Bool) := if a1 = 54 then Kit.anyO (fun x : Int => impl_LeaveAt_1.f x) l0 else if a1 = 62 then Kit.anyO (fun x : Int => impl_isFrame_1.f x) l0 else if a1 = 71 then Kit.anyO (fun x : Int => impl_areWords_1.f x) l0 else none
theorem slices_ContainsFunc_int_int.calls (A0 : Option Addr) (c0 : Nat) (l0 : List Int) (a1 : Nat) (r : Bool) (w : World) (hr0 : Kd.C (Kd.int .i64) w A0 l0.length l0) (hc0 : l0.length ≤ c0) (h : slices_ContainsFunc_int_int.f l0 a1 = some r) :
  Calls Try.prog 53 #[.slice A0 l0.length c0, .func (.func a1) #[] #[]] w fun e w' => e = .returned (.bool r) ∧ Below w.heap.size w w' := by
 unfold slices_ContainsFunc_int_int.f at h
 by_cases e_ : a1 = 54
 ·subst e_
  rw [if_pos rfl] at h
  exact cnt53_ 54 #[] (enters_of Try.func54 (by kernel_rfl) rfl) (fun x : Int => impl_LeaveAt_1.f x) A0 c0 l0 w hr0 (fun W x b hW hx => (impl_LeaveAt_1.calls x b W  hx).mono fun e w' ⟨he, hd⟩ => ⟨he, hd.below⟩) r h
 ·rw [if_neg e_] at h
  clear e_
  by_cases e_ : a1 = 62
  ·subst e_
   rw [if_pos rfl] at h
   exact cnt53_ 62 #[] (enters_of Try.func62 (by kernel_rfl) rfl) (fun x : Int => impl_isFrame_1.f x) A0 c0 l0 w hr0 (fun W x b hW hx => (impl_isFrame_1.calls x b W  hx).mono fun e w' ⟨he, hd⟩ => ⟨he, hd.below⟩) r h
  ·rw [if_neg e_] at h
   clear e_
   by_cases e_ : a1 = 71
   ·subst e_
    rw [if_pos rfl] at h
    exact cnt53_ 71 #[] (enters_of Try.func71 (by kernel_rfl) rfl) (fun x : Int => impl_areWords_1.f x) A0 c0 l0 w hr0 (fun W x b hW hx => (impl_areWords_1.calls x b W  hx).mono fun e w' ⟨he, hd⟩ => ⟨he, hd.below⟩) r h
   ·rw [if_neg e_] at h
    clear e_
    exact absurd h (by simp)

/-! ### impl_areWords: function 52 -/
def impl_areWords.f (l0 : List Int) : Option (Bool) := if (l0.length : Int) = 8 then ((slices_ContainsFunc_int_int.f l0 71).bind fun t218 => (some (!t218))) else (some false)
set_option maxHeartbeats 8000000 in
set_option maxRecDepth 100000 in
theorem impl_areWords.calls (A0 : Option Addr) (c0 : Nat) (l0 : List Int) (r : Bool) (w : World) (hr0 : Kd.C (Kd.int .i64) w A0 l0.length l0) (hc0 : l0.length ≤ c0) (h : impl_areWords.f l0 = some r) :
  Calls Try.prog 52 #[.slice A0 l0.length c0] w fun e w' => e = .returned (.bool r) ∧ Below w.heap.size w w' := by
 have HR0 := Aside0.mk hr0
 have HC0 := Aside0.mk hc0
 clear hr0 hc0
 have HB := Aside0.mk (Below.refl w.heap.size w)
 have H : (if (l0.length : Int) = 8 then ((slices_ContainsFunc_int_int.f l0 71).bind fun t218 => (some (!t218))) else (some false)) = some r := h
 clear h
 by_cases c2 : (l0.length : Int) = 8
 ·rw [if_pos c2] at H
  have c2b0 : ((l0.length : Int) == 8) = true := beq_iff_eq.mpr c2
  have c2b1 : ((l0.length : Int) != 8) = false := bne_eq_false_iff_eq.mpr c2
  clear c2
  replace H := Option.bind_eq_some_iff.mp H
  obtain ⟨t218, A30, H⟩ := H
  replace H : (some (!t218)) = some r := H
  have A3 := Aside0.mk A30
  clear A30
  obtain rfl := Option.some.inj H
  go_enter Try.func52, Try.ntmps52
  go_wp2_with (first | (go_at_call 53; (with_reducible refine (slices_ContainsFunc_int_int.calls _ _ l0 71 t218 _ ?side1 ?side2 A3.out).mono ?_); (case side1 => repeat (first | exact HR0.out | (with_reducible refine Kd.C_alloc ?_ _) | (with_reducible refine Kd.C_drewN ?_ _) | (with_reducible refine Kd.C_drew ?_))); (case side2 => exact HC0.out); rintro e w4 ⟨rfl, hb⟩; have n0_ := Aside0.mk (below_step (by repeat (first | (with_reducible first | exact HB.out | apply below_alloc | apply pw_below_drewN | apply below_drew1) | exact HB.out)) hb); clear HB; have HB := n0_; clear n0_; (try clear hb); (try clear hb2); (try clear hk); (try clear hi)))
  go_ret
  exact ⟨by first | rfl | (simp [errW_none, errW_some] <;> rfl) | (simp [*, errW_none, errW_some] <;> rfl), by repeat (first | (with_reducible first | exact HB.out | apply below_alloc | apply pw_below_drewN | apply below_drew1) | exact HB.out)⟩
 ·rw [if_neg c2] at H
  have c2b0 : ((l0.length : Int) == 8) = false := beq_eq_false_iff_ne.mpr c2
  have c2b1 : ((l0.length : Int) != 8) = true := bne_iff_ne.mpr c2
  obtain rfl := Option.some.inj H
  go_enter Try.func52, Try.ntmps52
  first | (go_wp2; go_ret; exact ⟨by first | rfl | (simp [errW_none, errW_some] <;> rfl) | (simp [*, errW_none, errW_some] <;> rfl), by repeat (first | (with_reducible first | exact HB.out | apply below_alloc | apply pw_below_drewN | apply below_drew1) | exact HB.out)⟩) | (exfalso; simp only [decide_eq_false_iff_not, decide_eq_true_eq] at *; omega)

/-! ### impl_isName: function 56 -/
def impl_isName.f (a0 : Int) : Option (Bool) := (impl_in.f a0 0 7).bind fun t219 => (some t219)
set_option maxHeartbeats 8000000 in
set_option maxRecDepth 100000 in
theorem impl_isName.calls (a0 : Int) (r : Bool) (w : World) (h : impl_isName.f a0 = some r) :
  Calls Try.prog 56 #[.int .i64 a0] w fun e w' => e = .returned (.bool r) ∧ Drawn0 w w' := by
 have H : ((impl_in.f a0 0 7).bind fun t219 => (some t219)) = some r := h
 clear h
 replace H := Option.bind_eq_some_iff.mp H
 obtain ⟨t219, A20, H⟩ := H
 replace H : (some t219) = some r := H
 have A2 := Aside0.mk A20
 clear A20
 obtain rfl := Option.some.inj H
 go_enter Try.func56, Try.ntmps56
 go_wp2_with (first | ((with_reducible refine gate_callee (f := 51) rfl ?_); refine goesL_ (some 4) rfl rfl Try.func51 (by kernel_rfl) rfl #[.int .i64 a0, .int .i64 0, .int .i64 7] rfl (by (try simp only [List.map_toArray, List.map_cons, List.map_nil]); first | done | rfl | (simp only [List.length_drop, List.length_take]; rfl)) ?_; (with_reducible refine (impl_in.calls a0 0 7 t219 _ A2.out).mono ?_); rintro e w' ⟨rfl, ⟨nd, rfl⟩⟩; refine ⟨_, rfl, ?_⟩))
 go_ret
 exact ⟨by first | rfl | (simp; done) | (simp [*]; done), by repeat (first | exact Drawn0.refl _ | apply Drawn0.step)⟩

end Go.Proofs.Ytpoddnhfnphdcaa.Q
