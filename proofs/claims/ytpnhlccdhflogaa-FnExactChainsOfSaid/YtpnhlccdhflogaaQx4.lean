-- Written by the program wip/tools/pr.py of this claim's session, over the kit's print.py.
import Derived.Test.YtpnhlccdhflogaaQx0
import Derived.Test.YtpnhlccdhflogaaQx3
namespace Go.Proofs.Ytpnhlccdhflogaa.Q
open Go.RowKit Go.Proofs.YtpnhlccdhflogaaW.PrintWords Go.Proofs.YtpnhlccdhflogaaW.PrintLast Go.Proofs.YtpnhlccdhflogaaW.PrintMore
attribute [local go_sem] max2_int min2_int max_two min_two max_three min_three max_four min_four   -- for this text's walks alone
set_option linter.unusedVariables false
set_option linter.unusedSimpArgs false

/-! ### impl_areWords: function 90 -/
def impl_areWords.f (l0 : List Int) : Option (Bool) := if (l0.length : Int) = 8 then ((slices_ContainsFunc_int_int.f l0 119).bind fun t201 => (some (!t201))) else (some false)
set_option maxHeartbeats 8000000 in
set_option maxRecDepth 100000 in
theorem impl_areWords.calls (A0 : Option Addr) (c0 : Nat) (l0 : List Int) (r : Bool) (w : World) (hr0 : Kd.C (Kd.int .i64) w A0 l0.length l0) (hc0 : l0.length ≤ c0) (h : impl_areWords.f l0 = some r) :
  Calls Try.prog 90 #[.slice A0 l0.length c0] w fun e w' => e = .returned (.bool r) ∧ Below w.heap.size w w' := by
 have HR0 := Aside0.mk hr0
 have HC0 := Aside0.mk hc0
 clear hr0 hc0
 have HB := Aside0.mk (Below.refl w.heap.size w)
 have H : (if (l0.length : Int) = 8 then ((slices_ContainsFunc_int_int.f l0 119).bind fun t201 => (some (!t201))) else (some false)) = some r := h
 clear h
 by_cases c2 : (l0.length : Int) = 8
 ·rw [if_pos c2] at H
  have c2b0 : ((l0.length : Int) == 8) = true := beq_iff_eq.mpr c2
  have c2b1 : ((l0.length : Int) != 8) = false := bne_eq_false_iff_eq.mpr c2
  clear c2
  replace H := lO H
  obtain ⟨t201, A3, H⟩ := H
  obtain rfl := Option.some.inj H
  go_enter Try.func90, Try.ntmps90
  go_wp2_with (first | (go_at_call 118; (with_reducible refine (slices_ContainsFunc_int_int.calls _ _ l0 119 t201 _ ?side1 ?side2 A3.out).mono ?_); (case side1 => repeat (first | exact HR0.out | (with_reducible refine Kd.C_alloc ?_ _) | (with_reducible refine Kd.C_drewN ?_ _) | (with_reducible refine Kd.C_drew ?_))); (case side2 => exact HC0.out); rintro e w4 ⟨rfl, hb⟩; have n0_ := Aside0.mk (below_step lB hb); clear HB; have HB := n0_; clear n0_; (try clear hb); (try clear hb2); (try clear hk); (try clear hi)))
  go_ret
  exact ⟨lE, lB⟩
 ·rw [if_neg c2] at H
  have c2b0 : ((l0.length : Int) == 8) = false := beq_eq_false_iff_ne.mpr c2
  have c2b1 : ((l0.length : Int) != 8) = true := bne_iff_ne.mpr c2
  obtain rfl := Option.some.inj H
  go_enter Try.func90, Try.ntmps90
  first | (go_wp2; go_ret; exact ⟨lE, lB⟩) | (exfalso; simp only [decide_eq_false_iff_not, decide_eq_true_eq] at *; omega)

/-! ### impl_CountEdges_1: function 89 -/
def impl_CountEdges_1.f (l0 : List Int) : Option (Bool) := (impl_areWords.f l0).bind fun t202 => (some (!t202))
set_option maxHeartbeats 8000000 in
set_option maxRecDepth 100000 in
theorem impl_CountEdges_1.calls (A0 : Option Addr) (c0 : Nat) (l0 : List Int) (r : Bool) (w : World) (hr0 : Kd.C (Kd.int .i64) w A0 l0.length l0) (hc0 : l0.length ≤ c0) (h : impl_CountEdges_1.f l0 = some r) :
  Calls Try.prog 89 #[.slice A0 l0.length c0] w fun e w' => e = .returned (.bool r) ∧ Below w.heap.size w w' := by
 have HR0 := Aside0.mk hr0
 have HC0 := Aside0.mk hc0
 clear hr0 hc0
 have HB := Aside0.mk (Below.refl w.heap.size w)
 have H : ((impl_areWords.f l0).bind fun t202 => (some (!t202))) = some r := h
 clear h
 replace H := lO H
 obtain ⟨t202, A2, H⟩ := H
 obtain rfl := Option.some.inj H
 go_enter Try.func89, Try.ntmps89
 go_wp2_with (first | ((with_reducible refine gate_callee (f := 90) rfl ?_); refine gl_ (some 4) (Try.func90) #[.slice A0 l0.length c0] ?_; (with_reducible refine (impl_areWords.calls _ _ l0 t202 _ ?side1 ?side2 A2.out).mono ?_); (case side1 => repeat (first | exact HR0.out | (with_reducible refine Kd.C_alloc ?_ _) | (with_reducible refine Kd.C_drewN ?_ _) | (with_reducible refine Kd.C_drew ?_))); (case side2 => exact HC0.out); rintro e w3 ⟨rfl, hb⟩; refine ⟨_, rfl, ?_⟩; have n0_ := Aside0.mk (below_step lB hb); clear HB; have HB := n0_; clear n0_; (try clear hb); (try clear hb2); (try clear hk); (try clear hi)))
 go_ret
 exact ⟨lE, lB⟩

-- NOT PRINTED: function 100 (impl_chainsOf_2)

-- NOT PRINTED: function 101 (impl_chainsOf_3)

/-! ### slices_IndexFunc_int_int_99: function 99 -/
-- slices.IndexFunc, whatever is asked
set_option maxHeartbeats 800000 in
set_option maxRecDepth 100000 in
theorem idx99_ (g : Nat) (caps : Array Value) (eg : ∀ args w, (callFunc g args).run Try.prog w = .ok (.enter g args) w) (p : (List Int) → Option Bool) (A0 : Option Addr) (c0 : Nat) (l0 : List (List Int)) (w : World) (hr0 : Kd.C (Kd.slice 3 (Kd.int .i64)) w A0 l0.length l0)
    (hp : ∀ (W : World) (x : List Int) (b : Bool) (A_0 : Option Addr) (c_0 : Nat), Below w.heap.size w W → x.length ≤ c_0 → Kd.C (Kd.int .i64) W A_0 x.length x → p x = some b → Calls Try.prog g (#[.slice A_0 x.length c_0] ++ caps) W fun e w' => e = .returned (.bool b) ∧ Below W.heap.size W w') (r : Int) (h : Kit.idxO p l0 0 = some r) :
    Calls Try.prog 99 #[.slice A0 l0.length c0, .func (.func g) #[] caps] w fun e w' => e = .returned (.int .i64 r) ∧ Below w.heap.size w w' := by
  have HR := Aside0.mk hr0
  have HP := Aside0.mk hp
  have HH := Aside0.mk h
  have hbig := hr0.2.1
  clear hr0 hp h
  go_enter Try.func99, Try.ntmps99
  go_wp2
  go_loopg [5, 8] l0.length (fun gg _ s8 wr => ∃ kk : Nat, kk ≤ l0.length ∧ l0.length - kk ≤ gg ∧ s8 = .int .i64 kk ∧ Aside0 (Below w.heap.size w wr) ∧ Aside0 (Kit.idxO p (l0.drop kk) kk = some r))
  case atStart => exact ⟨0, Nat.zero_le _, by omega, rfl, ⟨Below.refl _ _⟩, ⟨by simpa using HH.out⟩⟩
  case round =>
    obtain ⟨kk, hkk, hg, rfl, HB, HI⟩ := hrel
    by_cases hlt : kk < l0.length
    · have hltz : (kk : Int) < (l0.length : Int) := by omega
      have hd0 : decide (kk < l0.length) = true := decide_eq_true hlt
      obtain ⟨ad, A_0, c_0, e_, hx0, ⟨hl0, hC0⟩⟩ := at_L5 HR.out (kk : Int) (by omega) (by omega)
      cases e_
      replace hx0 := pw_cell_below HB.out hx0
      simp only [Int.toNat_natCast] at hx0
      replace hC0 := Kd.C_below hC0 HB.out
      have hd : l0.drop kk = rd_L5 l0 (kk : Int) :: l0.drop (kk + 1) := by
        rw [List.drop_eq_getElem_cons hlt]; simp [rd_L5, List.getD, hlt]
      generalize rd_L5 l0 (kk : Int) = y at hd hx0 hl0 hC0
      have HI' := HI.out
      rw [hd] at HI'
      simp only [Kit.idxO] at HI'
      obtain ⟨b, hb, hI⟩ := Option.bind_eq_some_iff.1 HI'
      have hcall := HP.out wr y b A_0 c_0 HB.out hl0 hC0 hb
      have HIb := Aside0.mk hI
      clear hI HI' hb hd HI hl0 hC0
      cases b with
      | true =>
        go_wp2_with fail
        refine hcall.mono ?_
        rintro e w2 ⟨rfl, hb2⟩
        clear hcall
        go_wp2_with fail
        go_ret
        have hI := HIb.out
        simp only [if_true, Option.some.injEq] at hI
        exact ⟨by subst hI; rfl, HB.out.trans (hb2.mono HB.out.size)⟩
      | false =>
        go_wp2_with fail
        refine hcall.mono ?_
        rintro e w2 ⟨rfl, hb2⟩
        clear hcall
        go_wp2_with fail
        go_roundg (l0.length - (kk + 1))
        case measure => omega
        case rel => exact ⟨kk + 1, by omega, by omega, by go_num, ⟨HB.out.trans (hb2.mono HB.out.size)⟩, ⟨by simpa using HIb.out⟩⟩
    · have hltz : ¬ (kk : Int) < (l0.length : Int) := by omega
      have hd0 : decide (kk < l0.length) = false := decide_eq_false hlt
      have hkl : kk = l0.length := by omega
      have hI := HI.out
      rw [hkl, List.drop_length] at hI
      simp [Kit.idxO] at hI
      clear HI hkl
      have HR2 := Aside0.mk hI
      clear hI
      go_wp2
      go_ret
      exact ⟨by have e_ := HR2.out; subst e_; rfl, HB.out⟩

/-! ### impl_chainsOf_4: function 103 -/
def impl_chainsOf_4.f (l0 : List Int) (l1 : List Int) : Option (Int) := if 0 < (l0.length : Int) then (if 0 < (l1.length : Int) then (some (wrap64 ((rd l0 0) - (rd l1 0)))) else (none)) else (none)
set_option maxHeartbeats 8000000 in
set_option maxRecDepth 100000 in
theorem impl_chainsOf_4.calls (A0 : Option Addr) (c0 : Nat) (l0 : List Int) (A1 : Option Addr) (c1 : Nat) (l1 : List Int) (r : Int) (w : World) (hr0 : Kd.C (Kd.int .i64) w A0 l0.length l0) (hc0 : l0.length ≤ c0) (hr1 : Kd.C (Kd.int .i64) w A1 l1.length l1) (hc1 : l1.length ≤ c1) (h : impl_chainsOf_4.f l0 l1 = some r) :
  Calls Try.prog 103 #[.slice A0 l0.length c0, .slice A1 l1.length c1] w fun e w' => e = .returned (.int .i64 r) ∧ Drawn0 w w' := by
 have HR0 := Aside0.mk hr0
 have HC0 := Aside0.mk hc0
 clear hr0 hc0
 have HR1 := Aside0.mk hr1
 have HC1 := Aside0.mk hc1
 clear hr1 hc1
 have H : (if 0 < (l0.length : Int) then (if 0 < (l1.length : Int) then (some (wrap64 ((rd l0 0) - (rd l1 0)))) else (none)) else (none)) = some r := h
 clear h
 by_cases c3 : 0 < (l0.length : Int)
 ·rw [if_pos c3] at H
  have c3b0 : decide (0 < (l0.length : Int)) = true := decide_eq_true c3
  have c3b1 : decide (0 < l0.length) = true := decide_eq_true (by omega)
  clear c3
  by_cases c4 : 0 < (l1.length : Int)
  ·rw [if_pos c4] at H
   have c4b0 : decide (0 < (l1.length : Int)) = true := decide_eq_true c4
   have c4b1 : decide (0 < l1.length) = true := decide_eq_true (by omega)
   clear c4
   obtain rfl := Option.some.inj H
   have p203 : 0 ≤ (0 : Int) := (by omega)
   have q203 : 0 < (l0.length : Int) := lD
   obtain ⟨ad203, e203, hx203_0⟩ := Kd.at_int HR0.out 0 p203 q203
   cases e203
   have qi203 : (0 < l0.length) = True := eq_true (by omega)
   (try rw [show ((0 : Int)).toNat = 0 from rfl] at hx203_0)
   (try rw [Addr.add_zero'] at hx203_0)
   replace p203 := eq_true p203
   replace q203 := eq_true q203
   have p204 : 0 ≤ (0 : Int) := (by omega)
   have q204 : 0 < (l1.length : Int) := lD
   obtain ⟨ad204, e204, hx204_0⟩ := Kd.at_int HR1.out 0 p204 q204
   cases e204
   have qi204 : (0 < l1.length) = True := eq_true (by omega)
   (try rw [show ((0 : Int)).toNat = 0 from rfl] at hx204_0)
   (try rw [Addr.add_zero'] at hx204_0)
   replace p204 := eq_true p204
   replace q204 := eq_true q204
   go_enter Try.func103, Try.ntmps103
   go_wp2
   repeat (go_quiet (fail); try go_wp2)
   go_ret
   exact ⟨by first | rfl | (simp; done) | (simp [*]; done), by repeat (first | exact Drawn0.refl _ | apply Drawn0.step)⟩
  ·rw [if_neg c4] at H
   exact absurd H (by simp)
 ·rw [if_neg c3] at H
  exact absurd H (by simp)

end Go.Proofs.Ytpnhlccdhflogaa.Q
