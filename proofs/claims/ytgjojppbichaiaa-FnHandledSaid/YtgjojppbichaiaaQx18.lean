-- Written by the program wip/tools/pr.py of this claim's session, over the kit's print.py.
import Derived.Test.YtgjojppbichaiaaQx0
import Derived.Test.YtgjojppbichaiaaQx1
import Derived.Test.YtgjojppbichaiaaQx2
import Derived.Test.YtgjojppbichaiaaQx16
import Derived.Test.YtgjojppbichaiaaQx17
namespace Go.Proofs.Ytgjojppbichaiaa.Q
open Go.RowKit Go.Proofs.YtgjojppbichaiaaW.PrintWords Go.Proofs.YtgjojppbichaiaaW.PrintLast Go.Proofs.YtgjojppbichaiaaW.PrintMore
attribute [local go_sem] max2_int min2_int max_two min_two max_three min_three max_four min_four   -- for this text's walks alone
set_option linter.unusedVariables false
set_option linter.unusedSimpArgs false
attribute [local go_sem high] eqA63 eqA86
mutual
def spec_l1Cur_xtree.j0 : Nat → List (S76) → Bool → List Int → Int → Int → Option ((List (S76)) × Int × Int)
 | 0, _, _, _, _, _ => none
 | k + 1, x3, x16, x1000, x1001, x1002 => if x16 = true then ((spec_l1Cur_tree16.f k x1000 x1001 x1002 2).bind fun bt316 => ((spec_l16Flat.f bt316.1 bt316.2.1 bt316.2.2.1 ([] : List (S76))).bind fun t323 => (spec_l1Cur_xtree.j1 k t323 x1000 bt316.2.2.2.1 bt316.2.2.2.2))) else (spec_l1Cur_xtree.j1 k x3 x1000 x1001 x1002)
def spec_l1Cur_xtree.j1 : Nat → List (S76) → List Int → Int → Int → Option ((List (S76)) × Int × Int)
 | 0, _, _, _, _ => none
 | k + 1, x3, x1000, x1001, x1002 => (spec_l1Cur_one.f x1000 x1001 x1002 30).bind fun bt326 => (if bt326.1 = true then ((spec_l1Cur_pick.f x1000 bt326.2.1 bt326.2.2 (x3.length : Int)).bind fun bt329 => ((spec_l1Cur_pick.f x1000 bt329.2.1 bt329.2.2 8).bind fun bt332 => ((spec_l1Cur_pick.f x1000 bt332.2.1 bt332.2.2 11).bind fun bt335 => (if 0 ≤ bt329.1 then (if bt329.1 < (x3.length : Int) then (some ((x3.set (bt329.1 : Int).toNat (⟨bt332.1, bt335.1⟩ : S76)), bt335.2.1, bt335.2.2)) else (none)) else (none))))) else (some (x3, bt326.2.1, bt326.2.2)))
end
def spec_l1Cur_xtree.f (k : Nat) (s0_0 : List Int) (s0_1 : Int) (s0_2 : Int) : Option ((List (S76)) × Int × Int) := (spec_l1Cur_pick.f s0_0 s0_1 s0_2 5).bind fun bt300 => ((spec_l1Cur_tree16.f k s0_0 bt300.2.1 bt300.2.2 bt300.1).bind fun bt303 => ((spec_l16Flat.f bt303.1 bt303.2.1 bt303.2.2.1 ([] : List (S76))).bind fun t310 => (if (t310.length : Int) > 30 then ((spec_l1Cur_one.f s0_0 bt303.2.2.2.1 bt303.2.2.2.2 4).bind fun bt313 => (spec_l1Cur_xtree.j0 k t310 (!bt313.1) s0_0 bt313.2.1 bt313.2.2)) else (spec_l1Cur_xtree.j0 k t310 false s0_0 bt303.2.2.2.1 bt303.2.2.2.2))))
set_option maxHeartbeats 8000000 in
set_option maxRecDepth 100000 in
theorem spec_l1Cur_xtree.calls (k : Nat) (g : Nat) (s0_0 : List Int) (s0_1 : Int) (s0_2 : Int) (r1 : List (S76)) (r2 : Int) (r3 : Int) (w0 w : World) (hI : IsS114 w0 w g s0_0 s0_1 s0_2) (hB : Below w0.heap.size w0 w) (h : spec_l1Cur_xtree.f k s0_0 s0_1 s0_2 = some (r1, r2, r3)) :
  Calls Try.prog 89 #[.pointer (some ⟨g, 0, none⟩)] w fun e w' => ∃ v0_ : Value, e = .returned (v0_) ∧ Kd.R k76 76 w' w.heap.size (fun _ => True) v0_ r1 ∧ IsS114 w0 w' g s0_0 r2 r3 ∧ Below w0.heap.size w0 w' ∧ KeepBut w w' g none := by
 have hu76 := Try.underlying76
 have HI0 := Aside0.mk hI
 have HK := Aside0.mk (KeepBut.refl w g none)
 have HL := Aside0.mk hB.size
 clear hI
 have HW0 := Aside0.mk hB.size
 have HB := Aside0.mk hB
 clear hB
 have H : ((spec_l1Cur_pick.f s0_0 s0_1 s0_2 5).bind fun bt300 => ((spec_l1Cur_tree16.f k s0_0 bt300.2.1 bt300.2.2 bt300.1).bind fun bt303 => ((spec_l16Flat.f bt303.1 bt303.2.1 bt303.2.2.1 ([] : List (S76))).bind fun t310 => (if (t310.length : Int) > 30 then ((spec_l1Cur_one.f s0_0 bt303.2.2.2.1 bt303.2.2.2.2 4).bind fun bt313 => (spec_l1Cur_xtree.j0 k t310 (!bt313.1) s0_0 bt313.2.1 bt313.2.2)) else (spec_l1Cur_xtree.j0 k t310 false s0_0 bt303.2.2.2.1 bt303.2.2.2.2))))) = some (r1, r2, r3) := h
 clear h
 replace H := Option.bind_eq_some_iff.mp H
 obtain ⟨⟨t300, t301, t302⟩, A20, H⟩ := H
 replace H : ((spec_l1Cur_tree16.f k s0_0 t301 t302 t300).bind fun bt303 => ((spec_l16Flat.f bt303.1 bt303.2.1 bt303.2.2.1 ([] : List (S76))).bind fun t310 => (if (t310.length : Int) > 30 then ((spec_l1Cur_one.f s0_0 bt303.2.2.2.1 bt303.2.2.2.2 4).bind fun bt313 => (spec_l1Cur_xtree.j0 k t310 (!bt313.1) s0_0 bt313.2.1 bt313.2.2)) else (spec_l1Cur_xtree.j0 k t310 false s0_0 bt303.2.2.2.1 bt303.2.2.2.2)))) = some (r1, r2, r3) := H
 have A2 := Aside0.mk A20
 clear A20
 replace H := Option.bind_eq_some_iff.mp H
 obtain ⟨⟨t303, t304, t305, t308, t309⟩, A30, H⟩ := H
 replace H : ((spec_l16Flat.f t303 t304 t305 ([] : List (S76))).bind fun t310 => (if (t310.length : Int) > 30 then ((spec_l1Cur_one.f s0_0 t308 t309 4).bind fun bt313 => (spec_l1Cur_xtree.j0 k t310 (!bt313.1) s0_0 bt313.2.1 bt313.2.2)) else (spec_l1Cur_xtree.j0 k t310 false s0_0 t308 t309))) = some (r1, r2, r3) := H
 have A3 := Aside0.mk A30
 clear A30
 replace H := lO H
 obtain ⟨t310, A4, H⟩ := H
 have HC5 := Aside0.mk H
 clear H
 go_enter Try.func89, Try.ntmps89
 go_upto_region 2 with (first | ((with_reducible refine gate_callee (f := 72) rfl ?_); refine gl_ (some 6) (Try.func72) #[.pointer (some ⟨g, 0, none⟩), .int .i64 5] ?_; (with_reducible refine (spec_l1Cur_pick.calls g s0_0 s0_1 s0_2 5 t300 t301 t302 w0 _ ?side1 ?side2 A2.out).mono ?_); (case side1 => repeat (first | (with_reducible first | exact HI0.out | apply IsS114.alloc | apply IsS114.drewN | apply IsS114.drew | apply IsS114.set_1 | apply IsS114.set_2) | exact HI0.out)); (case side2 => repeat (first | (with_reducible first | exact HB.out | apply below_alloc | apply pw_below_drewN | apply below_drew1 | refine below_set ?_ (IsS114.ge HI0.out)) | exact HB.out)); rintro e w6 ⟨rfl, hi, hb, hk⟩; refine ⟨_, rfl, ?_⟩; have n0_ := Aside0.mk (KeepBut.trans (by repeat (first | (with_reducible first | exact HK.out | apply KeepBut.set_ | apply keep_drewN | apply keep_drew | apply keep_alloc) | exact HK.out)) hk (.inl rfl)); have n1_ := Aside0.mk (hb); have n2_ := Aside0.mk (hi); clear HK; clear HB; clear HI0; have HK := n0_; have HB := n1_; have HI0 := n2_; clear n0_ n1_ n2_; (try clear hb); (try clear hb2); (try clear hk); (try clear hi)) | ((with_reducible refine gate_callee (f := 95) rfl ?_); refine gl_ (some 7) (Try.func95) #[.pointer (some ⟨g, 0, none⟩), .int .i64 t300] ?_; (with_reducible refine (spec_l1Cur_tree16.calls k g s0_0 t301 t302 t300 t303 t304 t305 t308 t309 w0 _ ?side1 ?side2 A3.out).mono ?_); (case side1 => repeat (first | (with_reducible first | exact HI0.out | apply IsS114.alloc | apply IsS114.drewN | apply IsS114.drew | apply IsS114.set_1 | apply IsS114.set_2) | exact HI0.out)); (case side2 => repeat (first | (with_reducible first | exact HB.out | apply below_alloc | apply pw_below_drewN | apply below_drew1 | refine below_set ?_ (IsS114.ge HI0.out)) | exact HB.out)); rintro e w7 ⟨v306, rfl, ho0, hi, hb, hk⟩; refine ⟨_, rfl, ?_⟩; have n0_ := Aside0.mk (Kd.R_lower ho0 (keep_size (w := w) (g := g) (row := none) (by repeat (first | (with_reducible first | exact HK.out | apply KeepBut.set_ | apply keep_drewN | apply keep_drew | apply keep_alloc) | exact HK.out)))); have n1_ := Aside0.mk (KeepBut.trans (by repeat (first | (with_reducible first | exact HK.out | apply KeepBut.set_ | apply keep_drewN | apply keep_drew | apply keep_alloc) | exact HK.out)) hk (.inl rfl)); have n2_ := Aside0.mk (hb); have n3_ := Aside0.mk (hi); clear HK; clear HB; clear HI0; have HO307 := n0_; have HK := n1_; have HB := n2_; have HI0 := n3_; clear n0_ n1_ n2_ n3_; (try clear hb); (try clear hb2); (try clear hk); (try clear hi); (try clear ho0); obtain ⟨Ao8, co8, eo8⟩ := Kd.R_slice HO307.out; subst eo8) | ((with_reducible refine gate_callee (f := 94) rfl ?_); refine gl_ (some 8) (Try.func94) #[.agg #[.int .i64 t303, .int .i64 t304, .slice Ao8 t305.length co8], .slice none 0 0] ?_; (refine (spec_l16Flat.calls t303 t304 _ _ t305 (fun k_ => some k_ = (.slice none 0 0 : Value).ownBlock) (.slice none 0 0) ([] : List (S76)) t310 w0 _ ?side1 ?side2 ?side3 ?side4 A4.out).mono ?_); (case side1 => repeat (first | (with_reducible first | exact HB.out | apply below_alloc | apply pw_below_drewN | apply below_drew1 | refine below_set ?_ (IsS114.ge HI0.out)) | exact HB.out)); (case side2 => exact Kd.C_kept_own (HO307.out) (fun k_ hk_ hs_ => (fun e_ => by simp [Value.ownBlock] at e_) hs_)); (case side3 => exact (Kd.R_reads' HO307.out).2.1); (case side4 => exact Kd.R_nil _ _ _ _ _); rintro e w9 ⟨v311, rfl, ho0, hb, hkp⟩; refine ⟨_, rfl, ?_⟩; have n0_ := Aside0.mk (IsS114.kept (by repeat (first | (with_reducible first | exact HI0.out | apply IsS114.alloc | apply IsS114.drewN | apply IsS114.drew | apply IsS114.set_1 | apply IsS114.set_2) | exact HI0.out)) hkp (fun hs_ => (fun e_ => by simp [Value.ownBlock] at e_) hs_)); have n1_ := Aside0.mk (Kd.R_mono (ok' := fun k_ => True) (Kd.R_keptB (HO307.out) hkp (fun k_ hk_ hs_ => (fun e_ => by simp [Value.ownBlock] at e_) hs_)) (fun k_ hk_ => trivial)); have n2_ := Aside0.mk (Kd.R_mono (ok' := fun k_ => True) (Kd.R_raise (d := k76) (b := w0.heap.size) (b' := w.heap.size) (fun _ _ _ _ h_ => h_) ho0 (fun k_ e_ => Or.elim (ho0.1 k_ e_) (fun hs_ => (fun e_ => by simp [Value.ownBlock] at e_) hs_) (fun hn_ => Nat.le_trans (keep_size (w := w) (g := g) (row := none) (by repeat (first | (with_reducible first | exact HK.out | apply KeepBut.set_ | apply keep_drewN | apply keep_drew | apply keep_alloc) | exact HK.out))) hn_))) (fun k_ hk_ => trivial)); have n3_ := Aside0.mk (Kept.keepG (by repeat (first | (with_reducible first | exact HK.out | apply KeepBut.set_ | apply keep_drewN | apply keep_drew | apply keep_alloc) | exact HK.out)) hkp (fun k_ hs_ => (fun e_ => by simp [Value.ownBlock] at e_) hs_)); have n4_ := Aside0.mk (hb); clear HI0; clear HO307; clear HK; clear HB; have HI0 := n0_; have HO307 := n1_; have HO312 := n2_; have HK := n3_; have HB := n4_; clear n0_ n1_ n2_ n3_ n4_; (try clear hb); (try clear hkp); (try clear ho0)))
 (try simp only [Act.put, List.setIfInBounds_toArray, List.set_cons_zero, List.set_cons_succ])
 go_cut [16] (fun v16 wc => ∃ (kq : Nat) (x16_4 : Bool) (x1001_4 : Int) (x1002_4 : Int), v16 = .bool x16_4 ∧ Aside0 (spec_l1Cur_xtree.j0 kq t310 x16_4 s0_0 x1001_4 x1002_4 = some (r1, r2, r3)) ∧ Aside0 (kq ≤ k) ∧ Aside0 (Kd.R k76 76 wc w.heap.size (fun _ => True) v311 t310) ∧ Aside0 (IsS114 w0 wc g s0_0 x1001_4 x1002_4) ∧ Aside0 (KeepBut w wc g none) ∧ Aside0 (Below w0.heap.size w0 wc))
 case first =>
  have H := HC5.out
  clear HC5
  by_cases c10 : (t310.length : Int) > 30
  ·rw [if_pos c10] at H
   have c10b0 : decide (30 < (t310.length : Int)) = true := decide_eq_true c10
   have c10b1 : decide (30 < t310.length) = true := decide_eq_true (by omega)
   clear c10
   (first | rw [c10b0] | (simp only [i64_w, i32_w]; rw [c10b0]) | skip)
   replace H := Option.bind_eq_some_iff.mp H
   obtain ⟨⟨t313, t314, t315⟩, A110, H⟩ := H
   replace H : (spec_l1Cur_xtree.j0 k t310 (!t313) s0_0 t314 t315) = some (r1, r2, r3) := H
   have A11 := Aside0.mk A110
   clear A110
   have H' := Aside0.mk H
   clear H
   obtain ⟨Ao12, co12, eo12⟩ := Kd.R_slice HO312.out
   subst eo12
   go_wp2_with (first | (go_at_call 90; (with_reducible refine (spec_l1Cur_one.calls g s0_0 t308 t309 4 t313 t314 t315 w0 _ ?side1 ?side2 A11.out).mono ?_); (case side1 => repeat (first | (with_reducible first | exact HI0.out | apply IsS114.alloc | apply IsS114.drewN | apply IsS114.drew | apply IsS114.set_1 | apply IsS114.set_2) | exact HI0.out)); (case side2 => repeat (first | (with_reducible first | exact HB.out | apply below_alloc | apply pw_below_drewN | apply below_drew1 | refine below_set ?_ (IsS114.ge HI0.out)) | exact HB.out)); rintro e w13 ⟨rfl, hi, hb, hk⟩; have n0_ := Aside0.mk (Kd.R_mono (Kd.R_keep (IsS114.apart (show IsS114 w0 _ g s0_0 t308 t309 from by repeat (first | (with_reducible first | exact HI0.out | apply IsS114.alloc | apply IsS114.drewN | apply IsS114.drew | apply IsS114.set_1 | apply IsS114.set_2) | exact HI0.out)) (lR HO307.out) (by decide)) hk (fun _ h => h.2)) (fun _ h => h.1)); have n1_ := Aside0.mk (Kd.R_mono (Kd.R_keep (IsS114.apart (show IsS114 w0 _ g s0_0 t308 t309 from by repeat (first | (with_reducible first | exact HI0.out | apply IsS114.alloc | apply IsS114.drewN | apply IsS114.drew | apply IsS114.set_1 | apply IsS114.set_2) | exact HI0.out)) (lR HO312.out) (by decide)) hk (fun _ h => h.2)) (fun _ h => h.1)); have n2_ := Aside0.mk (KeepBut.trans (by repeat (first | (with_reducible first | exact HK.out | apply KeepBut.set_ | apply keep_drewN | apply keep_drew | apply keep_alloc) | exact HK.out)) hk (.inl rfl)); have n3_ := Aside0.mk (hb); have n4_ := Aside0.mk (hi); clear HO307; clear HO312; clear HK; clear HB; clear HI0; have HO307 := n0_; have HO312 := n1_; have HK := n2_; have HB := n3_; have HI0 := n4_; clear n0_ n1_ n2_ n3_ n4_; (try clear hb); (try clear hb2); (try clear hk); (try clear hi)))
   go_meet
   case rel => exact ⟨_, (!t313), (t314), (t315), lF, H', ⟨lN⟩, ⟨lR HO312.out⟩, ⟨by repeat (first | (with_reducible first | exact HI0.out | apply IsS114.alloc | apply IsS114.drewN | apply IsS114.drew | apply IsS114.set_1 | apply IsS114.set_2) | exact HI0.out)⟩, ⟨by repeat (first | (with_reducible first | exact HK.out | apply KeepBut.set_ | apply keep_drewN | apply keep_drew | apply keep_alloc) | exact HK.out)⟩, ⟨by repeat (first | (with_reducible first | exact HB.out | apply below_alloc | apply pw_below_drewN | apply below_drew1 | refine below_set ?_ (IsS114.ge HI0.out)) | exact HB.out)⟩⟩
  ·rw [if_neg c10] at H
   have c10b0 : decide (30 < (t310.length : Int)) = false := decide_eq_false c10
   have c10b1 : decide (30 < t310.length) = false := decide_eq_false (by omega)
   clear c10
   (first | rw [c10b0] | (simp only [i64_w, i32_w]; rw [c10b0]) | skip)
   have H' := Aside0.mk H
   clear H
   obtain ⟨Ao14, co14, eo14⟩ := Kd.R_slice HO312.out
   subst eo14
   go_wp2
   go_meet
   case rel => exact ⟨_, (false), (t308), (t309), lF, H', ⟨lN⟩, ⟨lR HO312.out⟩, ⟨by repeat (first | (with_reducible first | exact HI0.out | apply IsS114.alloc | apply IsS114.drewN | apply IsS114.drew | apply IsS114.set_1 | apply IsS114.set_2) | exact HI0.out)⟩, ⟨by repeat (first | (with_reducible first | exact HK.out | apply KeepBut.set_ | apply keep_drewN | apply keep_drew | apply keep_alloc) | exact HK.out)⟩, ⟨by repeat (first | (with_reducible first | exact HB.out | apply below_alloc | apply pw_below_drewN | apply below_drew1 | refine below_set ?_ (IsS114.ge HI0.out)) | exact HB.out)⟩⟩
 case rest =>
  clear HC5
  try clear c1
  try clear p2
  try clear c7
  try clear c8
  try clear c9
  try clear c10
  try clear c10b0
  try clear c10b1
  obtain ⟨kq, x16_4, x1001_4, x1002_4, rfl, HA, HJ4, HO_3, HI0, HK, HB⟩ := hcut
  cases kq with
  | zero => exact absurd HA.out (by simp [spec_l1Cur_xtree.j0])
  | succ kj4 =>
   have H := HA.out
   clear HA
   simp only [spec_l1Cur_xtree.j0] at H
   have HC15 := Aside0.mk H
   clear H
   go_upto_if 16 with (fail)
   go_cut [3] (fun v3 wc => ∃ (kq : Nat) (x3_14 : List (S76)) (x1001_14 : Int) (x1002_14 : Int), Aside0 (spec_l1Cur_xtree.j1 kq x3_14 s0_0 x1001_14 x1002_14 = some (r1, r2, r3)) ∧ Aside0 (kq ≤ kj4) ∧ Aside0 (Kd.R k76 76 wc w.heap.size (fun _ => True) v3 x3_14) ∧ Aside0 (IsS114 w0 wc g s0_0 x1001_14 x1002_14) ∧ Aside0 (KeepBut w wc g none) ∧ Aside0 (Below w0.heap.size w0 wc))
   case first =>
    have H := HC15.out
    clear HC15
    by_cases c16 : x16_4 = true
    ·subst c16
     rw [if_pos rfl] at H
     replace H := Option.bind_eq_some_iff.mp H
     obtain ⟨⟨t316, t317, t318, t321, t322⟩, A170, H⟩ := H
     replace H : ((spec_l16Flat.f t316 t317 t318 ([] : List (S76))).bind fun t323 => (spec_l1Cur_xtree.j1 kj4 t323 s0_0 t321 t322)) = some (r1, r2, r3) := H
     have A17 := Aside0.mk A170
     clear A170
     replace H := lO H
     obtain ⟨t323, A18, H⟩ := H
     have H' := Aside0.mk H
     clear H
     go_wp2_with (first | ((with_reducible refine gate_callee (f := 95) rfl ?_); refine gl_ (some 18) (Try.func95) #[.pointer (some ⟨g, 0, none⟩), .int .i64 2] ?_; (with_reducible refine (spec_l1Cur_tree16.calls kj4 g s0_0 x1001_4 x1002_4 2 t316 t317 t318 t321 t322 w0 _ ?side1 ?side2 A17.out).mono ?_); (case side1 => repeat (first | (with_reducible first | exact HI0.out | apply IsS114.alloc | apply IsS114.drewN | apply IsS114.drew | apply IsS114.set_1 | apply IsS114.set_2) | exact HI0.out)); (case side2 => repeat (first | (with_reducible first | exact HB.out | apply below_alloc | apply pw_below_drewN | apply below_drew1 | refine below_set ?_ (IsS114.ge HI0.out)) | exact HB.out)); rintro e w19 ⟨v319, rfl, ho0, hi, hb, hk⟩; refine ⟨_, rfl, ?_⟩; have n0_ := Aside0.mk (Kd.R_mono (Kd.R_keep (IsS114.apart (show IsS114 w0 _ g s0_0 x1001_4 x1002_4 from by repeat (first | (with_reducible first | exact HI0.out | apply IsS114.alloc | apply IsS114.drewN | apply IsS114.drew | apply IsS114.set_1 | apply IsS114.set_2) | exact HI0.out)) (lR HO_3.out) (by decide)) hk (fun _ h => h.2)) (fun _ h => h.1)); have n1_ := Aside0.mk (Kd.R_lower ho0 (keep_size (w := w) (g := g) (row := none) (by repeat (first | (with_reducible first | exact HK.out | apply KeepBut.set_ | apply keep_drewN | apply keep_drew | apply keep_alloc) | exact HK.out)))); have n2_ := Aside0.mk (KeepBut.trans (by repeat (first | (with_reducible first | exact HK.out | apply KeepBut.set_ | apply keep_drewN | apply keep_drew | apply keep_alloc) | exact HK.out)) hk (.inl rfl)); have n3_ := Aside0.mk (hb); have n4_ := Aside0.mk (hi); clear HO_3; clear HK; clear HB; clear HI0; have HO_3 := n0_; have HO320 := n1_; have HK := n2_; have HB := n3_; have HI0 := n4_; clear n0_ n1_ n2_ n3_ n4_; (try clear hb); (try clear hb2); (try clear hk); (try clear hi); (try clear ho0); obtain ⟨Ao20, co20, eo20⟩ := Kd.R_slice HO320.out; subst eo20) | ((with_reducible refine gate_callee (f := 94) rfl ?_); refine gl_ (some 19) (Try.func94) #[.agg #[.int .i64 t316, .int .i64 t317, .slice Ao20 t318.length co20], .slice none 0 0] ?_; (refine (spec_l16Flat.calls t316 t317 _ _ t318 (fun k_ => some k_ = (.slice none 0 0 : Value).ownBlock) (.slice none 0 0) ([] : List (S76)) t323 w0 _ ?side1 ?side2 ?side3 ?side4 A18.out).mono ?_); (case side1 => repeat (first | (with_reducible first | exact HB.out | apply below_alloc | apply pw_below_drewN | apply below_drew1 | refine below_set ?_ (IsS114.ge HI0.out)) | exact HB.out)); (case side2 => exact Kd.C_kept_own (HO320.out) (fun k_ hk_ hs_ => (fun e_ => by simp [Value.ownBlock] at e_) hs_)); (case side3 => exact (Kd.R_reads' HO320.out).2.1); (case side4 => exact Kd.R_nil _ _ _ _ _); rintro e w21 ⟨v324, rfl, ho0, hb, hkp⟩; refine ⟨_, rfl, ?_⟩; have n0_ := Aside0.mk (Kd.R_mono (ok' := fun k_ => some k_ ≠ (v324 : Value).ownBlock) (Kd.R_keptB (HO_3.out) hkp (fun k_ hk_ hs_ => (fun e_ => by simp [Value.ownBlock] at e_) hs_)) (fun k_ hk_ => fun e_ => Or.elim (ho0.1 k_ e_.symm) (fun hs_ => hk_.2.1 (by first | exact hs_ | exact .inl hs_)) (fun hn_ => Nat.not_le.2 hk_.2.2 hn_))); have n1_ := Aside0.mk (IsS114.kept (by repeat (first | (with_reducible first | exact HI0.out | apply IsS114.alloc | apply IsS114.drewN | apply IsS114.drew | apply IsS114.set_1 | apply IsS114.set_2) | exact HI0.out)) hkp (fun hs_ => (fun e_ => by simp [Value.ownBlock] at e_) hs_)); have n2_ := Aside0.mk (Kd.R_mono (ok' := fun k_ => True) (Kd.R_keptB (HO320.out) hkp (fun k_ hk_ hs_ => (fun e_ => by simp [Value.ownBlock] at e_) hs_)) (fun k_ hk_ => trivial)); have n3_ := Aside0.mk (Kd.R_mono (ok' := fun k_ => some k_ ≠ (v311 : Value).ownBlock) (Kd.R_raise (d := k76) (b := w0.heap.size) (b' := w.heap.size) (fun _ _ _ _ h_ => h_) ho0 (fun k_ e_ => Or.elim (ho0.1 k_ e_) (fun hs_ => (fun e_ => by simp [Value.ownBlock] at e_) hs_) (fun hn_ => Nat.le_trans (keep_size (w := w) (g := g) (row := none) (by repeat (first | (with_reducible first | exact HK.out | apply KeepBut.set_ | apply keep_drewN | apply keep_drew | apply keep_alloc) | exact HK.out))) hn_))) (fun k_ hk_ => Or.elim hk_ (fun hs_ => absurd hs_ (by simp [Value.ownBlock])) (fun hn_ => (Kd.fresh' (Kd.R_lt (lR HO_3.out)) k_ hn_)))); have n4_ := Aside0.mk (Kept.keepG (by repeat (first | (with_reducible first | exact HK.out | apply KeepBut.set_ | apply keep_drewN | apply keep_drew | apply keep_alloc) | exact HK.out)) hkp (fun k_ hs_ => (fun e_ => by simp [Value.ownBlock] at e_) hs_)); have n5_ := Aside0.mk (hb); clear HO_3; clear HI0; clear HO320; clear HK; clear HB; have HO_3 := n0_; have HI0 := n1_; have HO320 := n2_; have HO325 := n3_; have HK := n4_; have HB := n5_; clear n0_ n1_ n2_ n3_ n4_ n5_; (try clear hb); (try clear hkp); (try clear ho0)))
     go_meet
     case rel => exact ⟨_, (t323), (t321), (t322), H', ⟨by have := HJ4.out; first | omega | exact Nat.le_refl _⟩, ⟨by (with_reducible repeat (first | apply Kd.R_alloc | apply Kd.R_drewN | apply Kd.R_drew)); exact Kd.R_mono HO325.out (fun _ hk => trivial)⟩, ⟨by repeat (first | (with_reducible first | exact HI0.out | apply IsS114.alloc | apply IsS114.drewN | apply IsS114.drew | apply IsS114.set_1 | apply IsS114.set_2) | exact HI0.out)⟩, ⟨by repeat (first | (with_reducible first | exact HK.out | apply KeepBut.set_ | apply keep_drewN | apply keep_drew | apply keep_alloc) | exact HK.out)⟩, ⟨by repeat (first | (with_reducible first | exact HB.out | apply below_alloc | apply pw_below_drewN | apply below_drew1 | refine below_set ?_ (IsS114.ge HI0.out)) | exact HB.out)⟩⟩
    ·replace c16 := Bool.eq_false_iff.mpr c16
     subst c16
     rw [if_neg (show ¬ (false = true) by decide)] at H
     have H' := Aside0.mk H
     clear H
     go_wp2
     go_meet
     case rel => exact ⟨_, (t310), (x1001_4), (x1002_4), H', ⟨by have := HJ4.out; first | omega | exact Nat.le_refl _⟩, ⟨lR HO_3.out⟩, ⟨by repeat (first | (with_reducible first | exact HI0.out | apply IsS114.alloc | apply IsS114.drewN | apply IsS114.drew | apply IsS114.set_1 | apply IsS114.set_2) | exact HI0.out)⟩, ⟨by repeat (first | (with_reducible first | exact HK.out | apply KeepBut.set_ | apply keep_drewN | apply keep_drew | apply keep_alloc) | exact HK.out)⟩, ⟨by repeat (first | (with_reducible first | exact HB.out | apply below_alloc | apply pw_below_drewN | apply below_drew1 | refine below_set ?_ (IsS114.ge HI0.out)) | exact HB.out)⟩⟩
   case rest =>
    clear HC15
    try clear c1
    try clear p2
    try clear c7
    try clear c8
    try clear c9
    try clear c10
    try clear c10b0
    try clear c10b1
    try clear c16
    try clear p2
    obtain ⟨kq, x3_14, x1001_14, x1002_14, HA, HJ14, HO_3, HI0, HK, HB⟩ := hcut
    cases kq with
    | zero => exact absurd HA.out (by simp [spec_l1Cur_xtree.j1])
    | succ kj14 =>
     have H := HA.out
     clear HA
     simp only [spec_l1Cur_xtree.j1] at H
     replace H := Option.bind_eq_some_iff.mp H
     obtain ⟨⟨t326, t327, t328⟩, A220, H⟩ := H
     replace H : (if t326 = true then ((spec_l1Cur_pick.f s0_0 t327 t328 (x3_14.length : Int)).bind fun bt329 => ((spec_l1Cur_pick.f s0_0 bt329.2.1 bt329.2.2 8).bind fun bt332 => ((spec_l1Cur_pick.f s0_0 bt332.2.1 bt332.2.2 11).bind fun bt335 => (if 0 ≤ bt329.1 then (if bt329.1 < (x3_14.length : Int) then (some ((x3_14.set (bt329.1 : Int).toNat (⟨bt332.1, bt335.1⟩ : S76)), bt335.2.1, bt335.2.2)) else (none)) else (none))))) else (some (x3_14, t327, t328))) = some (r1, r2, r3) := H
     have A22 := Aside0.mk A220
     clear A220
     by_cases c23 : t326 = true
     ·subst c23
      rw [if_pos rfl] at H
      replace H := Option.bind_eq_some_iff.mp H
      obtain ⟨⟨t329, t330, t331⟩, A240, H⟩ := H
      replace H : ((spec_l1Cur_pick.f s0_0 t330 t331 8).bind fun bt332 => ((spec_l1Cur_pick.f s0_0 bt332.2.1 bt332.2.2 11).bind fun bt335 => (if 0 ≤ t329 then (if t329 < (x3_14.length : Int) then (some ((x3_14.set (t329 : Int).toNat (⟨bt332.1, bt335.1⟩ : S76)), bt335.2.1, bt335.2.2)) else (none)) else (none)))) = some (r1, r2, r3) := H
      have A24 := Aside0.mk A240
      clear A240
      replace H := Option.bind_eq_some_iff.mp H
      obtain ⟨⟨t332, t333, t334⟩, A250, H⟩ := H
      replace H : ((spec_l1Cur_pick.f s0_0 t333 t334 11).bind fun bt335 => (if 0 ≤ t329 then (if t329 < (x3_14.length : Int) then (some ((x3_14.set (t329 : Int).toNat (⟨t332, bt335.1⟩ : S76)), bt335.2.1, bt335.2.2)) else (none)) else (none))) = some (r1, r2, r3) := H
      have A25 := Aside0.mk A250
      clear A250
      replace H := Option.bind_eq_some_iff.mp H
      obtain ⟨⟨t335, t336, t337⟩, A260, H⟩ := H
      replace H : (if 0 ≤ t329 then (if t329 < (x3_14.length : Int) then (some ((x3_14.set (t329 : Int).toNat (⟨t332, t335⟩ : S76)), t336, t337)) else (none)) else (none)) = some (r1, r2, r3) := H
      have A26 := Aside0.mk A260
      clear A260
      by_cases c27 : 0 ≤ t329
      ·rw [if_pos c27] at H
       have c27b0 : decide (0 ≤ t329) = true := decide_eq_true c27
       clear c27
       by_cases c28 : t329 < (x3_14.length : Int)
       ·rw [if_pos c28] at H
        have c28b0 : decide (t329 < (x3_14.length : Int)) = true := decide_eq_true c28
        clear c28
        obtain ⟨y338, hy338⟩ : ∃ y_ : List (S76), y_ = (x3_14.set (t329 : Int).toNat (⟨t332, t335⟩ : S76)) := ⟨_, rfl⟩
        replace H : (some (y338, t336, t337)) = some (r1, r2, r3) := by first | (rw [hy338]; with_reducible exact H) | (have H2_ := (Option.bind_some _ _).symm.trans H; rw [hy338]; with_reducible exact H2_) | (have H2_ := (Option.bind_some _ _).symm.trans H; with_reducible exact H2_) | with_reducible exact H | (rw [hy338]; exact H) | exact H
        have Ny338 := Aside0.mk hy338
        clear hy338
        simp only [Option.some.injEq, Prod.mk.injEq] at H
        obtain ⟨rfl, rfl, rfl⟩ := H
        go_wp2_with (first | ((with_reducible refine gate_callee (f := 90) rfl ?_); refine gl_ (some 21) (Try.func90) #[.pointer (some ⟨g, 0, none⟩), .int .i64 30] ?_; (with_reducible refine (spec_l1Cur_one.calls g s0_0 x1001_14 x1002_14 30 true t327 t328 w0 _ ?side1 ?side2 A22.out).mono ?_); (case side1 => repeat (first | (with_reducible first | exact HI0.out | apply IsS114.alloc | apply IsS114.drewN | apply IsS114.drew | apply IsS114.set_1 | apply IsS114.set_2) | exact HI0.out)); (case side2 => repeat (first | (with_reducible first | exact HB.out | apply below_alloc | apply pw_below_drewN | apply below_drew1 | refine below_set ?_ (IsS114.ge HI0.out)) | exact HB.out)); rintro e w30 ⟨rfl, hi, hb, hk⟩; refine ⟨_, rfl, ?_⟩; have n0_ := Aside0.mk (Kd.R_mono (Kd.R_keep (IsS114.apart (show IsS114 w0 _ g s0_0 x1001_14 x1002_14 from by repeat (first | (with_reducible first | exact HI0.out | apply IsS114.alloc | apply IsS114.drewN | apply IsS114.drew | apply IsS114.set_1 | apply IsS114.set_2) | exact HI0.out)) (lR HO_3.out) (by decide)) hk (fun _ h => h.2)) (fun _ h => h.1)); have n1_ := Aside0.mk (KeepBut.trans (by repeat (first | (with_reducible first | exact HK.out | apply KeepBut.set_ | apply keep_drewN | apply keep_drew | apply keep_alloc) | exact HK.out)) hk (.inl rfl)); have n2_ := Aside0.mk (hb); have n3_ := Aside0.mk (hi); clear HO_3; clear HK; clear HB; clear HI0; have HO_3 := n0_; have HK := n1_; have HB := n2_; have HI0 := n3_; clear n0_ n1_ n2_ n3_; (try clear hb); (try clear hb2); (try clear hk); (try clear hi); obtain ⟨Ao31, co31, eo31⟩ := Kd.R_slice HO_3.out; subst eo31) | ((with_reducible refine gate_callee (f := 72) rfl ?_); refine gl_ (some 26) (Try.func72) #[.pointer (some ⟨g, 0, none⟩), .int .i64 (x3_14.length : Int)] ?_; (with_reducible refine (spec_l1Cur_pick.calls g s0_0 t327 t328 (x3_14.length : Int) t329 t330 t331 w0 _ ?side1 ?side2 A24.out).mono ?_); (case side1 => repeat (first | (with_reducible first | exact HI0.out | apply IsS114.alloc | apply IsS114.drewN | apply IsS114.drew | apply IsS114.set_1 | apply IsS114.set_2) | exact HI0.out)); (case side2 => repeat (first | (with_reducible first | exact HB.out | apply below_alloc | apply pw_below_drewN | apply below_drew1 | refine below_set ?_ (IsS114.ge HI0.out)) | exact HB.out)); rintro e w32 ⟨rfl, hi, hb, hk⟩; refine ⟨_, rfl, ?_⟩; have n0_ := Aside0.mk (Kd.R_mono (Kd.R_keep (IsS114.apart (show IsS114 w0 _ g s0_0 t327 t328 from by repeat (first | (with_reducible first | exact HI0.out | apply IsS114.alloc | apply IsS114.drewN | apply IsS114.drew | apply IsS114.set_1 | apply IsS114.set_2) | exact HI0.out)) (lR HO_3.out) (by decide)) hk (fun _ h => h.2)) (fun _ h => h.1)); have n1_ := Aside0.mk (KeepBut.trans (by repeat (first | (with_reducible first | exact HK.out | apply KeepBut.set_ | apply keep_drewN | apply keep_drew | apply keep_alloc) | exact HK.out)) hk (.inl rfl)); have n2_ := Aside0.mk (hb); have n3_ := Aside0.mk (hi); clear HO_3; clear HK; clear HB; clear HI0; have HO_3 := n0_; have HK := n1_; have HB := n2_; have HI0 := n3_; clear n0_ n1_ n2_ n3_; (try clear hb); (try clear hb2); (try clear hk); (try clear hi)) | ((with_reducible refine gate_callee (f := 72) rfl ?_); refine gl_ (some 28) (Try.func72) #[.pointer (some ⟨g, 0, none⟩), .int .i64 8] ?_; (with_reducible refine (spec_l1Cur_pick.calls g s0_0 t330 t331 8 t332 t333 t334 w0 _ ?side1 ?side2 A25.out).mono ?_); (case side1 => repeat (first | (with_reducible first | exact HI0.out | apply IsS114.alloc | apply IsS114.drewN | apply IsS114.drew | apply IsS114.set_1 | apply IsS114.set_2) | exact HI0.out)); (case side2 => repeat (first | (with_reducible first | exact HB.out | apply below_alloc | apply pw_below_drewN | apply below_drew1 | refine below_set ?_ (IsS114.ge HI0.out)) | exact HB.out)); rintro e w33 ⟨rfl, hi, hb, hk⟩; refine ⟨_, rfl, ?_⟩; have n0_ := Aside0.mk (Kd.R_mono (Kd.R_keep (IsS114.apart (show IsS114 w0 _ g s0_0 t330 t331 from by repeat (first | (with_reducible first | exact HI0.out | apply IsS114.alloc | apply IsS114.drewN | apply IsS114.drew | apply IsS114.set_1 | apply IsS114.set_2) | exact HI0.out)) (lR HO_3.out) (by decide)) hk (fun _ h => h.2)) (fun _ h => h.1)); have n1_ := Aside0.mk (KeepBut.trans (by repeat (first | (with_reducible first | exact HK.out | apply KeepBut.set_ | apply keep_drewN | apply keep_drew | apply keep_alloc) | exact HK.out)) hk (.inl rfl)); have n2_ := Aside0.mk (hb); have n3_ := Aside0.mk (hi); clear HO_3; clear HK; clear HB; clear HI0; have HO_3 := n0_; have HK := n1_; have HB := n2_; have HI0 := n3_; clear n0_ n1_ n2_ n3_; (try clear hb); (try clear hb2); (try clear hk); (try clear hi)) | ((with_reducible refine gate_callee (f := 72) rfl ?_); refine gl_ (some 30) (Try.func72) #[.pointer (some ⟨g, 0, none⟩), .int .i64 11] ?_; (with_reducible refine (spec_l1Cur_pick.calls g s0_0 t333 t334 11 t335 t336 t337 w0 _ ?side1 ?side2 A26.out).mono ?_); (case side1 => repeat (first | (with_reducible first | exact HI0.out | apply IsS114.alloc | apply IsS114.drewN | apply IsS114.drew | apply IsS114.set_1 | apply IsS114.set_2) | exact HI0.out)); (case side2 => repeat (first | (with_reducible first | exact HB.out | apply below_alloc | apply pw_below_drewN | apply below_drew1 | refine below_set ?_ (IsS114.ge HI0.out)) | exact HB.out)); rintro e w34 ⟨rfl, hi, hb, hk⟩; refine ⟨_, rfl, ?_⟩; have n0_ := Aside0.mk (Kd.R_mono (Kd.R_keep (IsS114.apart (show IsS114 w0 _ g s0_0 t333 t334 from by repeat (first | (with_reducible first | exact HI0.out | apply IsS114.alloc | apply IsS114.drewN | apply IsS114.drew | apply IsS114.set_1 | apply IsS114.set_2) | exact HI0.out)) (lR HO_3.out) (by decide)) hk (fun _ h => h.2)) (fun _ h => h.1)); have n1_ := Aside0.mk (KeepBut.trans (by repeat (first | (with_reducible first | exact HK.out | apply KeepBut.set_ | apply keep_drewN | apply keep_drew | apply keep_alloc) | exact HK.out)) hk (.inl rfl)); have n2_ := Aside0.mk (hb); have n3_ := Aside0.mk (hi); clear HO_3; clear HK; clear HB; clear HI0; have HO_3 := n0_; have HK := n1_; have HB := n2_; have HI0 := n3_; clear n0_ n1_ n2_ n3_; (try clear hb); (try clear hb2); (try clear hk); (try clear hi); have p29 : 0 ≤ (t329 : Int) := lD; have q29 : (t329 : Int) < ((x3_14.length : Int) : Int) := lD; obtain ⟨go29, co29, eo29, gb29, gl29, cl29, HG29⟩ := Kd.R_form HO_3.out (by omega); (first | cases eo29 | (injection eo29 with ea_ en_ ec_; (first | subst ea_ | (injection ea_ with ea_; subst ea_)); subst ec_; clear en_)); have GB29 := Aside0.mk gb29; have GG29 := Aside0.mk HG29; clear gb29 gl29 HG29; obtain ⟨ce29, hcl29, hM29, hcc29, hfr29⟩ := Kd.R_elem HO_3.out z76 (t329 : Int) p29 q29; obtain rfl := k76_openM hM29; have hx29_0 : w34.cell? ⟨go29, (t329 : Int).toNat * 2, none⟩ = some (.int .i64 ((rd_T76 x3_14 t329).f0)) := hcc29 0 _ rfl; have hx29_1 : w34.cell? ⟨go29, (t329 : Int).toNat * 2 + 1, none⟩ = some (.int .i64 ((rd_T76 x3_14 t329).f1)) := hcc29 1 _ rfl; have hf29_0 : w34.frozen? ⟨go29, (t329 : Int).toNat * 2, none⟩ = false := hfr29 0; have hf29_1 : w34.frozen? ⟨go29, (t329 : Int).toNat * 2 + 1, none⟩ = false := hfr29 1; clear hcl29 hcc29 hfr29; (try clear hM29); replace p29 := eq_true p29; replace q29 := eq_true q29; have HX35 := Aside0.mk (show Kd.R k76 76 w34 w.heap.size (fun _ => True) (.slice (some ⟨go29, 0, none⟩) x3_14.length co31) x3_14 from (lR HO_3.out)); obtain ⟨ce35, hcl35, hM35, hcc35, hfr35⟩ := Kd.R_elem HX35.out z76 (t329 : Int) (lD) (by have h_ : (t329 : Int) < ((x3_14.length : Int) : Int) := lD; first | exact h_ | (have e_ := (Kd.R_reads' HO_3.out).1; omega) | simpa using h_); obtain rfl := k76_openM hM35; have HP35 := Kd.R_seg HX35.out (t329 : Int) (lD) (by have h_ : (t329 : Int) < ((x3_14.length : Int) : Int) := lD; first | exact h_ | (have e_ := (Kd.R_reads' HO_3.out).1; omega) | simpa using h_) (seg := [.int .i64 t332, .int .i64 t335]) (j := 0) hcl35 hcc35 (show 2 ≤ 2 from by decide) (x' := (⟨t332, t335⟩ : S76)) (k76_mkM _ _ _ (⟨t332, t335⟩ : S76) ) (fun _ hk => hk); have hx35_0 := hcc35 0 _ rfl; (try simp only [show (k76).sz = 2 from rfl, Nat.mul_one, Nat.add_zero] at hx35_0); have hf35_0 := hfr35 0; (try simp only [show (k76).sz = 2 from rfl, Nat.mul_one, Nat.add_zero] at hf35_0); have hx35_1 := hcc35 1 _ rfl; (try simp only [show (k76).sz = 2 from rfl, Nat.mul_one, Nat.add_zero] at hx35_1); have hf35_1 := hfr35 1; (try simp only [show (k76).sz = 2 from rfl, Nat.mul_one, Nat.add_zero] at hf35_1); clear hcl35 hcc35 hfr35; (try clear hM35)) | ((with_reducible refine gate_store (t := 76) (p := 32) rfl ?_); refine store_event (t := 76) (p := 32) (v := ?vo_w36) (w1 := ((w34.setCell ⟨go29, (t329 : Int).toNat * 2, none⟩ (.int .i64 t332)).setCell ⟨go29, (t329 : Int).toNat * 2 + 1, none⟩ (.int .i64 t335))) ?hg ?ho ?hn ?hr ?_; (case ho => rfl); (case hg => rfl); (case hn => rfl); (case hr => first | (go_simp; done) | (go_simp; rfl)); intro w36 hw; have hg : w34.grownBy w36 (some go29) := (by rw [hw]; exact HP35.2); have hp_ : Kd.R k76 76 w36 w.heap.size (fun _ => True) (.slice (some ⟨go29, 0, none⟩) x3_14.length co31) y338 := (by rw [hw, Ny338.out]; exact HP35.1); clear HP35; have n0_ := Aside0.mk (hp_); have n1_ := Aside0.mk (IsS114.grown (by repeat (first | (with_reducible first | exact HI0.out | apply IsS114.alloc | apply IsS114.drewN | apply IsS114.drew | apply IsS114.set_1 | apply IsS114.set_2) | exact HI0.out)) hg (IsS114.own_ne HI0.out HO_3.out (by decide))); have n2_ := Aside0.mk ((by rw [hw]; exact below_set (below_set (HB.out) (Nat.le_trans HL.out GB29.out)) (Nat.le_trans HL.out GB29.out) : Below w0.heap.size w0 w36)); have n3_ := Aside0.mk (KeepBut.trans (by repeat (first | (with_reducible first | exact HK.out | apply KeepBut.set_ | apply keep_drewN | apply keep_drew | apply keep_alloc) | exact HK.out)) (KeepBut.of_grown hg g) (Kd.R_base2 HO_3.out)); clear HO_3; clear HI0; clear HB; clear HK; have HO_3 := n0_; have HI0 := n1_; have HB := n2_; have HK := n3_; clear n0_ n1_ n2_ n3_; clear hg hw hp_))
        go_ret
        exact ⟨_, lE, lR HO_3.out, by repeat (first | (with_reducible first | exact HI0.out | apply IsS114.alloc | apply IsS114.drewN | apply IsS114.drew | apply IsS114.set_1 | apply IsS114.set_2) | exact HI0.out), by repeat (first | (with_reducible first | exact HB.out | apply below_alloc | apply pw_below_drewN | apply below_drew1 | refine below_set ?_ (IsS114.ge HI0.out)) | exact HB.out), by repeat (first | (with_reducible first | exact HK.out | apply KeepBut.set_ | apply keep_drewN | apply keep_drew | apply keep_alloc) | exact HK.out)⟩
       ·rw [if_neg c28] at H
        exact absurd H (by simp)
      ·rw [if_neg c27] at H
       exact absurd H (by simp)
     ·replace c23 := Bool.eq_false_iff.mpr c23
      subst c23
      rw [if_neg (show ¬ (false = true) by decide)] at H
      simp only [Option.some.injEq, Prod.mk.injEq] at H
      obtain ⟨rfl, rfl, rfl⟩ := H
      go_wp2_with (first | ((with_reducible refine gate_callee (f := 90) rfl ?_); refine gl_ (some 21) (Try.func90) #[.pointer (some ⟨g, 0, none⟩), .int .i64 30] ?_; (with_reducible refine (spec_l1Cur_one.calls g s0_0 x1001_14 x1002_14 30 false t327 t328 w0 _ ?side1 ?side2 A22.out).mono ?_); (case side1 => repeat (first | (with_reducible first | exact HI0.out | apply IsS114.alloc | apply IsS114.drewN | apply IsS114.drew | apply IsS114.set_1 | apply IsS114.set_2) | exact HI0.out)); (case side2 => repeat (first | (with_reducible first | exact HB.out | apply below_alloc | apply pw_below_drewN | apply below_drew1 | refine below_set ?_ (IsS114.ge HI0.out)) | exact HB.out)); rintro e w37 ⟨rfl, hi, hb, hk⟩; refine ⟨_, rfl, ?_⟩; have n0_ := Aside0.mk (Kd.R_mono (Kd.R_keep (IsS114.apart (show IsS114 w0 _ g s0_0 x1001_14 x1002_14 from by repeat (first | (with_reducible first | exact HI0.out | apply IsS114.alloc | apply IsS114.drewN | apply IsS114.drew | apply IsS114.set_1 | apply IsS114.set_2) | exact HI0.out)) (lR HO_3.out) (by decide)) hk (fun _ h => h.2)) (fun _ h => h.1)); have n1_ := Aside0.mk (KeepBut.trans (by repeat (first | (with_reducible first | exact HK.out | apply KeepBut.set_ | apply keep_drewN | apply keep_drew | apply keep_alloc) | exact HK.out)) hk (.inl rfl)); have n2_ := Aside0.mk (hb); have n3_ := Aside0.mk (hi); clear HO_3; clear HK; clear HB; clear HI0; have HO_3 := n0_; have HK := n1_; have HB := n2_; have HI0 := n3_; clear n0_ n1_ n2_ n3_; (try clear hb); (try clear hb2); (try clear hk); (try clear hi)))
      go_ret
      exact ⟨_, lE, lR HO_3.out, by repeat (first | (with_reducible first | exact HI0.out | apply IsS114.alloc | apply IsS114.drewN | apply IsS114.drew | apply IsS114.set_1 | apply IsS114.set_2) | exact HI0.out), by repeat (first | (with_reducible first | exact HB.out | apply below_alloc | apply pw_below_drewN | apply below_drew1 | refine below_set ?_ (IsS114.ge HI0.out)) | exact HB.out), by repeat (first | (with_reducible first | exact HK.out | apply KeepBut.set_ | apply keep_drewN | apply keep_drew | apply keep_alloc) | exact HK.out)⟩
def spec_DrawGoodTree2.f (k : Nat) (l0 : List Int) : Option ((List (S76))) := (spec_l1Cur_xtree.f k l0 0 0).bind fun bt340 => (some bt340.1)
set_option maxHeartbeats 8000000 in
set_option maxRecDepth 100000 in
theorem spec_DrawGoodTree2.calls (k : Nat) (A0 : Option Addr) (c0 : Nat) (l0 : List Int) (r : List (S76)) (w : World) (hr0 : Kd.C (Kd.int .u8) w A0 l0.length l0) (hc0 : l0.length ≤ c0) (h : spec_DrawGoodTree2.f k l0 = some r) :
  Calls Try.prog 74 #[.slice A0 l0.length c0] w fun e w' => ∃ v0_ : Value, e = .returned (v0_) ∧ Kd.R k76 76 w' w.heap.size (fun _ => True) v0_ r ∧ Below w.heap.size w w' := by
 have hu114 := Try.underlying114
 have HR0 := Aside0.mk hr0
 have HC0 := Aside0.mk hc0
 clear hr0 hc0
 have HB := Aside0.mk (Below.refl w.heap.size w)
 have H : ((spec_l1Cur_xtree.f k l0 0 0).bind fun bt340 => (some bt340.1)) = some r := h
 clear h
 replace H := Option.bind_eq_some_iff.mp H
 obtain ⟨⟨t340, t343, t344⟩, A20, H⟩ := H
 replace H : (some t340) = some r := H
 have A2 := Aside0.mk A20
 clear A20
 obtain rfl := Option.some.inj H
 go_enter Try.func74, Try.ntmps74
 go_wp2_with (first | ((with_reducible refine gate_dst (N := 6) rfl ?_); refine bxe 6 #[.slice A0 l0.length c0, .int .i64 0, .int .u64 0] 114 ?_; intro gb339 hg w3 hbox hb; have n0_ := Aside0.mk (below_step lB hb); have n1_ := lG w hg; have n2_ := lG w hg; have n3_ := Aside0.mk ((show IsS114 w _ gb339 l0 0 0 from ⟨_, _, hbox, (by rw [hg]; exact (below_size lB)), HR0.out⟩)); clear HB; have HB := n0_; have GW339 := n1_; have GE339 := n2_; have HI339 := n3_; clear n0_ n1_ n2_ n3_; clear hb hbox hg) | ((with_reducible refine gate_callee (f := 89) rfl ?_); refine gl_ (some 8) (Try.func89) #[.pointer (some ⟨gb339, 0, none⟩)] ?_; (with_reducible refine (spec_l1Cur_xtree.calls k gb339 l0 0 0 t340 t343 t344 w _ ?side1 ?side2 A2.out).mono ?_); (case side1 => repeat (first | (with_reducible first | exact HI339.out | apply IsS114.alloc | apply IsS114.drewN | apply IsS114.drew | apply IsS114.set_1 | apply IsS114.set_2) | exact HI339.out)); (case side2 => repeat (first | (with_reducible first | exact HB.out | apply below_alloc | apply pw_below_drewN | apply below_drew1 | refine below_set ?_ (IsS114.ge HI339.out)) | exact HB.out)); rintro e w4 ⟨v341, rfl, ho0, hi, hb, hk⟩; refine ⟨_, rfl, ?_⟩; have n0_ := Aside0.mk (Kd.R_lower ho0 (below_size (by repeat (first | (with_reducible first | exact HB.out | apply below_alloc | apply pw_below_drewN | apply below_drew1 | refine below_set ?_ (IsS114.ge HI339.out)) | exact HB.out)))); have n1_ := Aside0.mk (hb); have n2_ := Aside0.mk (hi); clear HB; clear HI339; have HO342 := n0_; have HB := n1_; have HI339 := n2_; clear n0_ n1_ n2_; (try clear hb); (try clear hb2); (try clear hk); (try clear hi); (try clear ho0)))
 go_ret
 exact ⟨_, lE, lR HO342.out, by repeat (first | (with_reducible first | exact HB.out | apply below_alloc | apply pw_below_drewN | apply below_drew1 | refine below_set ?_ (IsS114.ge HI339.out)) | exact HB.out)⟩
def spec_DrawLineTree.f (k : Nat) (l0 : List Int) : Option ((List (S76))) := (spec_DrawGoodTree2.f k l0).bind fun t345 => (some t345)
set_option maxHeartbeats 8000000 in
set_option maxRecDepth 100000 in
theorem spec_DrawLineTree.calls (k : Nat) (A0 : Option Addr) (c0 : Nat) (l0 : List Int) (r : List (S76)) (w : World) (hr0 : Kd.C (Kd.int .u8) w A0 l0.length l0) (hc0 : l0.length ≤ c0) (h : spec_DrawLineTree.f k l0 = some r) :
  Calls Try.prog 41 #[.slice A0 l0.length c0] w fun e w' => ∃ v0_ : Value, e = .returned (v0_) ∧ Kd.R k76 76 w' w.heap.size (fun _ => True) v0_ r ∧ Below w.heap.size w w' := by
 have HR0 := Aside0.mk hr0
 have HC0 := Aside0.mk hc0
 clear hr0 hc0
 have HB := Aside0.mk (Below.refl w.heap.size w)
 have H : ((spec_DrawGoodTree2.f k l0).bind fun t345 => (some t345)) = some r := h
 clear h
 replace H := lO H
 obtain ⟨t345, A2, H⟩ := H
 obtain rfl := Option.some.inj H
 go_enter Try.func41, Try.ntmps41
 go_wp2_with (first | ((with_reducible refine gate_callee (f := 74) rfl ?_); refine gl_ (some 4) (Try.func74) #[.slice A0 l0.length c0] ?_; (with_reducible refine (spec_DrawGoodTree2.calls k _ _ l0 t345 _ ?side1 ?side2 A2.out).mono ?_); (case side1 => repeat (first | exact HR0.out | (with_reducible refine Kd.C_alloc ?_ _) | (with_reducible refine Kd.C_drewN ?_ _) | (with_reducible refine Kd.C_drew ?_))); (case side2 => exact HC0.out); rintro e w3 ⟨v346, rfl, ho0, hb⟩; refine ⟨_, rfl, ?_⟩; have n0_ := Aside0.mk (Kd.R_lower ho0 (below_size lB)); have n1_ := Aside0.mk (below_step lB hb); clear HB; have HO347 := n0_; have HB := n1_; clear n0_ n1_; (try clear hb); (try clear hb2); (try clear hk); (try clear hi); (try clear ho0)))
 go_ret
 exact ⟨_, lE, lR HO347.out, lB⟩
mutual
def laws_sameLined.j0 : Nat → Bool → List (S86) → List (S63) → List (S86) → List (S63) → Option (Bool)
 | 0, _, _, _, _, _ => none
 | k + 1, x22, x349000, x349001, x350000, x350001 => if x22 = true then (some false) else (laws_sameLined.l0 k (x349000.length : Int) 0 x349000 x349001 x350000 x350001)
def laws_sameLined.l0 : Nat → Int → Int → List (S86) → List (S63) → List (S86) → List (S63) → Option (Bool)
 | 0, _, _, _, _, _, _ => none
 | k + 1, x25, x26, x349000, x349001, x350000, x350001 => if x26 < x25 then (if 0 ≤ x26 then (if x26 < (x349000.length : Int) then (if x26 < (x350000.length : Int) then (if (!(((rd_T86 x349000 x26).f0) == ((rd_T86 x350000 x26).f0)) || (!(((rd_T86 x349000 x26).f1) == ((rd_T86 x350000 x26).f1)) || (!(((rd_T86 x349000 x26).f2) == ((rd_T86 x350000 x26).f2))))) = true then (some false) else (laws_sameLined.l0 k x25 (wrap64 (x26 + 1)) x349000 x349001 x350000 x350001)) else (none)) else (none)) else (none)) else (laws_sameLined.l1 k (x349001.length : Int) 0 x349000 x349001 x350000 x350001)
def laws_sameLined.l1 : Nat → Int → Int → List (S86) → List (S63) → List (S86) → List (S63) → Option (Bool)
 | 0, _, _, _, _, _, _ => none
 | k + 1, x43, x44, x349000, x349001, x350000, x350001 => if x44 < x43 then (if 0 ≤ x44 then (if x44 < (x349001.length : Int) then (if x44 < (x350001.length : Int) then (if (!(((rd_T63 x349001 x44).f0) == ((rd_T63 x350001 x44).f0)) || (!(((rd_T63 x349001 x44).f1) == ((rd_T63 x350001 x44).f1)) || (!(((rd_T63 x349001 x44).f2) == ((rd_T63 x350001 x44).f2)) || (!(((rd_T63 x349001 x44).f3) == ((rd_T63 x350001 x44).f3)))))) = true then (some false) else (laws_sameLined.l1 k x43 (wrap64 (x44 + 1)) x349000 x349001 x350000 x350001)) else (none)) else (none)) else (none)) else (some true)
end
def laws_sameLined.f (k : Nat) (l0_0 : List (S86)) (l0_1 : List (S63)) (l1_0 : List (S86)) (l1_1 : List (S63)) : Option (Bool) := if (l0_0.length : Int) = (l1_0.length : Int) then (laws_sameLined.j0 k ((l0_1.length : Int) != (l1_1.length : Int)) l0_0 l0_1 l1_0 l1_1) else (laws_sameLined.j0 k true l0_0 l0_1 l1_0 l1_1)
set_option maxHeartbeats 8000000 in
set_option maxRecDepth 100000 in
theorem laws_sameLined.calls (k : Nat) (A0_0 : Option Addr) (c0_0 : Nat) (l0_0 : List (S86)) (A0_1 : Option Addr) (c0_1 : Nat) (l0_1 : List (S63)) (A1_0 : Option Addr) (c1_0 : Nat) (l1_0 : List (S86)) (A1_1 : Option Addr) (c1_1 : Nat) (l1_1 : List (S63)) (r : Bool) (w : World) (hr0_0 : Kd.C k86 w A0_0 l0_0.length l0_0) (hc0_0 : l0_0.length ≤ c0_0) (hr0_1 : Kd.C k63 w A0_1 l0_1.length l0_1) (hc0_1 : l0_1.length ≤ c0_1) (hr1_0 : Kd.C k86 w A1_0 l1_0.length l1_0) (hc1_0 : l1_0.length ≤ c1_0) (hr1_1 : Kd.C k63 w A1_1 l1_1.length l1_1) (hc1_1 : l1_1.length ≤ c1_1) (h : laws_sameLined.f k l0_0 l0_1 l1_0 l1_1 = some r) :
  Calls Try.prog 42 #[.agg #[.slice A0_0 l0_0.length c0_0, .slice A0_1 l0_1.length c0_1], .agg #[.slice A1_0 l1_0.length c1_0, .slice A1_1 l1_1.length c1_1]] w fun e w' => e = .returned (.bool r) ∧ Below w.heap.size w w' := by
 have hu38 := Try.underlying38
 have hu86 := Try.underlying86
 have hu63 := Try.underlying63
 have HR0_0 := Aside0.mk hr0_0
 have HC0_0 := Aside0.mk hc0_0
 clear hr0_0 hc0_0
 have HR0_1 := Aside0.mk hr0_1
 have HC0_1 := Aside0.mk hc0_1
 clear hr0_1 hc0_1
 have HR1_0 := Aside0.mk hr1_0
 have HC1_0 := Aside0.mk hc1_0
 clear hr1_0 hc1_0
 have HR1_1 := Aside0.mk hr1_1
 have HC1_1 := Aside0.mk hc1_1
 clear hr1_1 hc1_1
 have HB := Aside0.mk (Below.refl w.heap.size w)
 have H : (if (l0_0.length : Int) = (l1_0.length : Int) then (laws_sameLined.j0 k ((l0_1.length : Int) != (l1_1.length : Int)) l0_0 l0_1 l1_0 l1_1) else (laws_sameLined.j0 k true l0_0 l0_1 l1_0 l1_1)) = some r := h
 clear h
 have HC3 := Aside0.mk H
 clear H
 go_enter Try.func42, Try.ntmps42
 go_upto_region 1 with (first | ((with_reducible refine gate_dst (N := 2) rfl ?_); (try (refine gate_guard (by rfl) ?_; dsimp only)); refine bxe 2 #[.slice A0_0 l0_0.length c0_0, .slice A0_1 l0_1.length c0_1] 38 ?_; intro gb348 hg w4 hbox hb; have n0_ := Aside0.mk (below_step lB hb); have n1_ := Aside0.mk (hbox); have n2_ := lG w hg; have n3_ := lG w hg; clear HB; have HB := n0_; have BK348 := n1_; have GW348 := n2_; have GE348 := n3_; clear n0_ n1_ n2_ n3_; clear hb hbox hg) | ((with_reducible refine gate_dst (N := 3) rfl ?_); (try (refine gate_guard (by rfl) ?_; dsimp only)); refine bxe 3 #[.slice A1_0 l1_0.length c1_0, .slice A1_1 l1_1.length c1_1] 38 ?_; intro gb349 hg w5 hbox hb; have n0_ := Aside0.mk (blk_below (lK BK348.out) hb); have n1_ := Aside0.mk (below_step lB hb); have n2_ := Aside0.mk (hbox); have n3_ := lG w hg; have n4_ := lG w hg; have n5_ := Aside0.mk ((by rw [hg]; exact Nat.ne_of_lt (blk_lt (lK BK348.out)) : gb348 ≠ gb349)); have n6_ := Aside0.mk ((by rw [hg]; exact Nat.ne_of_gt (blk_lt (lK BK348.out)) : gb349 ≠ gb348)); clear BK348; clear HB; have BK348 := n0_; have HB := n1_; have BK349 := n2_; have GW349 := n3_; have GE349 := n4_; have NB348_349 := n5_; have NB349_348 := n6_; clear n0_ n1_ n2_ n3_ n4_ n5_ n6_; clear hb hbox hg))
 repeat (go_quiet (fail); go_upto_region 1 with (first | ((with_reducible refine gate_dst (N := 2) rfl ?_); (try (refine gate_guard (by rfl) ?_; dsimp only)); refine bxe 2 #[.slice A0_0 l0_0.length c0_0, .slice A0_1 l0_1.length c0_1] 38 ?_; intro gb348 hg w4 hbox hb; have n0_ := Aside0.mk (below_step lB hb); have n1_ := Aside0.mk (hbox); have n2_ := lG w hg; have n3_ := lG w hg; clear HB; have HB := n0_; have BK348 := n1_; have GW348 := n2_; have GE348 := n3_; clear n0_ n1_ n2_ n3_; clear hb hbox hg) | ((with_reducible refine gate_dst (N := 3) rfl ?_); (try (refine gate_guard (by rfl) ?_; dsimp only)); refine bxe 3 #[.slice A1_0 l1_0.length c1_0, .slice A1_1 l1_1.length c1_1] 38 ?_; intro gb349 hg w5 hbox hb; have n0_ := Aside0.mk (blk_below (lK BK348.out) hb); have n1_ := Aside0.mk (below_step lB hb); have n2_ := Aside0.mk (hbox); have n3_ := lG w hg; have n4_ := lG w hg; have n5_ := Aside0.mk ((by rw [hg]; exact Nat.ne_of_lt (blk_lt (lK BK348.out)) : gb348 ≠ gb349)); have n6_ := Aside0.mk ((by rw [hg]; exact Nat.ne_of_gt (blk_lt (lK BK348.out)) : gb349 ≠ gb348)); clear BK348; clear HB; have BK348 := n0_; have HB := n1_; have BK349 := n2_; have GW349 := n3_; have GE349 := n4_; have NB348_349 := n5_; have NB349_348 := n6_; clear n0_ n1_ n2_ n3_ n4_ n5_ n6_; clear hb hbox hg)))
 (try simp only [Act.put, List.setIfInBounds_toArray, List.set_cons_zero, List.set_cons_succ])
 go_cut [22] (fun v22 wc => ∃ (kq : Nat) (x22_2 : Bool), v22 = .bool x22_2 ∧ Aside0 (laws_sameLined.j0 kq x22_2 l0_0 l0_1 l1_0 l1_1 = some r) ∧ Aside0 (kq ≤ k) ∧ Aside0 (wc.heap[gb348]? = some (.cells #[(.slice A0_0 l0_0.length c0_0), (.slice A0_1 l0_1.length c0_1)] 38 (0, 0))) ∧ Aside0 (wc.heap[gb349]? = some (.cells #[(.slice A1_0 l1_0.length c1_0), (.slice A1_1 l1_1.length c1_1)] 38 (0, 0))) ∧ Aside0 (Below w.heap.size w wc))
 case first =>
  have H := HC3.out
  clear HC3
  by_cases c6 : (l0_0.length : Int) = (l1_0.length : Int)
  ·rw [if_pos c6] at H
   have c6b0 : ((l0_0.length : Int) == (l1_0.length : Int)) = true := beq_iff_eq.mpr c6
   have c6b1 : ((l0_0.length : Int) != (l1_0.length : Int)) = false := bne_eq_false_iff_eq.mpr c6
   have c6b2 : (l0_0.length == l1_0.length) = true := by first | simpa using c6 | (simp at c6 ⊢; omega)
   clear c6
   (first | rw [c6b0] | (simp only [i64_w, i32_w]; rw [c6b0]) | skip)
   have H' := Aside0.mk H
   clear H
   have hnb7 := NB348_349.out
   have hnc7 := NB349_348.out
   obtain ⟨hcz8_0, hfz8_0, hcz8_1, hfz8_1⟩ := bk2 BK348.out
   obtain ⟨hcz9_0, hfz9_0, hcz9_1, hfz9_1⟩ := bk2 BK349.out
   go_wp2
   repeat (go_quiet (fail); try go_wp2)
   go_meet
   case rel => exact ⟨_, (((l0_1.length : Int) != (l1_1.length : Int))), lF, H', ⟨lN⟩, ⟨lK BK348.out⟩, ⟨lK BK349.out⟩, ⟨lB⟩⟩
  ·rw [if_neg c6] at H
   have c6b0 : ((l0_0.length : Int) == (l1_0.length : Int)) = false := beq_eq_false_iff_ne.mpr c6
   have c6b1 : ((l0_0.length : Int) != (l1_0.length : Int)) = true := bne_iff_ne.mpr c6
   have c6b2 : (l0_0.length == l1_0.length) = false := by first | simpa using c6 | (simp at c6 ⊢; omega)
   (first | rw [c6b0] | (simp only [i64_w, i32_w]; rw [c6b0]) | skip)
   have H' := Aside0.mk H
   clear H
   have hnb10 := NB348_349.out
   have hnc10 := NB349_348.out
   obtain ⟨hcz11_0, hfz11_0, hcz11_1, hfz11_1⟩ := bk2 BK348.out
   obtain ⟨hcz12_0, hfz12_0, hcz12_1, hfz12_1⟩ := bk2 BK349.out
   go_wp2
   repeat (go_quiet (fail); try go_wp2)
   go_meet
   case rel => exact ⟨_, (true), lF, H', ⟨lN⟩, ⟨lK BK348.out⟩, ⟨lK BK349.out⟩, ⟨lB⟩⟩
 case rest =>
  clear HC3
  try clear c1
  try clear p2
  try clear c4
  try clear c6
  try clear c6b0
  try clear c6b1
  try clear c6b2
  try clear c7
  try clear c10
  try clear hcz11_0 hcz11_1
  try clear hcz12_0 hcz12_1
  try clear hcz8_0 hcz8_1
  try clear hcz9_0 hcz9_1
  try clear hfz11_0 hfz11_1
  try clear hfz12_0 hfz12_1
  try clear hfz8_0 hfz8_1
  try clear hfz9_0 hfz9_1
  obtain ⟨kq, x22_2, rfl, HA, HJ2, BK348, BK349, HB⟩ := hcut
  cases kq with
  | zero => exact absurd HA.out (by simp [laws_sameLined.j0])
  | succ kj2 =>
   have H := HA.out
   clear HA
   simp only [laws_sameLined.j0] at H
   by_cases c13 : x22_2 = true
   ·subst c13
    rw [if_pos rfl] at H
    obtain rfl := Option.some.inj H
    go_wp2
    repeat (go_quiet (fail); try go_wp2)
    go_ret
    exact ⟨lE, lB⟩
   ·replace c13 := Bool.eq_false_iff.mpr c13
    subst c13
    rw [if_neg (show ¬ (false = true) by decide)] at H
    have H' := Aside0.mk H
    clear H
    have hnb14 := NB348_349.out
    have hnc14 := NB349_348.out
    obtain ⟨hcz15_0, hfz15_0, hcz15_1, hfz15_1⟩ := bk2 BK348.out
    go_wp2
    repeat (go_quiet (fail); try go_wp2)
    go_loopg [26] kj2 (fun kq v26 w' => ∃ (x26_2 : Int), v26 = .int .i64 x26_2 ∧ Aside0 (laws_sameLined.l0 kq (l0_0.length : Int) x26_2 l0_0 l0_1 l1_0 l1_1 = some r) ∧ Aside0 (kq ≤ kj2) ∧ Aside0 (w'.heap[gb348]? = some (.cells #[(.slice A0_0 l0_0.length c0_0), (.slice A0_1 l0_1.length c0_1)] 38 (0, 0))) ∧ Aside0 (w'.heap[gb349]? = some (.cells #[(.slice A1_0 l1_0.length c1_0), (.slice A1_1 l1_1.length c1_1)] 38 (0, 0))) ∧ Aside0 (Below w.heap.size w w'))
    case atStart => exact ⟨(0), lF, H', ⟨Nat.le_refl _⟩, ⟨lK BK348.out⟩, ⟨lK BK349.out⟩, ⟨lB⟩⟩
    case round =>
     clear H'
     try clear c1
     try clear p2
     try clear c4
     try clear c6
     try clear c6b0
     try clear c6b1
     try clear c6b2
     try clear c7
     try clear c10
     try clear c13
     try clear c14
     try clear hcz11_0 hcz11_1
     try clear hcz12_0 hcz12_1
     try clear hcz15_0 hcz15_1
     try clear hcz8_0 hcz8_1
     try clear hcz9_0 hcz9_1
     try clear hfz11_0 hfz11_1
     try clear hfz12_0 hfz12_1
     try clear hfz15_0 hfz15_1
     try clear hfz8_0 hfz8_1
     try clear hfz9_0 hfz9_1
     try clear p2
     obtain ⟨x26_2, rfl, HA, HK2, BK348, BK349, HB⟩ := hrel
     cases gk with
     | zero => exact absurd HA.out (by simp [laws_sameLined.l0])
     | succ k2 =>
      have H := HA.out
      clear HA
      simp only [laws_sameLined.l0] at H
      by_cases c16 : x26_2 < (l0_0.length : Int)
      ·rw [if_pos c16] at H
       have c16b0 : decide (x26_2 < (l0_0.length : Int)) = true := decide_eq_true c16
       clear c16
       by_cases c17 : 0 ≤ x26_2
       ·rw [if_pos c17] at H
        have c17b0 : decide (0 ≤ x26_2) = true := decide_eq_true c17
        clear c17
        by_cases c18 : x26_2 < (l0_0.length : Int)
        ·rw [if_pos c18] at H
         have c18b0 : decide (x26_2 < (l0_0.length : Int)) = true := decide_eq_true c18
         clear c18
         by_cases c19 : x26_2 < (l1_0.length : Int)
         ·rw [if_pos c19] at H
          have c19b0 : decide (x26_2 < (l1_0.length : Int)) = true := decide_eq_true c19
          clear c19
          by_cases c20 : (!(((rd_T86 l0_0 x26_2).f0) == ((rd_T86 l1_0 x26_2).f0)) || (!(((rd_T86 l0_0 x26_2).f1) == ((rd_T86 l1_0 x26_2).f1)) || (!(((rd_T86 l0_0 x26_2).f2) == ((rd_T86 l1_0 x26_2).f2))))) = true
          ·rw [if_pos c20] at H
           have c20b0 : (!(((rd_T86 l0_0 x26_2).f0) == ((rd_T86 l1_0 x26_2).f0)) || (!(((rd_T86 l0_0 x26_2).f1) == ((rd_T86 l1_0 x26_2).f1)) || (!(((rd_T86 l0_0 x26_2).f2) == ((rd_T86 l1_0 x26_2).f2))))) = true := c20
           clear c20
           obtain rfl := Option.some.inj H
           have hnb21 := NB348_349.out
           have hnc21 := NB349_348.out
           obtain ⟨hcz22_0, hfz22_0, hcz22_1, hfz22_1⟩ := bk2 BK348.out
           have p350 : 0 ≤ (x26_2 : Int) := lD
           have q350 : x26_2 < (l0_0.length : Int) := lD
           obtain ⟨ad350, e350, hx350_0, hx350_1, hx350_2⟩ := at_T86 HR0_0.out x26_2 p350 q350
           cases e350
           replace hx350_0 := pw_cell_below HB.out hx350_0
           replace hx350_1 := pw_cell_below HB.out hx350_1
           replace hx350_2 := pw_cell_below HB.out hx350_2
           replace p350 := eq_true p350
           replace q350 := eq_true q350
           obtain ⟨hcz23_0, hfz23_0, hcz23_1, hfz23_1⟩ := bk2 BK349.out
           have p351 : 0 ≤ (x26_2 : Int) := lD
           have q351 : x26_2 < (l1_0.length : Int) := lD
           obtain ⟨ad351, e351, hx351_0, hx351_1, hx351_2⟩ := at_T86 HR1_0.out x26_2 p351 q351
           cases e351
           replace hx351_0 := pw_cell_below HB.out hx351_0
           replace hx351_1 := pw_cell_below HB.out hx351_1
           replace hx351_2 := pw_cell_below HB.out hx351_2
           replace p351 := eq_true p351
           replace q351 := eq_true q351
           go_wp2
           repeat (go_quiet (fail); try go_wp2)
           go_ret
           exact ⟨lE, lB⟩
          ·rw [if_neg c20] at H
           have c20b0 : (!(((rd_T86 l0_0 x26_2).f0) == ((rd_T86 l1_0 x26_2).f0)) || (!(((rd_T86 l0_0 x26_2).f1) == ((rd_T86 l1_0 x26_2).f1)) || (!(((rd_T86 l0_0 x26_2).f2) == ((rd_T86 l1_0 x26_2).f2))))) = false := by simpa using c20
           clear c20
           have H' := Aside0.mk H
           clear H
           have hnb24 := NB348_349.out
           have hnc24 := NB349_348.out
           obtain ⟨hcz25_0, hfz25_0, hcz25_1, hfz25_1⟩ := bk2 BK348.out
           have p350 : 0 ≤ (x26_2 : Int) := lD
           have q350 : x26_2 < (l0_0.length : Int) := lD
           obtain ⟨ad350, e350, hx350_0, hx350_1, hx350_2⟩ := at_T86 HR0_0.out x26_2 p350 q350
           cases e350
           replace hx350_0 := pw_cell_below HB.out hx350_0
           replace hx350_1 := pw_cell_below HB.out hx350_1
           replace hx350_2 := pw_cell_below HB.out hx350_2
           replace p350 := eq_true p350
           replace q350 := eq_true q350
           obtain ⟨hcz26_0, hfz26_0, hcz26_1, hfz26_1⟩ := bk2 BK349.out
           have p351 : 0 ≤ (x26_2 : Int) := lD
           have q351 : x26_2 < (l1_0.length : Int) := lD
           obtain ⟨ad351, e351, hx351_0, hx351_1, hx351_2⟩ := at_T86 HR1_0.out x26_2 p351 q351
           cases e351
           replace hx351_0 := pw_cell_below HB.out hx351_0
           replace hx351_1 := pw_cell_below HB.out hx351_1
           replace hx351_2 := pw_cell_below HB.out hx351_2
           replace p351 := eq_true p351
           replace q351 := eq_true q351
           go_wp2
           repeat (go_quiet (fail); try go_wp2)
           go_roundg k2
           case measure => have := HJ2.out; have := HK2.out; omega
           case rel => exact ⟨(wrap64 (x26_2 + 1)), lF, H', ⟨by have := HJ2.out; have := HK2.out; omega⟩, ⟨lK BK348.out⟩, ⟨lK BK349.out⟩, ⟨lB⟩⟩
         ·rw [if_neg c19] at H
          exact absurd H (by simp)
        ·rw [if_neg c18] at H
         exact absurd H (by simp)
       ·rw [if_neg c17] at H
        exact absurd H (by simp)
      ·rw [if_neg c16] at H
       have c16b0 : decide (x26_2 < (l0_0.length : Int)) = false := decide_eq_false c16
       clear c16
       have H' := Aside0.mk H
       clear H
       have hnb27 := NB348_349.out
       have hnc27 := NB349_348.out
       obtain ⟨hcz28_0, hfz28_0, hcz28_1, hfz28_1⟩ := bk2 BK348.out
       go_wp2
       repeat (go_quiet (fail); try go_wp2)
       go_loopg [44] k2 (fun kq v44 w' => ∃ (x44_3 : Int), v44 = .int .i64 x44_3 ∧ Aside0 (laws_sameLined.l1 kq (l0_1.length : Int) x44_3 l0_0 l0_1 l1_0 l1_1 = some r) ∧ Aside0 (kq ≤ k2) ∧ Aside0 (w'.heap[gb348]? = some (.cells #[(.slice A0_0 l0_0.length c0_0), (.slice A0_1 l0_1.length c0_1)] 38 (0, 0))) ∧ Aside0 (w'.heap[gb349]? = some (.cells #[(.slice A1_0 l1_0.length c1_0), (.slice A1_1 l1_1.length c1_1)] 38 (0, 0))) ∧ Aside0 (Below w.heap.size w w'))
       case atStart => exact ⟨(0), lF, H', ⟨Nat.le_refl _⟩, ⟨lK BK348.out⟩, ⟨lK BK349.out⟩, ⟨lB⟩⟩
       case round =>
        clear H'
        try clear c1
        try clear c2
        try clear p2
        try clear p3
        try clear q3
        try clear hx3
        try clear c4
        try clear c6
        try clear c6b0
        try clear c6b1
        try clear c6b2
        try clear p6
        try clear c7
        try clear c10
        try clear c13
        try clear c14
        try clear c16
        try clear c16b0
        try clear c17
        try clear c17b0
        try clear c18
        try clear c18b0
        try clear c19
        try clear c19b0
        try clear c20
        try clear c20b0
        try clear c21
        try clear c24
        try clear c27
        try clear hcz11_0 hcz11_1
        try clear hcz12_0 hcz12_1
        try clear hcz15_0 hcz15_1
        try clear hcz22_0 hcz22_1
        try clear hcz23_0 hcz23_1
        try clear hcz25_0 hcz25_1
        try clear hcz26_0 hcz26_1
        try clear hcz28_0 hcz28_1
        try clear hcz8_0 hcz8_1
        try clear hcz9_0 hcz9_1
        try clear hfz11_0 hfz11_1
        try clear hfz12_0 hfz12_1
        try clear hfz15_0 hfz15_1
        try clear hfz22_0 hfz22_1
        try clear hfz23_0 hfz23_1
        try clear hfz25_0 hfz25_1
        try clear hfz26_0 hfz26_1
        try clear hfz28_0 hfz28_1
        try clear hfz8_0 hfz8_1
        try clear hfz9_0 hfz9_1
        try clear hx350_0
        try clear hx350_1
        try clear hx350_2
        try clear hx351_0
        try clear hx351_1
        try clear hx351_2
        try clear p2
        try clear p350
        try clear p351
        try clear q350
        try clear q351
        obtain ⟨x44_3, rfl, HA, HK3, BK348, BK349, HB⟩ := hrel
        cases gk with
        | zero => exact absurd HA.out (by simp [laws_sameLined.l1])
        | succ k3 =>
         have H := HA.out
         clear HA
         simp only [laws_sameLined.l1] at H
         by_cases c29 : x44_3 < (l0_1.length : Int)
         ·rw [if_pos c29] at H
          have c29b0 : decide (x44_3 < (l0_1.length : Int)) = true := decide_eq_true c29
          clear c29
          by_cases c30 : 0 ≤ x44_3
          ·rw [if_pos c30] at H
           have c30b0 : decide (0 ≤ x44_3) = true := decide_eq_true c30
           clear c30
           by_cases c31 : x44_3 < (l0_1.length : Int)
           ·rw [if_pos c31] at H
            have c31b0 : decide (x44_3 < (l0_1.length : Int)) = true := decide_eq_true c31
            clear c31
            by_cases c32 : x44_3 < (l1_1.length : Int)
            ·rw [if_pos c32] at H
             have c32b0 : decide (x44_3 < (l1_1.length : Int)) = true := decide_eq_true c32
             clear c32
             by_cases c33 : (!(((rd_T63 l0_1 x44_3).f0) == ((rd_T63 l1_1 x44_3).f0)) || (!(((rd_T63 l0_1 x44_3).f1) == ((rd_T63 l1_1 x44_3).f1)) || (!(((rd_T63 l0_1 x44_3).f2) == ((rd_T63 l1_1 x44_3).f2)) || (!(((rd_T63 l0_1 x44_3).f3) == ((rd_T63 l1_1 x44_3).f3)))))) = true
             ·rw [if_pos c33] at H
              have c33b0 : (!(((rd_T63 l0_1 x44_3).f0) == ((rd_T63 l1_1 x44_3).f0)) || (!(((rd_T63 l0_1 x44_3).f1) == ((rd_T63 l1_1 x44_3).f1)) || (!(((rd_T63 l0_1 x44_3).f2) == ((rd_T63 l1_1 x44_3).f2)) || (!(((rd_T63 l0_1 x44_3).f3) == ((rd_T63 l1_1 x44_3).f3)))))) = true := c33
              clear c33
              obtain rfl := Option.some.inj H
              have hnb34 := NB348_349.out
              have hnc34 := NB349_348.out
              obtain ⟨hcz35_0, hfz35_0, hcz35_1, hfz35_1⟩ := bk2 BK348.out
              have p352 : 0 ≤ (x44_3 : Int) := lD
              have q352 : x44_3 < (l0_1.length : Int) := lD
              obtain ⟨ad352, e352, hx352_0, hx352_1, hx352_2, hx352_3⟩ := at_T63 HR0_1.out x44_3 p352 q352
              cases e352
              replace hx352_0 := pw_cell_below HB.out hx352_0
              replace hx352_1 := pw_cell_below HB.out hx352_1
              replace hx352_2 := pw_cell_below HB.out hx352_2
              replace hx352_3 := pw_cell_below HB.out hx352_3
              replace p352 := eq_true p352
              replace q352 := eq_true q352
              obtain ⟨hcz36_0, hfz36_0, hcz36_1, hfz36_1⟩ := bk2 BK349.out
              have p353 : 0 ≤ (x44_3 : Int) := lD
              have q353 : x44_3 < (l1_1.length : Int) := lD
              obtain ⟨ad353, e353, hx353_0, hx353_1, hx353_2, hx353_3⟩ := at_T63 HR1_1.out x44_3 p353 q353
              cases e353
              replace hx353_0 := pw_cell_below HB.out hx353_0
              replace hx353_1 := pw_cell_below HB.out hx353_1
              replace hx353_2 := pw_cell_below HB.out hx353_2
              replace hx353_3 := pw_cell_below HB.out hx353_3
              replace p353 := eq_true p353
              replace q353 := eq_true q353
              go_wp2
              repeat (go_quiet (fail); try go_wp2)
              go_ret
              exact ⟨lE, lB⟩
             ·rw [if_neg c33] at H
              have c33b0 : (!(((rd_T63 l0_1 x44_3).f0) == ((rd_T63 l1_1 x44_3).f0)) || (!(((rd_T63 l0_1 x44_3).f1) == ((rd_T63 l1_1 x44_3).f1)) || (!(((rd_T63 l0_1 x44_3).f2) == ((rd_T63 l1_1 x44_3).f2)) || (!(((rd_T63 l0_1 x44_3).f3) == ((rd_T63 l1_1 x44_3).f3)))))) = false := by simpa using c33
              clear c33
              have H' := Aside0.mk H
              clear H
              have hnb37 := NB348_349.out
              have hnc37 := NB349_348.out
              obtain ⟨hcz38_0, hfz38_0, hcz38_1, hfz38_1⟩ := bk2 BK348.out
              have p352 : 0 ≤ (x44_3 : Int) := lD
              have q352 : x44_3 < (l0_1.length : Int) := lD
              obtain ⟨ad352, e352, hx352_0, hx352_1, hx352_2, hx352_3⟩ := at_T63 HR0_1.out x44_3 p352 q352
              cases e352
              replace hx352_0 := pw_cell_below HB.out hx352_0
              replace hx352_1 := pw_cell_below HB.out hx352_1
              replace hx352_2 := pw_cell_below HB.out hx352_2
              replace hx352_3 := pw_cell_below HB.out hx352_3
              replace p352 := eq_true p352
              replace q352 := eq_true q352
              obtain ⟨hcz39_0, hfz39_0, hcz39_1, hfz39_1⟩ := bk2 BK349.out
              have p353 : 0 ≤ (x44_3 : Int) := lD
              have q353 : x44_3 < (l1_1.length : Int) := lD
              obtain ⟨ad353, e353, hx353_0, hx353_1, hx353_2, hx353_3⟩ := at_T63 HR1_1.out x44_3 p353 q353
              cases e353
              replace hx353_0 := pw_cell_below HB.out hx353_0
              replace hx353_1 := pw_cell_below HB.out hx353_1
              replace hx353_2 := pw_cell_below HB.out hx353_2
              replace hx353_3 := pw_cell_below HB.out hx353_3
              replace p353 := eq_true p353
              replace q353 := eq_true q353
              go_wp2
              repeat (go_quiet (fail); try go_wp2)
              go_roundg k3
              case measure => have := HJ2.out; have := HK2.out; have := HK3.out; omega
              case rel => exact ⟨(wrap64 (x44_3 + 1)), lF, H', ⟨by have := HJ2.out; have := HK2.out; have := HK3.out; omega⟩, ⟨lK BK348.out⟩, ⟨lK BK349.out⟩, ⟨lB⟩⟩
            ·rw [if_neg c32] at H
             exact absurd H (by simp)
           ·rw [if_neg c31] at H
            exact absurd H (by simp)
          ·rw [if_neg c30] at H
           exact absurd H (by simp)
         ·rw [if_neg c29] at H
          have c29b0 : decide (x44_3 < (l0_1.length : Int)) = false := decide_eq_false c29
          clear c29
          obtain rfl := Option.some.inj H
          go_wp2
          repeat (go_quiet (fail); try go_wp2)
          go_ret
          exact ⟨lE, lB⟩
end Go.Proofs.Ytgjojppbichaiaa.Q
