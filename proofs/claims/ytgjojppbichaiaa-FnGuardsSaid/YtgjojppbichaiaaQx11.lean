-- Written by the program wip/tools/pr.py of this claim's session, over the kit's print.py.
import Derived.Test.YtgjojppbichaiaaQx0
import Derived.Test.YtgjojppbichaiaaQx9
import Derived.Test.YtgjojppbichaiaaQx10
namespace Go.Proofs.Ytgjojppbichaiaa.Q
open Go.RowKit Go.Proofs.YtgjojppbichaiaaW.PrintWords Go.Proofs.YtgjojppbichaiaaW.PrintLast Go.Proofs.YtgjojppbichaiaaW.PrintMore
attribute [local go_sem] max2_int min2_int max_two min_two max_three min_three max_four min_four   -- for this text's walks alone
set_option linter.unusedVariables false
set_option linter.unusedSimpArgs false

/-! ### spec_l1Cur_xtree: function 89 -/
mutual
def spec_l1Cur_xtree.j0 : Nat → List (S76) → Bool → List Int → Int → Int → Option ((List (S76)) × Int × Int)
 | 0, _, _, _, _, _ => none
 | k + 1, x3, x16, x1000, x1001, x1002 => if x16 = true then ((spec_l1Cur_tree16.f k x1000 x1001 x1002 2).bind fun bt309 => ((spec_l16Flat.f bt309.1 bt309.2.1 bt309.2.2.1 ([] : List (S76))).bind fun t316 => (spec_l1Cur_xtree.j1 k t316 x1000 bt309.2.2.2.1 bt309.2.2.2.2))) else (spec_l1Cur_xtree.j1 k x3 x1000 x1001 x1002)
def spec_l1Cur_xtree.j1 : Nat → List (S76) → List Int → Int → Int → Option ((List (S76)) × Int × Int)
 | 0, _, _, _, _ => none
 | k + 1, x3, x1000, x1001, x1002 => (spec_l1Cur_one.f x1000 x1001 x1002 30).bind fun bt319 => (if bt319.1 = true then ((spec_l1Cur_pick.f x1000 bt319.2.1 bt319.2.2 (x3.length : Int)).bind fun bt322 => ((spec_l1Cur_pick.f x1000 bt322.2.1 bt322.2.2 8).bind fun bt325 => ((spec_l1Cur_pick.f x1000 bt325.2.1 bt325.2.2 11).bind fun bt328 => (if 0 ≤ bt322.1 then (if bt322.1 < (x3.length : Int) then (some ((x3.set (bt322.1 : Int).toNat (⟨bt325.1, bt328.1⟩ : S76)), bt328.2.1, bt328.2.2)) else (none)) else (none))))) else (some (x3, bt319.2.1, bt319.2.2)))
end
def spec_l1Cur_xtree.f (k : Nat) (s0_0 : List Int) (s0_1 : Int) (s0_2 : Int) : Option ((List (S76)) × Int × Int) := (spec_l1Cur_pick.f s0_0 s0_1 s0_2 5).bind fun bt293 => ((spec_l1Cur_tree16.f k s0_0 bt293.2.1 bt293.2.2 bt293.1).bind fun bt296 => ((spec_l16Flat.f bt296.1 bt296.2.1 bt296.2.2.1 ([] : List (S76))).bind fun t303 => (if (t303.length : Int) > 30 then ((spec_l1Cur_one.f s0_0 bt296.2.2.2.1 bt296.2.2.2.2 4).bind fun bt306 => (spec_l1Cur_xtree.j0 k t303 (!bt306.1) s0_0 bt306.2.1 bt306.2.2)) else (spec_l1Cur_xtree.j0 k t303 false s0_0 bt296.2.2.2.1 bt296.2.2.2.2))))
theorem spec_l1Cur_xtree.mono_l : ∀ k, (∀ y0 y1 y2 y3 y4, LeO (spec_l1Cur_xtree.j0 k y0 y1 y2 y3 y4) (spec_l1Cur_xtree.j0 (k + 1) y0 y1 y2 y3 y4)) ∧ (∀ y0 y1 y2 y3, LeO (spec_l1Cur_xtree.j1 k y0 y1 y2 y3) (spec_l1Cur_xtree.j1 (k + 1) y0 y1 y2 y3))
 | 0 => ⟨fun _ _ _ _ _ r h => by simp [spec_l1Cur_xtree.j0] at h, fun _ _ _ _ r h => by simp [spec_l1Cur_xtree.j1] at h⟩
 | k + 1 => by
  obtain ⟨ih0, ih1⟩ := spec_l1Cur_xtree.mono_l k
  refine ⟨?_, ?_⟩
  ·intro y0 y1 y2 y3 y4
   unfold spec_l1Cur_xtree.j0
   repeat' first
   | with_reducible apply ih0
   | with_reducible apply ih1
   | with_reducible apply spec_l1Cur_tree16.mono
   | (with_reducible exact LeO.refl _)
   | (with_reducible exact LeO.none _)
   | (with_reducible refine LeO.ite ?_ ?_)
   | (with_reducible refine LeO.bind ?_ (fun _ => ?_))
   | apply ih0
   | apply ih1
   | apply spec_l1Cur_tree16.mono
   | exact LeO.none _
   | refine LeO.ite ?_ ?_
   | refine LeO.bind ?_ (fun _ => ?_)
  ·intro y0 y1 y2 y3
   unfold spec_l1Cur_xtree.j1
   repeat' first
   | with_reducible apply ih0
   | with_reducible apply ih1
   | with_reducible apply spec_l1Cur_tree16.mono
   | (with_reducible exact LeO.refl _)
   | (with_reducible exact LeO.none _)
   | (with_reducible refine LeO.ite ?_ ?_)
   | (with_reducible refine LeO.bind ?_ (fun _ => ?_))
   | apply ih0
   | apply ih1
   | apply spec_l1Cur_tree16.mono
   | exact LeO.none _
   | refine LeO.ite ?_ ?_
   | refine LeO.bind ?_ (fun _ => ?_)
theorem spec_l1Cur_xtree.mono : ∀ a0 a1 a2 k, LeO (spec_l1Cur_xtree.f k a0 a1 a2) (spec_l1Cur_xtree.f (k + 1) a0 a1 a2) := by
 intro a0 a1 a2 k
 obtain ⟨ih0, ih1⟩ := spec_l1Cur_xtree.mono_l k
 unfold spec_l1Cur_xtree.f
 repeat' first
   | with_reducible apply ih0
   | with_reducible apply ih1
   | with_reducible apply spec_l1Cur_tree16.mono
   | (with_reducible exact LeO.refl _)
   | (with_reducible exact LeO.none _)
   | (with_reducible refine LeO.ite ?_ ?_)
   | (with_reducible refine LeO.bind ?_ (fun _ => ?_))
   | apply ih0
   | apply ih1
   | apply spec_l1Cur_tree16.mono
   | exact LeO.none _
   | refine LeO.ite ?_ ?_
   | refine LeO.bind ?_ (fun _ => ?_)
set_option maxHeartbeats 8000000 in
set_option maxRecDepth 100000 in
theorem spec_l1Cur_xtree.calls (k : Nat) (g : Nat) (s0_0 : List Int) (s0_1 : Int) (s0_2 : Int) (r1 : List (S76)) (r2 : Int) (r3 : Int) (w0 w : World) (hI : IsS114 w0 w g s0_0 s0_1 s0_2) (hB : Below w0.heap.size w0 w) (h : spec_l1Cur_xtree.f k s0_0 s0_1 s0_2 = some (r1, r2, r3)) :
  Calls Try.prog 89 #[.pointer (some ⟨g, 0, none⟩)] w fun e w' => ∃ v0_ : Value, e = .returned (v0_) ∧ Kd.R k76 76 w' w.heap.size (fun _ => True) v0_ r1 ∧ IsS114 w0 w' g s0_0 r2 r3 ∧ Below w0.heap.size w0 w' ∧ KeepBut w w' g none := by
 have hu76 := Try.underlying76
 have HI0 := Aside0.mk hI
 have HK := Aside0.mk (KeepBut.refl w g none)
 have HL := Aside0.mk hB.size
 clear hI
 have HW0 := Aside0.mk hB.size
 have HB := Aside0.mk hB
 clear hB
 have H : ((spec_l1Cur_pick.f s0_0 s0_1 s0_2 5).bind fun bt293 => ((spec_l1Cur_tree16.f k s0_0 bt293.2.1 bt293.2.2 bt293.1).bind fun bt296 => ((spec_l16Flat.f bt296.1 bt296.2.1 bt296.2.2.1 ([] : List (S76))).bind fun t303 => (if (t303.length : Int) > 30 then ((spec_l1Cur_one.f s0_0 bt296.2.2.2.1 bt296.2.2.2.2 4).bind fun bt306 => (spec_l1Cur_xtree.j0 k t303 (!bt306.1) s0_0 bt306.2.1 bt306.2.2)) else (spec_l1Cur_xtree.j0 k t303 false s0_0 bt296.2.2.2.1 bt296.2.2.2.2))))) = some (r1, r2, r3) := h
 clear h
 replace H := Option.bind_eq_some_iff.mp H
 obtain ⟨⟨t293, t294, t295⟩, A20, H⟩ := H
 replace H : ((spec_l1Cur_tree16.f k s0_0 t294 t295 t293).bind fun bt296 => ((spec_l16Flat.f bt296.1 bt296.2.1 bt296.2.2.1 ([] : List (S76))).bind fun t303 => (if (t303.length : Int) > 30 then ((spec_l1Cur_one.f s0_0 bt296.2.2.2.1 bt296.2.2.2.2 4).bind fun bt306 => (spec_l1Cur_xtree.j0 k t303 (!bt306.1) s0_0 bt306.2.1 bt306.2.2)) else (spec_l1Cur_xtree.j0 k t303 false s0_0 bt296.2.2.2.1 bt296.2.2.2.2)))) = some (r1, r2, r3) := H
 have A2 := Aside0.mk A20
 clear A20
 replace H := Option.bind_eq_some_iff.mp H
 obtain ⟨⟨t296, t297, t298, t301, t302⟩, A30, H⟩ := H
 replace H : ((spec_l16Flat.f t296 t297 t298 ([] : List (S76))).bind fun t303 => (if (t303.length : Int) > 30 then ((spec_l1Cur_one.f s0_0 t301 t302 4).bind fun bt306 => (spec_l1Cur_xtree.j0 k t303 (!bt306.1) s0_0 bt306.2.1 bt306.2.2)) else (spec_l1Cur_xtree.j0 k t303 false s0_0 t301 t302))) = some (r1, r2, r3) := H
 have A3 := Aside0.mk A30
 clear A30
 replace H := lO H
 obtain ⟨t303, A4, H⟩ := H
 have HC5 := Aside0.mk H
 clear H
 go_enter Try.func89, Try.ntmps89
 go_upto_region 2 with (first | ((with_reducible refine gate_callee (f := 72) rfl ?_); refine gl_ (some 6) (Try.func72) #[.pointer (some ⟨g, 0, none⟩), .int .i64 5] ?_; (with_reducible refine (spec_l1Cur_pick.calls g s0_0 s0_1 s0_2 5 t293 t294 t295 w0 _ ?side1 ?side2 A2.out).mono ?_); (case side1 => repeat (first | (with_reducible first | exact HI0.out | apply IsS114.alloc | apply IsS114.drewN | apply IsS114.drew | apply IsS114.set_1 | apply IsS114.set_2) | exact HI0.out)); (case side2 => repeat (first | (with_reducible first | exact HB.out | apply below_alloc | apply pw_below_drewN | apply below_drew1 | refine below_set ?_ (IsS114.ge HI0.out)) | exact HB.out)); rintro e w6 ⟨rfl, hi, hb, hk⟩; refine ⟨_, rfl, ?_⟩; have n0_ := Aside0.mk (KeepBut.trans (by repeat (first | (with_reducible first | exact HK.out | apply KeepBut.set_ | apply keep_drewN | apply keep_drew | apply keep_alloc) | exact HK.out)) hk (.inl rfl)); have n1_ := Aside0.mk (hb); have n2_ := Aside0.mk (hi); clear HK; clear HB; clear HI0; have HK := n0_; have HB := n1_; have HI0 := n2_; clear n0_ n1_ n2_; (try clear hb); (try clear hb2); (try clear hk); (try clear hi)) | ((with_reducible refine gate_callee (f := 95) rfl ?_); refine gl_ (some 7) (Try.func95) #[.pointer (some ⟨g, 0, none⟩), .int .i64 t293] ?_; (with_reducible refine (spec_l1Cur_tree16.calls k g s0_0 t294 t295 t293 t296 t297 t298 t301 t302 w0 _ ?side1 ?side2 A3.out).mono ?_); (case side1 => repeat (first | (with_reducible first | exact HI0.out | apply IsS114.alloc | apply IsS114.drewN | apply IsS114.drew | apply IsS114.set_1 | apply IsS114.set_2) | exact HI0.out)); (case side2 => repeat (first | (with_reducible first | exact HB.out | apply below_alloc | apply pw_below_drewN | apply below_drew1 | refine below_set ?_ (IsS114.ge HI0.out)) | exact HB.out)); rintro e w7 ⟨v299, rfl, ho0, hi, hb, hk⟩; refine ⟨_, rfl, ?_⟩; have n0_ := Aside0.mk (Kd.R_lower ho0 (keep_size (w := w) (g := g) (row := none) (by repeat (first | (with_reducible first | exact HK.out | apply KeepBut.set_ | apply keep_drewN | apply keep_drew | apply keep_alloc) | exact HK.out)))); have n1_ := Aside0.mk (KeepBut.trans (by repeat (first | (with_reducible first | exact HK.out | apply KeepBut.set_ | apply keep_drewN | apply keep_drew | apply keep_alloc) | exact HK.out)) hk (.inl rfl)); have n2_ := Aside0.mk (hb); have n3_ := Aside0.mk (hi); clear HK; clear HB; clear HI0; have HO300 := n0_; have HK := n1_; have HB := n2_; have HI0 := n3_; clear n0_ n1_ n2_ n3_; (try clear hb); (try clear hb2); (try clear hk); (try clear hi); (try clear ho0); obtain ⟨Ao8, co8, eo8⟩ := Kd.R_slice HO300.out; subst eo8) | ((with_reducible refine gate_callee (f := 94) rfl ?_); refine gl_ (some 8) (Try.func94) #[.agg #[.int .i64 t296, .int .i64 t297, .slice Ao8 t298.length co8], .slice none 0 0] ?_; (refine (spec_l16Flat.calls t296 t297 _ _ t298 (fun k_ => some k_ = (.slice none 0 0 : Value).ownBlock) (.slice none 0 0) ([] : List (S76)) t303 w0 _ ?side1 ?side2 ?side3 ?side4 A4.out).mono ?_); (case side1 => repeat (first | (with_reducible first | exact HB.out | apply below_alloc | apply pw_below_drewN | apply below_drew1 | refine below_set ?_ (IsS114.ge HI0.out)) | exact HB.out)); (case side2 => exact Kd.C_kept_own (HO300.out) (fun k_ hk_ hs_ => (fun e_ => by simp [Value.ownBlock] at e_) hs_)); (case side3 => exact (Kd.R_reads' HO300.out).2.1); (case side4 => exact Kd.R_nil _ _ _ _ _); rintro e w9 ⟨v304, rfl, ho0, hb, hkp⟩; refine ⟨_, rfl, ?_⟩; have n0_ := Aside0.mk (IsS114.kept (by repeat (first | (with_reducible first | exact HI0.out | apply IsS114.alloc | apply IsS114.drewN | apply IsS114.drew | apply IsS114.set_1 | apply IsS114.set_2) | exact HI0.out)) hkp (fun hs_ => (fun e_ => by simp [Value.ownBlock] at e_) hs_)); have n1_ := Aside0.mk (Kd.R_mono (ok' := fun k_ => True) (Kd.R_keptB (HO300.out) hkp (fun k_ hk_ hs_ => (fun e_ => by simp [Value.ownBlock] at e_) hs_)) (fun k_ hk_ => trivial)); have n2_ := Aside0.mk (Kd.R_mono (ok' := fun k_ => True) (Kd.R_raise (d := k76) (b := w0.heap.size) (b' := w.heap.size) (fun _ _ _ _ h_ => h_) ho0 (fun k_ e_ => Or.elim (ho0.1 k_ e_) (fun hs_ => (fun e_ => by simp [Value.ownBlock] at e_) hs_) (fun hn_ => Nat.le_trans (keep_size (w := w) (g := g) (row := none) (by repeat (first | (with_reducible first | exact HK.out | apply KeepBut.set_ | apply keep_drewN | apply keep_drew | apply keep_alloc) | exact HK.out))) hn_))) (fun k_ hk_ => trivial)); have n3_ := Aside0.mk (Kept.keepG (by repeat (first | (with_reducible first | exact HK.out | apply KeepBut.set_ | apply keep_drewN | apply keep_drew | apply keep_alloc) | exact HK.out)) hkp (fun k_ hs_ => (fun e_ => by simp [Value.ownBlock] at e_) hs_)); have n4_ := Aside0.mk (hb); clear HI0; clear HO300; clear HK; clear HB; have HI0 := n0_; have HO300 := n1_; have HO305 := n2_; have HK := n3_; have HB := n4_; clear n0_ n1_ n2_ n3_ n4_; (try clear hb); (try clear hkp); (try clear ho0)))
 (try simp only [Act.put, List.setIfInBounds_toArray, List.set_cons_zero, List.set_cons_succ])
 go_cut [16] (fun v16 wc => ∃ (kq : Nat) (x16_4 : Bool) (x1001_4 : Int) (x1002_4 : Int), v16 = .bool x16_4 ∧ Aside0 (spec_l1Cur_xtree.j0 kq t303 x16_4 s0_0 x1001_4 x1002_4 = some (r1, r2, r3)) ∧ Aside0 (kq ≤ k) ∧ Aside0 (Kd.R k76 76 wc w.heap.size (fun _ => True) v304 t303) ∧ Aside0 (IsS114 w0 wc g s0_0 x1001_4 x1002_4) ∧ Aside0 (KeepBut w wc g none) ∧ Aside0 (Below w0.heap.size w0 wc))
 case first =>
  have H := HC5.out
  clear HC5
  by_cases c10 : (t303.length : Int) > 30
  ·rw [if_pos c10] at H
   have c10b0 : decide (30 < (t303.length : Int)) = true := decide_eq_true c10
   have c10b1 : decide (30 < t303.length) = true := decide_eq_true (by omega)
   clear c10
   (first | rw [c10b0] | (simp only [i64_w, i32_w]; rw [c10b0]) | skip)
   replace H := Option.bind_eq_some_iff.mp H
   obtain ⟨⟨t306, t307, t308⟩, A110, H⟩ := H
   replace H : (spec_l1Cur_xtree.j0 k t303 (!t306) s0_0 t307 t308) = some (r1, r2, r3) := H
   have A11 := Aside0.mk A110
   clear A110
   have H' := Aside0.mk H
   clear H
   obtain ⟨Ao12, co12, eo12⟩ := Kd.R_slice HO305.out
   subst eo12
   go_wp2_with (first | (go_at_call 90; (with_reducible refine (spec_l1Cur_one.calls g s0_0 t301 t302 4 t306 t307 t308 w0 _ ?side1 ?side2 A11.out).mono ?_); (case side1 => repeat (first | (with_reducible first | exact HI0.out | apply IsS114.alloc | apply IsS114.drewN | apply IsS114.drew | apply IsS114.set_1 | apply IsS114.set_2) | exact HI0.out)); (case side2 => repeat (first | (with_reducible first | exact HB.out | apply below_alloc | apply pw_below_drewN | apply below_drew1 | refine below_set ?_ (IsS114.ge HI0.out)) | exact HB.out)); rintro e w13 ⟨rfl, hi, hb, hk⟩; have n0_ := Aside0.mk (Kd.R_mono (Kd.R_keep (IsS114.apart (show IsS114 w0 _ g s0_0 t301 t302 from by repeat (first | (with_reducible first | exact HI0.out | apply IsS114.alloc | apply IsS114.drewN | apply IsS114.drew | apply IsS114.set_1 | apply IsS114.set_2) | exact HI0.out)) (lR HO300.out) (by decide)) hk (fun _ h => h.2)) (fun _ h => h.1)); have n1_ := Aside0.mk (Kd.R_mono (Kd.R_keep (IsS114.apart (show IsS114 w0 _ g s0_0 t301 t302 from by repeat (first | (with_reducible first | exact HI0.out | apply IsS114.alloc | apply IsS114.drewN | apply IsS114.drew | apply IsS114.set_1 | apply IsS114.set_2) | exact HI0.out)) (lR HO305.out) (by decide)) hk (fun _ h => h.2)) (fun _ h => h.1)); have n2_ := Aside0.mk (KeepBut.trans (by repeat (first | (with_reducible first | exact HK.out | apply KeepBut.set_ | apply keep_drewN | apply keep_drew | apply keep_alloc) | exact HK.out)) hk (.inl rfl)); have n3_ := Aside0.mk (hb); have n4_ := Aside0.mk (hi); clear HO300; clear HO305; clear HK; clear HB; clear HI0; have HO300 := n0_; have HO305 := n1_; have HK := n2_; have HB := n3_; have HI0 := n4_; clear n0_ n1_ n2_ n3_ n4_; (try clear hb); (try clear hb2); (try clear hk); (try clear hi)))
   go_meet
   case rel => exact ⟨_, (!t306), (t307), (t308), lF, H', ⟨lN⟩, ⟨lR HO305.out⟩, ⟨by repeat (first | (with_reducible first | exact HI0.out | apply IsS114.alloc | apply IsS114.drewN | apply IsS114.drew | apply IsS114.set_1 | apply IsS114.set_2) | exact HI0.out)⟩, ⟨by repeat (first | (with_reducible first | exact HK.out | apply KeepBut.set_ | apply keep_drewN | apply keep_drew | apply keep_alloc) | exact HK.out)⟩, ⟨by repeat (first | (with_reducible first | exact HB.out | apply below_alloc | apply pw_below_drewN | apply below_drew1 | refine below_set ?_ (IsS114.ge HI0.out)) | exact HB.out)⟩⟩
  ·rw [if_neg c10] at H
   have c10b0 : decide (30 < (t303.length : Int)) = false := decide_eq_false c10
   have c10b1 : decide (30 < t303.length) = false := decide_eq_false (by omega)
   clear c10
   (first | rw [c10b0] | (simp only [i64_w, i32_w]; rw [c10b0]) | skip)
   have H' := Aside0.mk H
   clear H
   obtain ⟨Ao14, co14, eo14⟩ := Kd.R_slice HO305.out
   subst eo14
   go_wp2
   go_meet
   case rel => exact ⟨_, (false), (t301), (t302), lF, H', ⟨lN⟩, ⟨lR HO305.out⟩, ⟨by repeat (first | (with_reducible first | exact HI0.out | apply IsS114.alloc | apply IsS114.drewN | apply IsS114.drew | apply IsS114.set_1 | apply IsS114.set_2) | exact HI0.out)⟩, ⟨by repeat (first | (with_reducible first | exact HK.out | apply KeepBut.set_ | apply keep_drewN | apply keep_drew | apply keep_alloc) | exact HK.out)⟩, ⟨by repeat (first | (with_reducible first | exact HB.out | apply below_alloc | apply pw_below_drewN | apply below_drew1 | refine below_set ?_ (IsS114.ge HI0.out)) | exact HB.out)⟩⟩
 case rest =>
  clear HC5
  try clear c1
  try clear p2
  try clear c7
  try clear c8
  try clear c9
  try clear c10
  try clear c10b0
  try clear c10b1
  obtain ⟨kq, x16_4, x1001_4, x1002_4, rfl, HA, HJ4, HO_3, HI0, HK, HB⟩ := hcut
  cases kq with
  | zero => exact absurd HA.out (by simp [spec_l1Cur_xtree.j0])
  | succ kj4 =>
   have H := HA.out
   clear HA
   simp only [spec_l1Cur_xtree.j0] at H
   have HC15 := Aside0.mk H
   clear H
   go_upto_if 16 with (fail)
   go_cut [3] (fun v3 wc => ∃ (kq : Nat) (x3_14 : List (S76)) (x1001_14 : Int) (x1002_14 : Int), Aside0 (spec_l1Cur_xtree.j1 kq x3_14 s0_0 x1001_14 x1002_14 = some (r1, r2, r3)) ∧ Aside0 (kq ≤ kj4) ∧ Aside0 (Kd.R k76 76 wc w.heap.size (fun _ => True) v3 x3_14) ∧ Aside0 (IsS114 w0 wc g s0_0 x1001_14 x1002_14) ∧ Aside0 (KeepBut w wc g none) ∧ Aside0 (Below w0.heap.size w0 wc))
   case first =>
    have H := HC15.out
    clear HC15
    by_cases c16 : x16_4 = true
    ·subst c16
     rw [if_pos rfl] at H
     replace H := Option.bind_eq_some_iff.mp H
     obtain ⟨⟨t309, t310, t311, t314, t315⟩, A170, H⟩ := H
     replace H : ((spec_l16Flat.f t309 t310 t311 ([] : List (S76))).bind fun t316 => (spec_l1Cur_xtree.j1 kj4 t316 s0_0 t314 t315)) = some (r1, r2, r3) := H
     have A17 := Aside0.mk A170
     clear A170
     replace H := lO H
     obtain ⟨t316, A18, H⟩ := H
     have H' := Aside0.mk H
     clear H
     go_wp2_with (first | ((with_reducible refine gate_callee (f := 95) rfl ?_); refine gl_ (some 18) (Try.func95) #[.pointer (some ⟨g, 0, none⟩), .int .i64 2] ?_; (with_reducible refine (spec_l1Cur_tree16.calls kj4 g s0_0 x1001_4 x1002_4 2 t309 t310 t311 t314 t315 w0 _ ?side1 ?side2 A17.out).mono ?_); (case side1 => repeat (first | (with_reducible first | exact HI0.out | apply IsS114.alloc | apply IsS114.drewN | apply IsS114.drew | apply IsS114.set_1 | apply IsS114.set_2) | exact HI0.out)); (case side2 => repeat (first | (with_reducible first | exact HB.out | apply below_alloc | apply pw_below_drewN | apply below_drew1 | refine below_set ?_ (IsS114.ge HI0.out)) | exact HB.out)); rintro e w19 ⟨v312, rfl, ho0, hi, hb, hk⟩; refine ⟨_, rfl, ?_⟩; have n0_ := Aside0.mk (Kd.R_mono (Kd.R_keep (IsS114.apart (show IsS114 w0 _ g s0_0 x1001_4 x1002_4 from by repeat (first | (with_reducible first | exact HI0.out | apply IsS114.alloc | apply IsS114.drewN | apply IsS114.drew | apply IsS114.set_1 | apply IsS114.set_2) | exact HI0.out)) (lR HO_3.out) (by decide)) hk (fun _ h => h.2)) (fun _ h => h.1)); have n1_ := Aside0.mk (Kd.R_lower ho0 (keep_size (w := w) (g := g) (row := none) (by repeat (first | (with_reducible first | exact HK.out | apply KeepBut.set_ | apply keep_drewN | apply keep_drew | apply keep_alloc) | exact HK.out)))); have n2_ := Aside0.mk (KeepBut.trans (by repeat (first | (with_reducible first | exact HK.out | apply KeepBut.set_ | apply keep_drewN | apply keep_drew | apply keep_alloc) | exact HK.out)) hk (.inl rfl)); have n3_ := Aside0.mk (hb); have n4_ := Aside0.mk (hi); clear HO_3; clear HK; clear HB; clear HI0; have HO_3 := n0_; have HO313 := n1_; have HK := n2_; have HB := n3_; have HI0 := n4_; clear n0_ n1_ n2_ n3_ n4_; (try clear hb); (try clear hb2); (try clear hk); (try clear hi); (try clear ho0); obtain ⟨Ao20, co20, eo20⟩ := Kd.R_slice HO313.out; subst eo20) | ((with_reducible refine gate_callee (f := 94) rfl ?_); refine gl_ (some 19) (Try.func94) #[.agg #[.int .i64 t309, .int .i64 t310, .slice Ao20 t311.length co20], .slice none 0 0] ?_; (refine (spec_l16Flat.calls t309 t310 _ _ t311 (fun k_ => some k_ = (.slice none 0 0 : Value).ownBlock) (.slice none 0 0) ([] : List (S76)) t316 w0 _ ?side1 ?side2 ?side3 ?side4 A18.out).mono ?_); (case side1 => repeat (first | (with_reducible first | exact HB.out | apply below_alloc | apply pw_below_drewN | apply below_drew1 | refine below_set ?_ (IsS114.ge HI0.out)) | exact HB.out)); (case side2 => exact Kd.C_kept_own (HO313.out) (fun k_ hk_ hs_ => (fun e_ => by simp [Value.ownBlock] at e_) hs_)); (case side3 => exact (Kd.R_reads' HO313.out).2.1); (case side4 => exact Kd.R_nil _ _ _ _ _); rintro e w21 ⟨v317, rfl, ho0, hb, hkp⟩; refine ⟨_, rfl, ?_⟩; have n0_ := Aside0.mk (Kd.R_mono (ok' := fun k_ => some k_ ≠ (v317 : Value).ownBlock) (Kd.R_keptB (HO_3.out) hkp (fun k_ hk_ hs_ => (fun e_ => by simp [Value.ownBlock] at e_) hs_)) (fun k_ hk_ => fun e_ => Or.elim (ho0.1 k_ e_.symm) (fun hs_ => hk_.2.1 (by first | exact hs_ | exact .inl hs_)) (fun hn_ => Nat.not_le.2 hk_.2.2 hn_))); have n1_ := Aside0.mk (IsS114.kept (by repeat (first | (with_reducible first | exact HI0.out | apply IsS114.alloc | apply IsS114.drewN | apply IsS114.drew | apply IsS114.set_1 | apply IsS114.set_2) | exact HI0.out)) hkp (fun hs_ => (fun e_ => by simp [Value.ownBlock] at e_) hs_)); have n2_ := Aside0.mk (Kd.R_mono (ok' := fun k_ => True) (Kd.R_keptB (HO313.out) hkp (fun k_ hk_ hs_ => (fun e_ => by simp [Value.ownBlock] at e_) hs_)) (fun k_ hk_ => trivial)); have n3_ := Aside0.mk (Kd.R_mono (ok' := fun k_ => some k_ ≠ (v304 : Value).ownBlock) (Kd.R_raise (d := k76) (b := w0.heap.size) (b' := w.heap.size) (fun _ _ _ _ h_ => h_) ho0 (fun k_ e_ => Or.elim (ho0.1 k_ e_) (fun hs_ => (fun e_ => by simp [Value.ownBlock] at e_) hs_) (fun hn_ => Nat.le_trans (keep_size (w := w) (g := g) (row := none) (by repeat (first | (with_reducible first | exact HK.out | apply KeepBut.set_ | apply keep_drewN | apply keep_drew | apply keep_alloc) | exact HK.out))) hn_))) (fun k_ hk_ => Or.elim hk_ (fun hs_ => absurd hs_ (by simp [Value.ownBlock])) (fun hn_ => (Kd.fresh' (Kd.R_lt (lR HO_3.out)) k_ hn_)))); have n4_ := Aside0.mk (Kept.keepG (by repeat (first | (with_reducible first | exact HK.out | apply KeepBut.set_ | apply keep_drewN | apply keep_drew | apply keep_alloc) | exact HK.out)) hkp (fun k_ hs_ => (fun e_ => by simp [Value.ownBlock] at e_) hs_)); have n5_ := Aside0.mk (hb); clear HO_3; clear HI0; clear HO313; clear HK; clear HB; have HO_3 := n0_; have HI0 := n1_; have HO313 := n2_; have HO318 := n3_; have HK := n4_; have HB := n5_; clear n0_ n1_ n2_ n3_ n4_ n5_; (try clear hb); (try clear hkp); (try clear ho0)))
     go_meet
     case rel => exact ⟨_, (t316), (t314), (t315), H', ⟨by have := HJ4.out; first | omega | exact Nat.le_refl _⟩, ⟨by (with_reducible repeat (first | apply Kd.R_alloc | apply Kd.R_drewN | apply Kd.R_drew)); exact Kd.R_mono HO318.out (fun _ hk => trivial)⟩, ⟨by repeat (first | (with_reducible first | exact HI0.out | apply IsS114.alloc | apply IsS114.drewN | apply IsS114.drew | apply IsS114.set_1 | apply IsS114.set_2) | exact HI0.out)⟩, ⟨by repeat (first | (with_reducible first | exact HK.out | apply KeepBut.set_ | apply keep_drewN | apply keep_drew | apply keep_alloc) | exact HK.out)⟩, ⟨by repeat (first | (with_reducible first | exact HB.out | apply below_alloc | apply pw_below_drewN | apply below_drew1 | refine below_set ?_ (IsS114.ge HI0.out)) | exact HB.out)⟩⟩
    ·replace c16 := Bool.eq_false_iff.mpr c16
     subst c16
     rw [if_neg (show ¬ (false = true) by decide)] at H
     have H' := Aside0.mk H
     clear H
     go_wp2
     go_meet
     case rel => exact ⟨_, (t303), (x1001_4), (x1002_4), H', ⟨by have := HJ4.out; first | omega | exact Nat.le_refl _⟩, ⟨lR HO_3.out⟩, ⟨by repeat (first | (with_reducible first | exact HI0.out | apply IsS114.alloc | apply IsS114.drewN | apply IsS114.drew | apply IsS114.set_1 | apply IsS114.set_2) | exact HI0.out)⟩, ⟨by repeat (first | (with_reducible first | exact HK.out | apply KeepBut.set_ | apply keep_drewN | apply keep_drew | apply keep_alloc) | exact HK.out)⟩, ⟨by repeat (first | (with_reducible first | exact HB.out | apply below_alloc | apply pw_below_drewN | apply below_drew1 | refine below_set ?_ (IsS114.ge HI0.out)) | exact HB.out)⟩⟩
   case rest =>
    clear HC15
    try clear c1
    try clear p2
    try clear c7
    try clear c8
    try clear c9
    try clear c10
    try clear c10b0
    try clear c10b1
    try clear c16
    try clear p2
    obtain ⟨kq, x3_14, x1001_14, x1002_14, HA, HJ14, HO_3, HI0, HK, HB⟩ := hcut
    cases kq with
    | zero => exact absurd HA.out (by simp [spec_l1Cur_xtree.j1])
    | succ kj14 =>
     have H := HA.out
     clear HA
     simp only [spec_l1Cur_xtree.j1] at H
     replace H := Option.bind_eq_some_iff.mp H
     obtain ⟨⟨t319, t320, t321⟩, A220, H⟩ := H
     replace H : (if t319 = true then ((spec_l1Cur_pick.f s0_0 t320 t321 (x3_14.length : Int)).bind fun bt322 => ((spec_l1Cur_pick.f s0_0 bt322.2.1 bt322.2.2 8).bind fun bt325 => ((spec_l1Cur_pick.f s0_0 bt325.2.1 bt325.2.2 11).bind fun bt328 => (if 0 ≤ bt322.1 then (if bt322.1 < (x3_14.length : Int) then (some ((x3_14.set (bt322.1 : Int).toNat (⟨bt325.1, bt328.1⟩ : S76)), bt328.2.1, bt328.2.2)) else (none)) else (none))))) else (some (x3_14, t320, t321))) = some (r1, r2, r3) := H
     have A22 := Aside0.mk A220
     clear A220
     by_cases c23 : t319 = true
     ·subst c23
      rw [if_pos rfl] at H
      replace H := Option.bind_eq_some_iff.mp H
      obtain ⟨⟨t322, t323, t324⟩, A240, H⟩ := H
      replace H : ((spec_l1Cur_pick.f s0_0 t323 t324 8).bind fun bt325 => ((spec_l1Cur_pick.f s0_0 bt325.2.1 bt325.2.2 11).bind fun bt328 => (if 0 ≤ t322 then (if t322 < (x3_14.length : Int) then (some ((x3_14.set (t322 : Int).toNat (⟨bt325.1, bt328.1⟩ : S76)), bt328.2.1, bt328.2.2)) else (none)) else (none)))) = some (r1, r2, r3) := H
      have A24 := Aside0.mk A240
      clear A240
      replace H := Option.bind_eq_some_iff.mp H
      obtain ⟨⟨t325, t326, t327⟩, A250, H⟩ := H
      replace H : ((spec_l1Cur_pick.f s0_0 t326 t327 11).bind fun bt328 => (if 0 ≤ t322 then (if t322 < (x3_14.length : Int) then (some ((x3_14.set (t322 : Int).toNat (⟨t325, bt328.1⟩ : S76)), bt328.2.1, bt328.2.2)) else (none)) else (none))) = some (r1, r2, r3) := H
      have A25 := Aside0.mk A250
      clear A250
      replace H := Option.bind_eq_some_iff.mp H
      obtain ⟨⟨t328, t329, t330⟩, A260, H⟩ := H
      replace H : (if 0 ≤ t322 then (if t322 < (x3_14.length : Int) then (some ((x3_14.set (t322 : Int).toNat (⟨t325, t328⟩ : S76)), t329, t330)) else (none)) else (none)) = some (r1, r2, r3) := H
      have A26 := Aside0.mk A260
      clear A260
      by_cases c27 : 0 ≤ t322
      ·rw [if_pos c27] at H
       have c27b0 : decide (0 ≤ t322) = true := decide_eq_true c27
       clear c27
       by_cases c28 : t322 < (x3_14.length : Int)
       ·rw [if_pos c28] at H
        have c28b0 : decide (t322 < (x3_14.length : Int)) = true := decide_eq_true c28
        clear c28
        obtain ⟨y331, hy331⟩ : ∃ y_ : List (S76), y_ = (x3_14.set (t322 : Int).toNat (⟨t325, t328⟩ : S76)) := ⟨_, rfl⟩
        replace H : (some (y331, t329, t330)) = some (r1, r2, r3) := by first | (rw [hy331]; with_reducible exact H) | (have H2_ := (Option.bind_some _ _).symm.trans H; rw [hy331]; with_reducible exact H2_) | (have H2_ := (Option.bind_some _ _).symm.trans H; with_reducible exact H2_) | with_reducible exact H | (rw [hy331]; exact H) | exact H
        have Ny331 := Aside0.mk hy331
        clear hy331
        simp only [Option.some.injEq, Prod.mk.injEq] at H
        obtain ⟨rfl, rfl, rfl⟩ := H
        go_wp2_with (first | ((with_reducible refine gate_callee (f := 90) rfl ?_); refine gl_ (some 21) (Try.func90) #[.pointer (some ⟨g, 0, none⟩), .int .i64 30] ?_; (with_reducible refine (spec_l1Cur_one.calls g s0_0 x1001_14 x1002_14 30 true t320 t321 w0 _ ?side1 ?side2 A22.out).mono ?_); (case side1 => repeat (first | (with_reducible first | exact HI0.out | apply IsS114.alloc | apply IsS114.drewN | apply IsS114.drew | apply IsS114.set_1 | apply IsS114.set_2) | exact HI0.out)); (case side2 => repeat (first | (with_reducible first | exact HB.out | apply below_alloc | apply pw_below_drewN | apply below_drew1 | refine below_set ?_ (IsS114.ge HI0.out)) | exact HB.out)); rintro e w30 ⟨rfl, hi, hb, hk⟩; refine ⟨_, rfl, ?_⟩; have n0_ := Aside0.mk (Kd.R_mono (Kd.R_keep (IsS114.apart (show IsS114 w0 _ g s0_0 x1001_14 x1002_14 from by repeat (first | (with_reducible first | exact HI0.out | apply IsS114.alloc | apply IsS114.drewN | apply IsS114.drew | apply IsS114.set_1 | apply IsS114.set_2) | exact HI0.out)) (lR HO_3.out) (by decide)) hk (fun _ h => h.2)) (fun _ h => h.1)); have n1_ := Aside0.mk (KeepBut.trans (by repeat (first | (with_reducible first | exact HK.out | apply KeepBut.set_ | apply keep_drewN | apply keep_drew | apply keep_alloc) | exact HK.out)) hk (.inl rfl)); have n2_ := Aside0.mk (hb); have n3_ := Aside0.mk (hi); clear HO_3; clear HK; clear HB; clear HI0; have HO_3 := n0_; have HK := n1_; have HB := n2_; have HI0 := n3_; clear n0_ n1_ n2_ n3_; (try clear hb); (try clear hb2); (try clear hk); (try clear hi); obtain ⟨Ao31, co31, eo31⟩ := Kd.R_slice HO_3.out; subst eo31) | ((with_reducible refine gate_callee (f := 72) rfl ?_); refine gl_ (some 26) (Try.func72) #[.pointer (some ⟨g, 0, none⟩), .int .i64 (x3_14.length : Int)] ?_; (with_reducible refine (spec_l1Cur_pick.calls g s0_0 t320 t321 (x3_14.length : Int) t322 t323 t324 w0 _ ?side1 ?side2 A24.out).mono ?_); (case side1 => repeat (first | (with_reducible first | exact HI0.out | apply IsS114.alloc | apply IsS114.drewN | apply IsS114.drew | apply IsS114.set_1 | apply IsS114.set_2) | exact HI0.out)); (case side2 => repeat (first | (with_reducible first | exact HB.out | apply below_alloc | apply pw_below_drewN | apply below_drew1 | refine below_set ?_ (IsS114.ge HI0.out)) | exact HB.out)); rintro e w32 ⟨rfl, hi, hb, hk⟩; refine ⟨_, rfl, ?_⟩; have n0_ := Aside0.mk (Kd.R_mono (Kd.R_keep (IsS114.apart (show IsS114 w0 _ g s0_0 t320 t321 from by repeat (first | (with_reducible first | exact HI0.out | apply IsS114.alloc | apply IsS114.drewN | apply IsS114.drew | apply IsS114.set_1 | apply IsS114.set_2) | exact HI0.out)) (lR HO_3.out) (by decide)) hk (fun _ h => h.2)) (fun _ h => h.1)); have n1_ := Aside0.mk (KeepBut.trans (by repeat (first | (with_reducible first | exact HK.out | apply KeepBut.set_ | apply keep_drewN | apply keep_drew | apply keep_alloc) | exact HK.out)) hk (.inl rfl)); have n2_ := Aside0.mk (hb); have n3_ := Aside0.mk (hi); clear HO_3; clear HK; clear HB; clear HI0; have HO_3 := n0_; have HK := n1_; have HB := n2_; have HI0 := n3_; clear n0_ n1_ n2_ n3_; (try clear hb); (try clear hb2); (try clear hk); (try clear hi)) | ((with_reducible refine gate_callee (f := 72) rfl ?_); refine gl_ (some 28) (Try.func72) #[.pointer (some ⟨g, 0, none⟩), .int .i64 8] ?_; (with_reducible refine (spec_l1Cur_pick.calls g s0_0 t323 t324 8 t325 t326 t327 w0 _ ?side1 ?side2 A25.out).mono ?_); (case side1 => repeat (first | (with_reducible first | exact HI0.out | apply IsS114.alloc | apply IsS114.drewN | apply IsS114.drew | apply IsS114.set_1 | apply IsS114.set_2) | exact HI0.out)); (case side2 => repeat (first | (with_reducible first | exact HB.out | apply below_alloc | apply pw_below_drewN | apply below_drew1 | refine below_set ?_ (IsS114.ge HI0.out)) | exact HB.out)); rintro e w33 ⟨rfl, hi, hb, hk⟩; refine ⟨_, rfl, ?_⟩; have n0_ := Aside0.mk (Kd.R_mono (Kd.R_keep (IsS114.apart (show IsS114 w0 _ g s0_0 t323 t324 from by repeat (first | (with_reducible first | exact HI0.out | apply IsS114.alloc | apply IsS114.drewN | apply IsS114.drew | apply IsS114.set_1 | apply IsS114.set_2) | exact HI0.out)) (lR HO_3.out) (by decide)) hk (fun _ h => h.2)) (fun _ h => h.1)); have n1_ := Aside0.mk (KeepBut.trans (by repeat (first | (with_reducible first | exact HK.out | apply KeepBut.set_ | apply keep_drewN | apply keep_drew | apply keep_alloc) | exact HK.out)) hk (.inl rfl)); have n2_ := Aside0.mk (hb); have n3_ := Aside0.mk (hi); clear HO_3; clear HK; clear HB; clear HI0; have HO_3 := n0_; have HK := n1_; have HB := n2_; have HI0 := n3_; clear n0_ n1_ n2_ n3_; (try clear hb); (try clear hb2); (try clear hk); (try clear hi)) | ((with_reducible refine gate_callee (f := 72) rfl ?_); refine gl_ (some 30) (Try.func72) #[.pointer (some ⟨g, 0, none⟩), .int .i64 11] ?_; (with_reducible refine (spec_l1Cur_pick.calls g s0_0 t326 t327 11 t328 t329 t330 w0 _ ?side1 ?side2 A26.out).mono ?_); (case side1 => repeat (first | (with_reducible first | exact HI0.out | apply IsS114.alloc | apply IsS114.drewN | apply IsS114.drew | apply IsS114.set_1 | apply IsS114.set_2) | exact HI0.out)); (case side2 => repeat (first | (with_reducible first | exact HB.out | apply below_alloc | apply pw_below_drewN | apply below_drew1 | refine below_set ?_ (IsS114.ge HI0.out)) | exact HB.out)); rintro e w34 ⟨rfl, hi, hb, hk⟩; refine ⟨_, rfl, ?_⟩; have n0_ := Aside0.mk (Kd.R_mono (Kd.R_keep (IsS114.apart (show IsS114 w0 _ g s0_0 t326 t327 from by repeat (first | (with_reducible first | exact HI0.out | apply IsS114.alloc | apply IsS114.drewN | apply IsS114.drew | apply IsS114.set_1 | apply IsS114.set_2) | exact HI0.out)) (lR HO_3.out) (by decide)) hk (fun _ h => h.2)) (fun _ h => h.1)); have n1_ := Aside0.mk (KeepBut.trans (by repeat (first | (with_reducible first | exact HK.out | apply KeepBut.set_ | apply keep_drewN | apply keep_drew | apply keep_alloc) | exact HK.out)) hk (.inl rfl)); have n2_ := Aside0.mk (hb); have n3_ := Aside0.mk (hi); clear HO_3; clear HK; clear HB; clear HI0; have HO_3 := n0_; have HK := n1_; have HB := n2_; have HI0 := n3_; clear n0_ n1_ n2_ n3_; (try clear hb); (try clear hb2); (try clear hk); (try clear hi); have p29 : 0 ≤ (t322 : Int) := lD; have q29 : (t322 : Int) < ((x3_14.length : Int) : Int) := lD; obtain ⟨go29, co29, eo29, gb29, gl29, cl29, HG29⟩ := Kd.R_form HO_3.out (by omega); (first | cases eo29 | (injection eo29 with ea_ en_ ec_; (first | subst ea_ | (injection ea_ with ea_; subst ea_)); subst ec_; clear en_)); have GB29 := Aside0.mk gb29; have GG29 := Aside0.mk HG29; clear gb29 gl29 HG29; obtain ⟨ce29, hcl29, hM29, hcc29, hfr29⟩ := Kd.R_elem HO_3.out z76 (t322 : Int) p29 q29; obtain rfl := k76_openM hM29; have hx29_0 : w34.cell? ⟨go29, (t322 : Int).toNat * 2, none⟩ = some (.int .i64 ((rd_T76 x3_14 t322).f0)) := hcc29 0 _ rfl; have hx29_1 : w34.cell? ⟨go29, (t322 : Int).toNat * 2 + 1, none⟩ = some (.int .i64 ((rd_T76 x3_14 t322).f1)) := hcc29 1 _ rfl; have hf29_0 : w34.frozen? ⟨go29, (t322 : Int).toNat * 2, none⟩ = false := hfr29 0; have hf29_1 : w34.frozen? ⟨go29, (t322 : Int).toNat * 2 + 1, none⟩ = false := hfr29 1; clear hcl29 hcc29 hfr29; (try clear hM29); replace p29 := eq_true p29; replace q29 := eq_true q29; have HX35 := Aside0.mk (show Kd.R k76 76 w34 w.heap.size (fun _ => True) (.slice (some ⟨go29, 0, none⟩) x3_14.length co31) x3_14 from (lR HO_3.out)); obtain ⟨ce35, hcl35, hM35, hcc35, hfr35⟩ := Kd.R_elem HX35.out z76 (t322 : Int) (lD) (by have h_ : (t322 : Int) < ((x3_14.length : Int) : Int) := lD; first | exact h_ | (have e_ := (Kd.R_reads' HO_3.out).1; omega) | simpa using h_); obtain rfl := k76_openM hM35; have HP35 := Kd.R_seg HX35.out (t322 : Int) (lD) (by have h_ : (t322 : Int) < ((x3_14.length : Int) : Int) := lD; first | exact h_ | (have e_ := (Kd.R_reads' HO_3.out).1; omega) | simpa using h_) (seg := [.int .i64 t325, .int .i64 t328]) (j := 0) hcl35 hcc35 (show 2 ≤ 2 from by decide) (x' := (⟨t325, t328⟩ : S76)) (k76_mkM _ _ _ (⟨t325, t328⟩ : S76) ) (fun _ hk => hk); have hx35_0 := hcc35 0 _ rfl; (try simp only [show (k76).sz = 2 from rfl, Nat.mul_one, Nat.add_zero] at hx35_0); have hf35_0 := hfr35 0; (try simp only [show (k76).sz = 2 from rfl, Nat.mul_one, Nat.add_zero] at hf35_0); have hx35_1 := hcc35 1 _ rfl; (try simp only [show (k76).sz = 2 from rfl, Nat.mul_one, Nat.add_zero] at hx35_1); have hf35_1 := hfr35 1; (try simp only [show (k76).sz = 2 from rfl, Nat.mul_one, Nat.add_zero] at hf35_1); clear hcl35 hcc35 hfr35; (try clear hM35)) | ((with_reducible refine gate_store (t := 76) (p := 32) rfl ?_); refine store_event (t := 76) (p := 32) (v := ?vo_w36) (w1 := ((w34.setCell ⟨go29, (t322 : Int).toNat * 2, none⟩ (.int .i64 t325)).setCell ⟨go29, (t322 : Int).toNat * 2 + 1, none⟩ (.int .i64 t328))) ?hg ?ho ?hn ?hr ?_; (case ho => rfl); (case hg => rfl); (case hn => rfl); (case hr => first | (go_simp; done) | (go_simp; rfl)); intro w36 hw; have hg : w34.grownBy w36 (some go29) := (by rw [hw]; exact HP35.2); have hp_ : Kd.R k76 76 w36 w.heap.size (fun _ => True) (.slice (some ⟨go29, 0, none⟩) x3_14.length co31) y331 := (by rw [hw, Ny331.out]; exact HP35.1); clear HP35; have n0_ := Aside0.mk (hp_); have n1_ := Aside0.mk (IsS114.grown (by repeat (first | (with_reducible first | exact HI0.out | apply IsS114.alloc | apply IsS114.drewN | apply IsS114.drew | apply IsS114.set_1 | apply IsS114.set_2) | exact HI0.out)) hg (IsS114.own_ne HI0.out HO_3.out (by decide))); have n2_ := Aside0.mk ((by rw [hw]; exact below_set (below_set (HB.out) (Nat.le_trans HL.out GB29.out)) (Nat.le_trans HL.out GB29.out) : Below w0.heap.size w0 w36)); have n3_ := Aside0.mk (KeepBut.trans (by repeat (first | (with_reducible first | exact HK.out | apply KeepBut.set_ | apply keep_drewN | apply keep_drew | apply keep_alloc) | exact HK.out)) (KeepBut.of_grown hg g) (Kd.R_base2 HO_3.out)); clear HO_3; clear HI0; clear HB; clear HK; have HO_3 := n0_; have HI0 := n1_; have HB := n2_; have HK := n3_; clear n0_ n1_ n2_ n3_; clear hg hw hp_))
        go_ret
        exact ⟨_, lE, lR HO_3.out, by repeat (first | (with_reducible first | exact HI0.out | apply IsS114.alloc | apply IsS114.drewN | apply IsS114.drew | apply IsS114.set_1 | apply IsS114.set_2) | exact HI0.out), by repeat (first | (with_reducible first | exact HB.out | apply below_alloc | apply pw_below_drewN | apply below_drew1 | refine below_set ?_ (IsS114.ge HI0.out)) | exact HB.out), by repeat (first | (with_reducible first | exact HK.out | apply KeepBut.set_ | apply keep_drewN | apply keep_drew | apply keep_alloc) | exact HK.out)⟩
       ·rw [if_neg c28] at H
        exact absurd H (by simp)
      ·rw [if_neg c27] at H
       exact absurd H (by simp)
     ·replace c23 := Bool.eq_false_iff.mpr c23
      subst c23
      rw [if_neg (show ¬ (false = true) by decide)] at H
      simp only [Option.some.injEq, Prod.mk.injEq] at H
      obtain ⟨rfl, rfl, rfl⟩ := H
      go_wp2_with (first | ((with_reducible refine gate_callee (f := 90) rfl ?_); refine gl_ (some 21) (Try.func90) #[.pointer (some ⟨g, 0, none⟩), .int .i64 30] ?_; (with_reducible refine (spec_l1Cur_one.calls g s0_0 x1001_14 x1002_14 30 false t320 t321 w0 _ ?side1 ?side2 A22.out).mono ?_); (case side1 => repeat (first | (with_reducible first | exact HI0.out | apply IsS114.alloc | apply IsS114.drewN | apply IsS114.drew | apply IsS114.set_1 | apply IsS114.set_2) | exact HI0.out)); (case side2 => repeat (first | (with_reducible first | exact HB.out | apply below_alloc | apply pw_below_drewN | apply below_drew1 | refine below_set ?_ (IsS114.ge HI0.out)) | exact HB.out)); rintro e w37 ⟨rfl, hi, hb, hk⟩; refine ⟨_, rfl, ?_⟩; have n0_ := Aside0.mk (Kd.R_mono (Kd.R_keep (IsS114.apart (show IsS114 w0 _ g s0_0 x1001_14 x1002_14 from by repeat (first | (with_reducible first | exact HI0.out | apply IsS114.alloc | apply IsS114.drewN | apply IsS114.drew | apply IsS114.set_1 | apply IsS114.set_2) | exact HI0.out)) (lR HO_3.out) (by decide)) hk (fun _ h => h.2)) (fun _ h => h.1)); have n1_ := Aside0.mk (KeepBut.trans (by repeat (first | (with_reducible first | exact HK.out | apply KeepBut.set_ | apply keep_drewN | apply keep_drew | apply keep_alloc) | exact HK.out)) hk (.inl rfl)); have n2_ := Aside0.mk (hb); have n3_ := Aside0.mk (hi); clear HO_3; clear HK; clear HB; clear HI0; have HO_3 := n0_; have HK := n1_; have HB := n2_; have HI0 := n3_; clear n0_ n1_ n2_ n3_; (try clear hb); (try clear hb2); (try clear hk); (try clear hi)))
      go_ret
      exact ⟨_, lE, lR HO_3.out, by repeat (first | (with_reducible first | exact HI0.out | apply IsS114.alloc | apply IsS114.drewN | apply IsS114.drew | apply IsS114.set_1 | apply IsS114.set_2) | exact HI0.out), by repeat (first | (with_reducible first | exact HB.out | apply below_alloc | apply pw_below_drewN | apply below_drew1 | refine below_set ?_ (IsS114.ge HI0.out)) | exact HB.out), by repeat (first | (with_reducible first | exact HK.out | apply KeepBut.set_ | apply keep_drewN | apply keep_drew | apply keep_alloc) | exact HK.out)⟩

/-! ### spec_l1Cur_lined: function 71 -/
mutual
def spec_l1Cur_lined.j0 : Nat → List Int → Int → Int → List (S86) → List (S63) → Option ((List (S86)) × (List (S63)) × Int × Int)
 | 0, _, _, _, _, _ => none
 | k + 1, x1000, x1001, x1002, x346000, x346001 => (spec_l1Cur_one.f x1000 x1001 x1002 8).bind fun bt352 => (if bt352.1 = true then (spec_l1Cur_lined.j1 k (decide ((x346000.length : Int) > 0)) x1000 bt352.2.1 bt352.2.2 x346000 x346001) else (spec_l1Cur_lined.j1 k false x1000 bt352.2.1 bt352.2.2 x346000 x346001))
def spec_l1Cur_lined.j1 : Nat → Bool → List Int → Int → Int → List (S86) → List (S63) → Option ((List (S86)) × (List (S63)) × Int × Int)
 | 0, _, _, _, _, _, _ => none
 | k + 1, x26, x1000, x1001, x1002, x346000, x346001 => if x26 = true then ((spec_l1Cur_pick.f x1000 x1001 x1002 (x346000.length : Int)).bind fun bt355 => ((spec_l1Cur_pick.f x1000 bt355.2.1 bt355.2.2 8).bind fun bt358 => ((spec_l1Cur_pick.f x1000 bt358.2.1 bt358.2.2 41).bind fun bt361 => ((spec_l1Cur_pick.f x1000 bt361.2.1 bt361.2.2 (wrap64 ((x346000.length : Int) + 2))).bind fun bt364 => (if 0 ≤ bt355.1 then (if bt355.1 < (x346000.length : Int) then (some ((x346000.set (bt355.1 : Int).toNat (⟨bt358.1, bt361.1, bt364.1⟩ : S86)), x346001, bt364.2.1, bt364.2.2)) else (none)) else (none)))))) else (some (x346000, x346001, x1001, x1002))
end
def spec_l1Cur_lined.f (k : Nat) (s0_0 : List Int) (s0_1 : Int) (s0_2 : Int) : Option ((List (S86)) × (List (S63)) × Int × Int) := (spec_l1Cur_xtree.f k s0_0 s0_1 s0_2).bind fun bt333 => ((spec_LineTree.f k bt333.1).bind fun bt338 => (if bt338.2.2 = true then (spec_l1Cur_lined.j0 k s0_0 bt333.2.1 bt333.2.2 bt338.1 bt338.2.1) else (spec_l1Cur_lined.j0 k s0_0 bt333.2.1 bt333.2.2 (([(⟨2, 1, 0⟩ : S86)] : List (S86))) (([(⟨0, 1, 0, 1⟩ : S63)] : List (S63))))))
theorem spec_l1Cur_lined.mono_l : ∀ k, (∀ y0 y1 y2 y3 y4, LeO (spec_l1Cur_lined.j0 k y0 y1 y2 y3 y4) (spec_l1Cur_lined.j0 (k + 1) y0 y1 y2 y3 y4)) ∧ (∀ y0 y1 y2 y3 y4 y5, LeO (spec_l1Cur_lined.j1 k y0 y1 y2 y3 y4 y5) (spec_l1Cur_lined.j1 (k + 1) y0 y1 y2 y3 y4 y5))
 | 0 => ⟨fun _ _ _ _ _ r h => by simp [spec_l1Cur_lined.j0] at h, fun _ _ _ _ _ _ r h => by simp [spec_l1Cur_lined.j1] at h⟩
 | k + 1 => by
  obtain ⟨ih0, ih1⟩ := spec_l1Cur_lined.mono_l k
  refine ⟨?_, ?_⟩
  ·intro y0 y1 y2 y3 y4
   unfold spec_l1Cur_lined.j0
   repeat' first
   | with_reducible apply ih0
   | with_reducible apply ih1
   | with_reducible apply spec_LineTree.mono
   | with_reducible apply spec_l1Cur_xtree.mono
   | (with_reducible exact LeO.refl _)
   | (with_reducible exact LeO.none _)
   | (with_reducible refine LeO.ite ?_ ?_)
   | (with_reducible refine LeO.bind ?_ (fun _ => ?_))
   | apply ih0
   | apply ih1
   | apply spec_LineTree.mono
   | apply spec_l1Cur_xtree.mono
   | exact LeO.none _
   | refine LeO.ite ?_ ?_
   | refine LeO.bind ?_ (fun _ => ?_)
  ·intro y0 y1 y2 y3 y4 y5
   unfold spec_l1Cur_lined.j1
   repeat' first
   | with_reducible apply ih0
   | with_reducible apply ih1
   | with_reducible apply spec_LineTree.mono
   | with_reducible apply spec_l1Cur_xtree.mono
   | (with_reducible exact LeO.refl _)
   | (with_reducible exact LeO.none _)
   | (with_reducible refine LeO.ite ?_ ?_)
   | (with_reducible refine LeO.bind ?_ (fun _ => ?_))
   | apply ih0
   | apply ih1
   | apply spec_LineTree.mono
   | apply spec_l1Cur_xtree.mono
   | exact LeO.none _
   | refine LeO.ite ?_ ?_
   | refine LeO.bind ?_ (fun _ => ?_)
theorem spec_l1Cur_lined.mono : ∀ a0 a1 a2 k, LeO (spec_l1Cur_lined.f k a0 a1 a2) (spec_l1Cur_lined.f (k + 1) a0 a1 a2) := by
 intro a0 a1 a2 k
 obtain ⟨ih0, ih1⟩ := spec_l1Cur_lined.mono_l k
 unfold spec_l1Cur_lined.f
 repeat' first
   | with_reducible apply ih0
   | with_reducible apply ih1
   | with_reducible apply spec_LineTree.mono
   | with_reducible apply spec_l1Cur_xtree.mono
   | (with_reducible exact LeO.refl _)
   | (with_reducible exact LeO.none _)
   | (with_reducible refine LeO.ite ?_ ?_)
   | (with_reducible refine LeO.bind ?_ (fun _ => ?_))
   | apply ih0
   | apply ih1
   | apply spec_LineTree.mono
   | apply spec_l1Cur_xtree.mono
   | exact LeO.none _
   | refine LeO.ite ?_ ?_
   | refine LeO.bind ?_ (fun _ => ?_)
def spec_l1Cur_lined.T6 : Bool × List (List Nat × List Nat) := (true, [([], []), ([0], [0]), ([], []), ([], []), ([3], [3]), ([], []), ([5, 4], [5]), ([], []), ([], []), ([8], [8]), ([9], [9]), ([10], [10]), ([7, 11, 6], [7, 11]), ([4, 6, 12], [4, 6, 12]), ([1, 2, 0, 1, 2, 3, 4, 5, 6, 7, 8, 9, 10, 11, 12, 13], [1, 2]), ([14, 13, 12, 0, 1, 2, 3, 4, 5, 6, 7, 8, 9, 10, 11, 12, 13], [13, 14])])
def spec_l1Cur_lined.B6 : List Nat := [0, 1, 0, 0, 8, 0, 56, 0, 0, 256, 768, 1792, 4088, 8184, 16383, 32767]
theorem spec_l1Cur_lined.tab6 : rtab .any (opsOf Try.f71 6) = spec_l1Cur_lined.T6 := by kernel_rfl
theorem spec_l1Cur_lined.bits6 : waitsOk spec_l1Cur_lined.T6.2 spec_l1Cur_lined.B6 = true := by kernel_rfl
set_option maxHeartbeats 8000000 in
set_option maxRecDepth 100000 in
theorem spec_l1Cur_lined.calls (k : Nat) (g : Nat) (s0_0 : List Int) (s0_1 : Int) (s0_2 : Int) (r1 : List (S86)) (r2 : List (S63)) (r3 : Int) (r4 : Int) (w0 w : World) (hI : IsS114 w0 w g s0_0 s0_1 s0_2) (hB : Below w0.heap.size w0 w) (h : spec_l1Cur_lined.f k s0_0 s0_1 s0_2 = some (r1, r2, r3, r4)) :
  Calls Try.prog 71 #[.pointer (some ⟨g, 0, none⟩)] w fun e w' => ∃ v0_ v1_ : Value, e = .returned (.agg #[v0_, v1_]) ∧ Kd.R k86 86 w' w.heap.size (fun _ => True) v0_ r1 ∧ Kd.R k63 63 w' w.heap.size (fun _ => True) v1_ r2 ∧ IsS114 w0 w' g s0_0 r3 r4 ∧ Below w0.heap.size w0 w' ∧ KeepBut w w' g none := by
 have hu38 := Try.underlying38
 have hu86 := Try.underlying86
 have hu63 := Try.underlying63
 have HI0 := Aside0.mk hI
 have HK := Aside0.mk (KeepBut.refl w g none)
 have HL := Aside0.mk hB.size
 clear hI
 have HW0 := Aside0.mk hB.size
 have HB := Aside0.mk hB
 clear hB
 have H : ((spec_l1Cur_xtree.f k s0_0 s0_1 s0_2).bind fun bt333 => ((spec_LineTree.f k bt333.1).bind fun bt338 => (if bt338.2.2 = true then (spec_l1Cur_lined.j0 k s0_0 bt333.2.1 bt333.2.2 bt338.1 bt338.2.1) else (spec_l1Cur_lined.j0 k s0_0 bt333.2.1 bt333.2.2 (([(⟨2, 1, 0⟩ : S86)] : List (S86))) (([(⟨0, 1, 0, 1⟩ : S63)] : List (S63))))))) = some (r1, r2, r3, r4) := h
 clear h
 replace H := Option.bind_eq_some_iff.mp H
 obtain ⟨⟨t333, t336, t337⟩, A20, H⟩ := H
 replace H : ((spec_LineTree.f k t333).bind fun bt338 => (if bt338.2.2 = true then (spec_l1Cur_lined.j0 k s0_0 t336 t337 bt338.1 bt338.2.1) else (spec_l1Cur_lined.j0 k s0_0 t336 t337 (([(⟨2, 1, 0⟩ : S86)] : List (S86))) (([(⟨0, 1, 0, 1⟩ : S63)] : List (S63)))))) = some (r1, r2, r3, r4) := H
 have A2 := Aside0.mk A20
 clear A20
 replace H := Option.bind_eq_some_iff.mp H
 obtain ⟨⟨t338, t341, t344⟩, A30, H⟩ := H
 replace H : (if t344 = true then (spec_l1Cur_lined.j0 k s0_0 t336 t337 t338 t341) else (spec_l1Cur_lined.j0 k s0_0 t336 t337 (([(⟨2, 1, 0⟩ : S86)] : List (S86))) (([(⟨0, 1, 0, 1⟩ : S63)] : List (S63))))) = some (r1, r2, r3, r4) := H
 have A3 := Aside0.mk A30
 clear A30
 have HC4 := Aside0.mk H
 clear H
 go_enter Try.func71, Try.ntmps71
 go_upto_if 13 with (first | ((with_reducible refine gate_dst (N := 2) rfl ?_); (try (refine gate_guard (by rfl) ?_; dsimp only)); refine bxe 2 #[.slice none 0 0, .slice none 0 0] 38 ?_; intro gb332 hg w5 hbox hb; have n0_ := Aside0.mk (IsS114.below (by repeat (first | (with_reducible first | exact HI0.out | apply IsS114.alloc | apply IsS114.drewN | apply IsS114.drew | apply IsS114.set_1 | apply IsS114.set_2) | exact HI0.out)) hb); have n1_ := Aside0.mk (KeepBut.trans (by repeat (first | (with_reducible first | exact HK.out | apply KeepBut.set_ | apply keep_drewN | apply keep_drew | apply keep_alloc) | exact HK.out)) (KeepBut.of_below hb g none) (.inl rfl)); have n2_ := Aside0.mk (below_step (by repeat (first | (with_reducible first | exact HB.out | apply below_alloc | apply pw_below_drewN | apply below_drew1 | refine below_set ?_ (IsS114.ge HI0.out)) | exact HB.out)) hb); have n3_ := Aside0.mk (hbox); have n4_ := Aside0.mk ((by rw [hg]; exact (keep_size (w := w) (g := g) (row := none) (by repeat (first | (with_reducible first | exact HK.out | apply KeepBut.set_ | apply keep_drewN | apply keep_drew | apply keep_alloc) | exact HK.out))) : w.heap.size ≤ gb332)); have n5_ := Aside0.mk ((Nat.le_trans HW0.out (by rw [hg]; exact (keep_size (w := w) (g := g) (row := none) (by repeat (first | (with_reducible first | exact HK.out | apply KeepBut.set_ | apply keep_drewN | apply keep_drew | apply keep_alloc) | exact HK.out))) : w.heap.size ≤ gb332) : w0.heap.size ≤ gb332)); have n6_ := Aside0.mk ((by rw [hg]; exact Nat.ne_of_lt (IsS114.lt (show IsS114 w0 _ g s0_0 s0_1 s0_2 from by repeat (first | (with_reducible first | exact HI0.out | apply IsS114.alloc | apply IsS114.drewN | apply IsS114.drew | apply IsS114.set_1 | apply IsS114.set_2) | exact HI0.out))) : g ≠ gb332)); have n7_ := Aside0.mk ((by rw [hg]; exact Nat.ne_of_gt (IsS114.lt (show IsS114 w0 _ g s0_0 s0_1 s0_2 from by repeat (first | (with_reducible first | exact HI0.out | apply IsS114.alloc | apply IsS114.drewN | apply IsS114.drew | apply IsS114.set_1 | apply IsS114.set_2) | exact HI0.out))) : gb332 ≠ g)); clear HI0; clear HK; clear HB; have HI0 := n0_; have HK := n1_; have HB := n2_; have BK332 := n3_; have GW332 := n4_; have GE332 := n5_; have NB0_332 := n6_; have NB332_0 := n7_; clear n0_ n1_ n2_ n3_ n4_ n5_ n6_ n7_; clear hb hbox hg) | ((with_reducible refine gate_callee (f := 89) rfl ?_); refine gl_ (some 8) (Try.func89) #[.pointer (some ⟨g, 0, none⟩)] ?_; (with_reducible refine (spec_l1Cur_xtree.calls k g s0_0 s0_1 s0_2 t333 t336 t337 w0 _ ?side1 ?side2 A2.out).mono ?_); (case side1 => repeat (first | (with_reducible first | exact HI0.out | apply IsS114.alloc | apply IsS114.drewN | apply IsS114.drew | apply IsS114.set_1 | apply IsS114.set_2 | refine IsS114.far ?_ NB0_332.out _) | exact HI0.out)); (case side2 => repeat (first | (with_reducible first | exact HB.out | apply below_alloc | apply pw_below_drewN | apply below_drew1 | refine below_set ?_ (IsS114.ge HI0.out) | refine below_set ?_ GE332.out) | exact HB.out)); rintro e w6 ⟨v334, rfl, ho0, hi, hb, hk⟩; refine ⟨_, rfl, ?_⟩; have n0_ := Aside0.mk (KeepBut.blk hk (g' := gb332) (o := .cells #[.slice none 0 0, .slice none 0 0] 38 (0, 0)) (lK BK332.out) NB332_0.out (by simp)); have n1_ := Aside0.mk (Kd.R_lower ho0 (keep_size (w := w) (g := g) (row := none) (by repeat (first | (with_reducible first | exact HK.out | apply KeepBut.set_ | apply keep_drewN | apply keep_drew | apply keep_alloc | refine keep_far ?_ GW332.out _) | exact HK.out)))); have n2_ := Aside0.mk (KeepBut.trans (by repeat (first | (with_reducible first | exact HK.out | apply KeepBut.set_ | apply keep_drewN | apply keep_drew | apply keep_alloc | refine keep_far ?_ GW332.out _) | exact HK.out)) hk (.inl rfl)); have n3_ := Aside0.mk (hb); have n4_ := Aside0.mk (hi); clear BK332; clear HK; clear HB; clear HI0; have BK332 := n0_; have HO335 := n1_; have HK := n2_; have HB := n3_; have HI0 := n4_; clear n0_ n1_ n2_ n3_ n4_; (try clear hb); (try clear hb2); (try clear hk); (try clear hi); (try clear ho0); obtain ⟨Ao7, co7, eo7⟩ := Kd.R_slice HO335.out; subst eo7) | ((with_reducible refine gate_callee (f := 35) rfl ?_); refine gl_ (some 9) (Try.func35) #[.slice Ao7 t333.length co7] ?_; (with_reducible refine (spec_LineTree.calls k _ _ t333 t338 t341 t344 _ ?side1 ?side2 A3.out).mono ?_); (case side1 => repeat (first | exact (Kd.R_reads' HO335.out).2.2 | (with_reducible refine Kd.C_alloc ?_ _) | (with_reducible refine Kd.C_drewN ?_ _) | (with_reducible refine Kd.C_drew ?_))); (case side2 => exact (Kd.R_reads' HO335.out).2.1); rintro e w8 ⟨v339, v342, rfl, ho0, ho1, hb⟩; refine ⟨_, rfl, ?_⟩; have n0_ := Aside0.mk (Kd.R_below (lR HO335.out) hb); have n1_ := Aside0.mk (Kd.R_lower ho0 (keep_size (w := w) (g := g) (row := none) (by repeat (first | (with_reducible first | exact HK.out | apply KeepBut.set_ | apply keep_drewN | apply keep_drew | apply keep_alloc | refine keep_far ?_ GW332.out _) | exact HK.out)))); have n2_ := Aside0.mk (Kd.R_lower ho1 (keep_size (w := w) (g := g) (row := none) (by repeat (first | (with_reducible first | exact HK.out | apply KeepBut.set_ | apply keep_drewN | apply keep_drew | apply keep_alloc | refine keep_far ?_ GW332.out _) | exact HK.out)))); have n3_ := Aside0.mk (IsS114.below (by repeat (first | (with_reducible first | exact HI0.out | apply IsS114.alloc | apply IsS114.drewN | apply IsS114.drew | apply IsS114.set_1 | apply IsS114.set_2 | refine IsS114.far ?_ NB0_332.out _) | exact HI0.out)) hb); have n4_ := Aside0.mk (blk_below (lK BK332.out) hb); have n5_ := Aside0.mk (KeepBut.trans (by repeat (first | (with_reducible first | exact HK.out | apply KeepBut.set_ | apply keep_drewN | apply keep_drew | apply keep_alloc | refine keep_far ?_ GW332.out _) | exact HK.out)) (KeepBut.of_below hb g none) (.inl rfl)); have n6_ := Aside0.mk (below_step (by repeat (first | (with_reducible first | exact HB.out | apply below_alloc | apply pw_below_drewN | apply below_drew1 | refine below_set ?_ (IsS114.ge HI0.out) | refine below_set ?_ GE332.out) | exact HB.out)) hb); clear HO335; clear HI0; clear BK332; clear HK; clear HB; have HO335 := n0_; have HO340 := n1_; have HO343 := n2_; have HI0 := n3_; have BK332 := n4_; have HK := n5_; have HB := n6_; clear n0_ n1_ n2_ n3_ n4_ n5_ n6_; (try clear hb); (try clear hb2); (try clear hk); (try clear hi); (try clear ho0); (try clear ho1)) | ((with_reducible refine gate_dst (N := 3) rfl ?_); (try (refine gate_guard (by rfl) ?_; dsimp only)); refine bxe 3 #[.slice none 0 0, .slice none 0 0] 38 ?_; intro gb345 hg w9 hbox hb; have n0_ := Aside0.mk (Kd.R_below (lR HO335.out) hb); have n1_ := Aside0.mk (Kd.R_below (lR HO340.out) hb); have n2_ := Aside0.mk (Kd.R_below (lR HO343.out) hb); have n3_ := Aside0.mk (IsS114.below (by repeat (first | (with_reducible first | exact HI0.out | apply IsS114.alloc | apply IsS114.drewN | apply IsS114.drew | apply IsS114.set_1 | apply IsS114.set_2 | refine IsS114.far ?_ NB0_332.out _) | exact HI0.out)) hb); have n4_ := Aside0.mk (blk_below (lK BK332.out) hb); have n5_ := Aside0.mk (KeepBut.trans (by repeat (first | (with_reducible first | exact HK.out | apply KeepBut.set_ | apply keep_drewN | apply keep_drew | apply keep_alloc | refine keep_far ?_ GW332.out _) | exact HK.out)) (KeepBut.of_below hb g none) (.inl rfl)); have n6_ := Aside0.mk (below_step (by repeat (first | (with_reducible first | exact HB.out | apply below_alloc | apply pw_below_drewN | apply below_drew1 | refine below_set ?_ (IsS114.ge HI0.out) | refine below_set ?_ GE332.out) | exact HB.out)) hb); have n7_ := Aside0.mk (hbox); have n8_ := Aside0.mk ((by rw [hg]; exact (keep_size (w := w) (g := g) (row := none) (by repeat (first | (with_reducible first | exact HK.out | apply KeepBut.set_ | apply keep_drewN | apply keep_drew | apply keep_alloc | refine keep_far ?_ GW332.out _) | exact HK.out))) : w.heap.size ≤ gb345)); have n9_ := Aside0.mk ((Nat.le_trans HW0.out (by rw [hg]; exact (keep_size (w := w) (g := g) (row := none) (by repeat (first | (with_reducible first | exact HK.out | apply KeepBut.set_ | apply keep_drewN | apply keep_drew | apply keep_alloc | refine keep_far ?_ GW332.out _) | exact HK.out))) : w.heap.size ≤ gb345) : w0.heap.size ≤ gb345)); have n10_ := Aside0.mk ((by rw [hg]; exact Nat.ne_of_lt (blk_lt (lK BK332.out)) : gb332 ≠ gb345)); have n11_ := Aside0.mk ((by rw [hg]; exact Nat.ne_of_gt (blk_lt (lK BK332.out)) : gb345 ≠ gb332)); have n12_ := Aside0.mk ((by rw [hg]; exact Nat.ne_of_lt (IsS114.lt (show IsS114 w0 _ g s0_0 t336 t337 from by repeat (first | (with_reducible first | exact HI0.out | apply IsS114.alloc | apply IsS114.drewN | apply IsS114.drew | apply IsS114.set_1 | apply IsS114.set_2 | refine IsS114.far ?_ NB0_332.out _) | exact HI0.out))) : g ≠ gb345)); have n13_ := Aside0.mk ((by rw [hg]; exact Nat.ne_of_gt (IsS114.lt (show IsS114 w0 _ g s0_0 t336 t337 from by repeat (first | (with_reducible first | exact HI0.out | apply IsS114.alloc | apply IsS114.drewN | apply IsS114.drew | apply IsS114.set_1 | apply IsS114.set_2 | refine IsS114.far ?_ NB0_332.out _) | exact HI0.out))) : gb345 ≠ g)); clear HO335; clear HO340; clear HO343; clear HI0; clear BK332; clear HK; clear HB; have HO335 := n0_; have HO340 := n1_; have HO343 := n2_; have HI0 := n3_; have BK332 := n4_; have HK := n5_; have HB := n6_; have BK345 := n7_; have GW345 := n8_; have GE345 := n9_; have NB332_345 := n10_; have NB345_332 := n11_; have NB0_345 := n12_; have NB345_0 := n13_; clear n0_ n1_ n2_ n3_ n4_ n5_ n6_ n7_ n8_ n9_ n10_ n11_ n12_ n13_; clear hb hbox hg; obtain ⟨Ao10, co10, eo10⟩ := Kd.R_slice HO340.out; subst eo10; have hnb11 := NB345_332.out; have hnc11 := NB332_345.out; have hnb12 := NB345_0.out; have hnc12 := NB0_345.out; obtain ⟨hcz13_0, hfz13_0, hcz13_1, hfz13_1⟩ := bk2 BK345.out; obtain ⟨Ao14, co14, eo14⟩ := Kd.R_slice HO343.out; subst eo14))
 (try simp only [Act.put, List.setIfInBounds_toArray, List.set_cons_zero, List.set_cons_succ])
 go_cut [] (fun wc => ∃ (kq : Nat) (x346000_3 : List (S86)) (x346001_3 : List (S63)) (u346000 : Value) (u346001 : Value), Aside0 (spec_l1Cur_lined.j0 kq s0_0 t336 t337 x346000_3 x346001_3 = some (r1, r2, r3, r4)) ∧ Aside0 (kq ≤ k) ∧ Aside0 (Kd.R k86 86 wc w.heap.size (fun _ => True) u346000 x346000_3) ∧ Aside0 (Kd.R k63 63 wc w.heap.size (fun _ => True) u346001 x346001_3) ∧ Aside0 (wc.heap[gb332]? = some (.cells #[(.slice none 0 0), (.slice none 0 0)] 38 (0, 0))) ∧ Aside0 (wc.heap[gb345]? = some (.cells #[u346000, u346001] 38 (0, 0))) ∧ Aside0 (IsS114 w0 wc g s0_0 t336 t337) ∧ Aside0 (KeepBut w wc g none) ∧ Aside0 (Below w0.heap.size w0 wc))
 case first =>
  have H := HC4.out
  clear HC4
  by_cases c15 : t344 = true
  ·subst c15
   rw [if_pos rfl] at H
   have H' := Aside0.mk H
   clear H
   go_wp2
   go_meet
   case rel => exact ⟨_, (t338), (t341), (.slice Ao10 t338.length co10), (.slice Ao14 t341.length co14), H', ⟨lN⟩, ⟨by (with_reducible repeat (first | apply Kd.R_alloc | apply Kd.R_drewN | apply Kd.R_drew)); exact Kd.R_mono (Kd.R_far (p := ⟨gb345, 1, none⟩) (Kd.R_far (p := ⟨gb345, 0, none⟩) (Kd.R_types HO340.out BK345.out (by decide)) (fun _ hk => hk.2) (.slice Ao10 t338.length co10)) (fun _ hk => hk.2) (.slice Ao14 t341.length co14)) (fun _ hk => trivial)⟩, ⟨by (with_reducible repeat (first | apply Kd.R_alloc | apply Kd.R_drewN | apply Kd.R_drew)); exact Kd.R_mono (Kd.R_far (p := ⟨gb345, 1, none⟩) (Kd.R_far (p := ⟨gb345, 0, none⟩) (Kd.R_types HO343.out BK345.out (by decide)) (fun _ hk => hk.2) (.slice Ao10 t338.length co10)) (fun _ hk => hk.2) (.slice Ao14 t341.length co14)) (fun _ hk => trivial)⟩, ⟨lJ BK332.out⟩, ⟨by (with_reducible repeat first | apply bN | apply bD | apply bA); refine blk_put (cs := #[.slice Ao10 t338.length co10, .slice none 0 0]) ?_ 1 _ rfl; (with_reducible repeat first | apply bN | apply bD | apply bA); refine blk_put (cs := #[.slice none 0 0, .slice none 0 0]) ?_ 0 _ rfl; (with_reducible repeat first | apply bN | apply bD | apply bA); exact BK345.out⟩, ⟨by repeat (first | (with_reducible first | exact HI0.out | apply IsS114.alloc | apply IsS114.drewN | apply IsS114.drew | apply IsS114.set_1 | apply IsS114.set_2 | refine IsS114.far ?_ NB0_332.out _ | refine IsS114.far ?_ NB0_345.out _) | exact HI0.out)⟩, ⟨by repeat (first | (with_reducible first | exact HK.out | apply KeepBut.set_ | apply keep_drewN | apply keep_drew | apply keep_alloc | refine keep_far ?_ GW332.out _ | refine keep_far ?_ GW345.out _) | exact HK.out)⟩, ⟨by repeat (first | (with_reducible first | exact HB.out | apply below_alloc | apply pw_below_drewN | apply below_drew1 | refine below_set ?_ (IsS114.ge HI0.out) | refine below_set ?_ GE332.out | refine below_set ?_ GE345.out) | exact HB.out)⟩⟩
  ·replace c15 := Bool.eq_false_iff.mpr c15
   subst c15
   rw [if_neg (show ¬ (false = true) by decide)] at H
   obtain ⟨y346, hy346⟩ : ∃ y_ : List (S86), y_ = (([(⟨2, 1, 0⟩ : S86)] : List (S86))) := ⟨_, rfl⟩
   replace H : (spec_l1Cur_lined.j0 k s0_0 t336 t337 y346 (([(⟨0, 1, 0, 1⟩ : S63)] : List (S63)))) = some (r1, r2, r3, r4) := by first | (rw [hy346]; with_reducible exact H) | (have H2_ := (Option.bind_some _ _).symm.trans H; rw [hy346]; with_reducible exact H2_) | (have H2_ := (Option.bind_some _ _).symm.trans H; with_reducible exact H2_) | with_reducible exact H | (rw [hy346]; exact H) | exact H
   have Ny346 := Aside0.mk hy346
   clear hy346
   obtain ⟨y349, hy349⟩ : ∃ y_ : List (S63), y_ = (([(⟨0, 1, 0, 1⟩ : S63)] : List (S63))) := ⟨_, rfl⟩
   replace H : (spec_l1Cur_lined.j0 k s0_0 t336 t337 y346 y349) = some (r1, r2, r3, r4) := by first | (rw [hy349]; with_reducible exact H) | (have H2_ := (Option.bind_some _ _).symm.trans H; rw [hy349]; with_reducible exact H2_) | (have H2_ := (Option.bind_some _ _).symm.trans H; with_reducible exact H2_) | with_reducible exact H | (rw [hy349]; exact H) | exact H
   have Ny349 := Aside0.mk hy349
   clear hy349
   have H' := Aside0.mk H
   clear H
   go_wp2_with (first | ((with_reducible refine gate_dst (N := 15) rfl ?_); (try (refine gate_guard (by rfl) ?_; dsimp only)); refine Kd.R_lit k86 _ 86 ?hg (N := 15) ?hd (xs := ([(⟨2, 1, 0⟩ : S86)] : List (S86))) (inner := [.int .i64 2, .int .i64 1, .int .i64 0]) (ok := fun _ => True) (okp := fun _ => True) ?hr ?hp (fun _ hk => hk) trivial (Below.refl _ _) (Nat.le_refl _) (by simp) ?_; (case hd => rfl); (case hg => rfl); (case hr => first | (go_simp; done) | (go_simp; rfl)); (case hp => exact (Reps.c3 (show Kd.M k86 _ _ _ (⟨2, 1, 0⟩ : S86) [.int .i64 2, .int .i64 1, .int .i64 0] from (k86_mkM _ _ _ (⟨2, 1, 0⟩ : S86) )) (Reps.none _ _))); intro v347 w16 ho17 hb hg_ hnew_; clear hg_ hnew_; (first | rw [← Ny346.out] at ho17 | (simp only [Int.reduceToNat] at ho17; rw [← Ny346.out] at ho17)); have n0_ := Aside0.mk (Kd.R_below (by (with_reducible repeat (first | apply Kd.R_alloc | apply Kd.R_drewN | apply Kd.R_drew)); exact (Kd.R_mono (Kd.R_far (p := ⟨gb345, 1, none⟩) (Kd.R_far (p := ⟨gb345, 0, none⟩) (Kd.R_types HO335.out BK345.out (by decide)) (fun _ hk => hk.2) (.slice Ao10 t338.length co10)) (fun _ hk => hk.2) (.slice Ao14 t341.length co14)) (fun _ h_ => h_.1))) hb); have n1_ := Aside0.mk (Kd.R_elder' (by (with_reducible repeat (first | apply Kd.R_alloc | apply Kd.R_drewN | apply Kd.R_drew)); exact (Kd.R_mono (Kd.R_far (p := ⟨gb345, 1, none⟩) (Kd.R_far (p := ⟨gb345, 0, none⟩) (Kd.R_types HO340.out BK345.out (by decide)) (fun _ hk => hk.2) (.slice Ao10 t338.length co10)) (fun _ hk => hk.2) (.slice Ao14 t341.length co14)) (fun _ h_ => h_.1))) (Kd.R_base ho17) hb); have n2_ := Aside0.mk (Kd.R_below (by (with_reducible repeat (first | apply Kd.R_alloc | apply Kd.R_drewN | apply Kd.R_drew)); exact (Kd.R_mono (Kd.R_far (p := ⟨gb345, 1, none⟩) (Kd.R_far (p := ⟨gb345, 0, none⟩) (Kd.R_types HO343.out BK345.out (by decide)) (fun _ hk => hk.2) (.slice Ao10 t338.length co10)) (fun _ hk => hk.2) (.slice Ao14 t341.length co14)) (fun _ h_ => h_.1))) hb); have n3_ := Aside0.mk (Kd.R_lower (Kd.R_new' ho17 (Kd.R_lt (by (with_reducible repeat (first | apply Kd.R_alloc | apply Kd.R_drewN | apply Kd.R_drew)); exact (Kd.R_mono (Kd.R_far (p := ⟨gb345, 1, none⟩) (Kd.R_far (p := ⟨gb345, 0, none⟩) (Kd.R_types HO340.out BK345.out (by decide)) (fun _ hk => hk.2) (.slice Ao10 t338.length co10)) (fun _ hk => hk.2) (.slice Ao14 t341.length co14)) (fun _ h_ => h_.1))))) (keep_size (w := w) (g := g) (row := none) (by repeat (first | (with_reducible first | exact HK.out | apply KeepBut.set_ | apply keep_drewN | apply keep_drew | apply keep_alloc | refine keep_far ?_ GW332.out _ | refine keep_far ?_ GW345.out _) | exact HK.out)))); have n4_ := Aside0.mk (IsS114.below (show IsS114 w0 ((w9.setCell ⟨gb345, 0, none⟩ (.slice Ao10 t338.length co10)).setCell ⟨gb345, 1, none⟩ (.slice Ao14 t341.length co14)) g s0_0 t336 t337 from by repeat (first | (with_reducible first | exact HI0.out | apply IsS114.alloc | apply IsS114.drewN | apply IsS114.drew | apply IsS114.set_1 | apply IsS114.set_2 | refine IsS114.far ?_ NB0_332.out _ | refine IsS114.far ?_ NB0_345.out _) | exact HI0.out)) hb); have n5_ := Aside0.mk (blk_below (lJ BK332.out) hb); have n6_ := Aside0.mk (blk_below (g := gb345) (o := .cells #[.slice Ao10 t338.length co10, .slice Ao14 t341.length co14] 38 (0, 0)) (by (with_reducible repeat first | apply bN | apply bD | apply bA); refine blk_put (cs := #[.slice Ao10 t338.length co10, .slice none 0 0]) ?_ 1 _ rfl; (with_reducible repeat first | apply bN | apply bD | apply bA); refine blk_put (cs := #[.slice none 0 0, .slice none 0 0]) ?_ 0 _ rfl; (with_reducible repeat first | apply bN | apply bD | apply bA); exact BK345.out) hb); have n7_ := Aside0.mk (KeepBut.trans (by repeat (first | (with_reducible first | exact HK.out | apply KeepBut.set_ | apply keep_drewN | apply keep_drew | apply keep_alloc | refine keep_far ?_ GW332.out _ | refine keep_far ?_ GW345.out _) | exact HK.out)) (KeepBut.of_below hb g none) (.inl rfl)); have n8_ := Aside0.mk (below_step (by repeat (first | (with_reducible first | exact HB.out | apply below_alloc | apply pw_below_drewN | apply below_drew1 | refine below_set ?_ (IsS114.ge HI0.out) | refine below_set ?_ GE332.out | refine below_set ?_ GE345.out) | exact HB.out)) hb); clear HO335; clear HO340; clear HO343; clear HI0; clear BK332; clear BK345; clear HK; clear HB; have HO335 := n0_; have HO340 := n1_; have HO343 := n2_; have HO348 := n3_; have HI0 := n4_; have BK332 := n5_; have BK345 := n6_; have HK := n7_; have HB := n8_; clear n0_ n1_ n2_ n3_ n4_ n5_ n6_ n7_ n8_; clear hb ho17) | ((with_reducible refine gate_dst (N := 17) rfl ?_); (try (refine gate_guard (by rfl) ?_; dsimp only)); refine Kd.R_lit k63 _ 63 ?hg (N := 17) ?hd (xs := ([(⟨0, 1, 0, 1⟩ : S63)] : List (S63))) (inner := [.int .i64 0, .int .i64 1, .int .i64 0, .int .i64 1]) (ok := fun _ => True) (okp := fun _ => True) ?hr ?hp (fun _ hk => hk) trivial (Below.refl _ _) (Nat.le_refl _) (by simp) ?_; (case hd => rfl); (case hg => rfl); (case hr => first | (go_simp; done) | (go_simp; rfl)); (case hp => exact (Reps.c4 (show Kd.M k63 _ _ _ (⟨0, 1, 0, 1⟩ : S63) [.int .i64 0, .int .i64 1, .int .i64 0, .int .i64 1] from (k63_mkM _ _ _ (⟨0, 1, 0, 1⟩ : S63) )) (Reps.none _ _))); intro v350 w18 ho19 hb hg_ hnew_; clear hg_ hnew_; (first | rw [← Ny349.out] at ho19 | (simp only [Int.reduceToNat] at ho19; rw [← Ny349.out] at ho19)); have n0_ := Aside0.mk (Kd.R_below (lR HO335.out) hb); have n1_ := Aside0.mk (Kd.R_below (lR HO340.out) hb); have n2_ := Aside0.mk (Kd.R_elder' (lR HO343.out) (Kd.R_base ho19) hb); have n3_ := Aside0.mk (Kd.R_below (lR HO348.out) hb); have n4_ := Aside0.mk (Kd.R_lower (Kd.R_new' ho19 (Kd.R_lt (lR HO343.out))) (keep_size (w := w) (g := g) (row := none) (by repeat (first | (with_reducible first | exact HK.out | apply KeepBut.set_ | apply keep_drewN | apply keep_drew | apply keep_alloc | refine keep_far ?_ GW332.out _ | refine keep_far ?_ GW345.out _) | exact HK.out)))); have n5_ := Aside0.mk (IsS114.below (by repeat (first | (with_reducible first | exact HI0.out | apply IsS114.alloc | apply IsS114.drewN | apply IsS114.drew | apply IsS114.set_1 | apply IsS114.set_2 | refine IsS114.far ?_ NB0_332.out _ | refine IsS114.far ?_ NB0_345.out _) | exact HI0.out)) hb); have n6_ := Aside0.mk (blk_below (lK BK332.out) hb); have n7_ := Aside0.mk (blk_below (lK BK345.out) hb); have n8_ := Aside0.mk (KeepBut.trans (by repeat (first | (with_reducible first | exact HK.out | apply KeepBut.set_ | apply keep_drewN | apply keep_drew | apply keep_alloc | refine keep_far ?_ GW332.out _ | refine keep_far ?_ GW345.out _) | exact HK.out)) (KeepBut.of_below hb g none) (.inl rfl)); have n9_ := Aside0.mk (below_step (by repeat (first | (with_reducible first | exact HB.out | apply below_alloc | apply pw_below_drewN | apply below_drew1 | refine below_set ?_ (IsS114.ge HI0.out) | refine below_set ?_ GE332.out | refine below_set ?_ GE345.out) | exact HB.out)) hb); clear HO335; clear HO340; clear HO343; clear HO348; clear HI0; clear BK332; clear BK345; clear HK; clear HB; have HO335 := n0_; have HO340 := n1_; have HO343 := n2_; have HO348 := n3_; have HO351 := n4_; have HI0 := n5_; have BK332 := n6_; have BK345 := n7_; have HK := n8_; have HB := n9_; clear n0_ n1_ n2_ n3_ n4_ n5_ n6_ n7_ n8_ n9_; clear hb ho19; obtain ⟨Ao20, co20, eo20⟩ := Kd.R_slice HO351.out; subst eo20; obtain ⟨Ao21, co21, eo21⟩ := Kd.R_slice HO348.out; subst eo21; have hnb22 := NB345_332.out; have hnc22 := NB332_345.out; have hnb23 := NB345_0.out; have hnc23 := NB0_345.out; obtain ⟨hcz24_0, hfz24_0, hcz24_1, hfz24_1⟩ := bk2 BK345.out))
   go_meet
   case rel => exact ⟨_, (y346), (y349), (.slice Ao21 y346.length co21), (.slice Ao20 y349.length co20), H', ⟨lN⟩, ⟨by (with_reducible repeat (first | apply Kd.R_alloc | apply Kd.R_drewN | apply Kd.R_drew)); exact Kd.R_mono (Kd.R_far (p := ⟨gb345, 1, none⟩) (Kd.R_far (p := ⟨gb345, 0, none⟩) (Kd.R_types HO348.out BK345.out (by decide)) (fun _ hk => hk.2) (.slice Ao21 y346.length co21)) (fun _ hk => hk.2) (.slice Ao20 y349.length co20)) (fun _ hk => trivial)⟩, ⟨by (with_reducible repeat (first | apply Kd.R_alloc | apply Kd.R_drewN | apply Kd.R_drew)); exact Kd.R_mono (Kd.R_far (p := ⟨gb345, 1, none⟩) (Kd.R_far (p := ⟨gb345, 0, none⟩) (Kd.R_types HO351.out BK345.out (by decide)) (fun _ hk => hk.2) (.slice Ao21 y346.length co21)) (fun _ hk => hk.2) (.slice Ao20 y349.length co20)) (fun _ hk => trivial)⟩, ⟨lJ BK332.out⟩, ⟨by (with_reducible repeat first | apply bN | apply bD | apply bA); refine blk_put (cs := #[.slice Ao21 y346.length co21, .slice Ao14 t341.length co14]) ?_ 1 _ rfl; (with_reducible repeat first | apply bN | apply bD | apply bA); refine blk_put (cs := #[.slice Ao10 t338.length co10, .slice Ao14 t341.length co14]) ?_ 0 _ rfl; (with_reducible repeat first | apply bN | apply bD | apply bA); exact BK345.out⟩, ⟨by repeat (first | (with_reducible first | exact HI0.out | apply IsS114.alloc | apply IsS114.drewN | apply IsS114.drew | apply IsS114.set_1 | apply IsS114.set_2 | refine IsS114.far ?_ NB0_332.out _ | refine IsS114.far ?_ NB0_345.out _) | exact HI0.out)⟩, ⟨by repeat (first | (with_reducible first | exact HK.out | apply KeepBut.set_ | apply keep_drewN | apply keep_drew | apply keep_alloc | refine keep_far ?_ GW332.out _ | refine keep_far ?_ GW345.out _) | exact HK.out)⟩, ⟨by repeat (first | (with_reducible first | exact HB.out | apply below_alloc | apply pw_below_drewN | apply below_drew1 | refine below_set ?_ (IsS114.ge HI0.out) | refine below_set ?_ GE332.out | refine below_set ?_ GE345.out) | exact HB.out)⟩⟩
 case rest =>
  clear HC4
  try clear c1
  try clear c2
  try clear p2
  try clear c3
  try clear c4
  try clear c7
  try clear c8
  try clear c11
  try clear c12
  try clear c15
  try clear c22
  try clear c23
  try clear hcz13_0 hcz13_1
  try clear hcz24_0 hcz24_1
  try clear hfz13_0 hfz13_1
  try clear hfz24_0 hfz24_1
  obtain ⟨kq, x346000_3, x346001_3, u346000, u346001, HA, HJ3, HO_346000, HO_346001, BK332, BK345, HI0, HK, HB⟩ := hcut
  cases kq with
  | zero => exact absurd HA.out (by simp [spec_l1Cur_lined.j0])
  | succ kj3 =>
   have H := HA.out
   clear HA
   simp only [spec_l1Cur_lined.j0] at H
   have HC25 := Aside0.mk H
   clear H
   go_upto_region 4 with (fail)
   go_cut [26] (fun v26 wc => ∃ (kq : Nat) (x26_24 : Bool) (x1001_24 : Int) (x1002_24 : Int), v26 = .bool x26_24 ∧ Aside0 (spec_l1Cur_lined.j1 kq x26_24 s0_0 x1001_24 x1002_24 x346000_3 x346001_3 = some (r1, r2, r3, r4)) ∧ Aside0 (kq ≤ kj3) ∧ Aside0 (Kd.R k86 86 wc w.heap.size (fun _ => True) u346000 x346000_3) ∧ Aside0 (Kd.R k63 63 wc w.heap.size (fun _ => True) u346001 x346001_3) ∧ Aside0 (wc.heap[gb332]? = some (.cells #[(.slice none 0 0), (.slice none 0 0)] 38 (0, 0))) ∧ Aside0 (wc.heap[gb345]? = some (.cells #[u346000, u346001] 38 (0, 0))) ∧ Aside0 (IsS114 w0 wc g s0_0 x1001_24 x1002_24) ∧ Aside0 (KeepBut w wc g none) ∧ Aside0 (Below w0.heap.size w0 wc))
   case first =>
    have H := HC25.out
    clear HC25
    replace H := Option.bind_eq_some_iff.mp H
    obtain ⟨⟨t352, t353, t354⟩, A260, H⟩ := H
    replace H : (if t352 = true then (spec_l1Cur_lined.j1 kj3 (decide ((x346000_3.length : Int) > 0)) s0_0 t353 t354 x346000_3 x346001_3) else (spec_l1Cur_lined.j1 kj3 false s0_0 t353 t354 x346000_3 x346001_3)) = some (r1, r2, r3, r4) := H
    have A26 := Aside0.mk A260
    clear A260
    by_cases c27 : t352 = true
    ·subst c27
     rw [if_pos rfl] at H
     have H' := Aside0.mk H
     clear H
     go_wp2_with (first | ((with_reducible refine gate_callee (f := 90) rfl ?_); refine gl_ (some 20) (Try.func90) #[.pointer (some ⟨g, 0, none⟩), .int .i64 8] ?_; (with_reducible refine (spec_l1Cur_one.calls g s0_0 t336 t337 8 true t353 t354 w0 _ ?side1 ?side2 A26.out).mono ?_); (case side1 => repeat (first | (with_reducible first | exact HI0.out | apply IsS114.alloc | apply IsS114.drewN | apply IsS114.drew | apply IsS114.set_1 | apply IsS114.set_2 | refine IsS114.far ?_ NB0_332.out _ | refine IsS114.far ?_ NB0_345.out _) | exact HI0.out)); (case side2 => repeat (first | (with_reducible first | exact HB.out | apply below_alloc | apply pw_below_drewN | apply below_drew1 | refine below_set ?_ (IsS114.ge HI0.out) | refine below_set ?_ GE332.out | refine below_set ?_ GE345.out) | exact HB.out)); rintro e w28 ⟨rfl, hi, hb, hk⟩; refine ⟨_, rfl, ?_⟩; have n0_ := Aside0.mk (Kd.R_mono (Kd.R_keep (IsS114.apart (show IsS114 w0 _ g s0_0 t336 t337 from by repeat (first | (with_reducible first | exact HI0.out | apply IsS114.alloc | apply IsS114.drewN | apply IsS114.drew | apply IsS114.set_1 | apply IsS114.set_2 | refine IsS114.far ?_ NB0_332.out _ | refine IsS114.far ?_ NB0_345.out _) | exact HI0.out)) (lR HO_346000.out) (by decide)) hk (fun _ h => h.2)) (fun _ h => h.1)); have n1_ := Aside0.mk (Kd.R_mono (Kd.R_keep (IsS114.apart (show IsS114 w0 _ g s0_0 t336 t337 from by repeat (first | (with_reducible first | exact HI0.out | apply IsS114.alloc | apply IsS114.drewN | apply IsS114.drew | apply IsS114.set_1 | apply IsS114.set_2 | refine IsS114.far ?_ NB0_332.out _ | refine IsS114.far ?_ NB0_345.out _) | exact HI0.out)) (lR HO_346001.out) (by decide)) hk (fun _ h => h.2)) (fun _ h => h.1)); have n2_ := Aside0.mk (KeepBut.blk hk (g' := gb332) (o := .cells #[.slice none 0 0, .slice none 0 0] 38 (0, 0)) (lK BK332.out) NB332_0.out (by simp)); have n3_ := Aside0.mk (KeepBut.blk hk (g' := gb345) (o := .cells #[u346000, u346001] 38 (0, 0)) (lK BK345.out) NB345_0.out (by simp)); have n4_ := Aside0.mk (KeepBut.trans (by repeat (first | (with_reducible first | exact HK.out | apply KeepBut.set_ | apply keep_drewN | apply keep_drew | apply keep_alloc | refine keep_far ?_ GW332.out _ | refine keep_far ?_ GW345.out _) | exact HK.out)) hk (.inl rfl)); have n5_ := Aside0.mk (hb); have n6_ := Aside0.mk (hi); clear HO_346000; clear HO_346001; clear BK332; clear BK345; clear HK; clear HB; clear HI0; have HO_346000 := n0_; have HO_346001 := n1_; have BK332 := n2_; have BK345 := n3_; have HK := n4_; have HB := n5_; have HI0 := n6_; clear n0_ n1_ n2_ n3_ n4_ n5_ n6_; (try clear hb); (try clear hb2); (try clear hk); (try clear hi); have hnb29 := NB345_332.out; have hnc29 := NB332_345.out; have hnb30 := NB345_0.out; have hnc30 := NB0_345.out; obtain ⟨hcz31_0, hfz31_0, hcz31_1, hfz31_1⟩ := bk2 BK345.out; obtain ⟨Ao32, co32, eo32⟩ := Kd.R_slice HO_346000.out; subst eo32))
     go_meet
     case rel => exact ⟨_, (decide ((x346000_3.length : Int) > 0)), (t353), (t354), lF, H', ⟨by have := HJ3.out; first | omega | exact Nat.le_refl _⟩, ⟨lR HO_346000.out⟩, ⟨lR HO_346001.out⟩, ⟨lK BK332.out⟩, ⟨lK BK345.out⟩, ⟨by repeat (first | (with_reducible first | exact HI0.out | apply IsS114.alloc | apply IsS114.drewN | apply IsS114.drew | apply IsS114.set_1 | apply IsS114.set_2 | refine IsS114.far ?_ NB0_332.out _ | refine IsS114.far ?_ NB0_345.out _) | exact HI0.out)⟩, ⟨by repeat (first | (with_reducible first | exact HK.out | apply KeepBut.set_ | apply keep_drewN | apply keep_drew | apply keep_alloc | refine keep_far ?_ GW332.out _ | refine keep_far ?_ GW345.out _) | exact HK.out)⟩, ⟨by repeat (first | (with_reducible first | exact HB.out | apply below_alloc | apply pw_below_drewN | apply below_drew1 | refine below_set ?_ (IsS114.ge HI0.out) | refine below_set ?_ GE332.out | refine below_set ?_ GE345.out) | exact HB.out)⟩⟩
    ·replace c27 := Bool.eq_false_iff.mpr c27
     subst c27
     rw [if_neg (show ¬ (false = true) by decide)] at H
     have H' := Aside0.mk H
     clear H
     go_wp2_with (first | ((with_reducible refine gate_callee (f := 90) rfl ?_); refine gl_ (some 20) (Try.func90) #[.pointer (some ⟨g, 0, none⟩), .int .i64 8] ?_; (with_reducible refine (spec_l1Cur_one.calls g s0_0 t336 t337 8 false t353 t354 w0 _ ?side1 ?side2 A26.out).mono ?_); (case side1 => repeat (first | (with_reducible first | exact HI0.out | apply IsS114.alloc | apply IsS114.drewN | apply IsS114.drew | apply IsS114.set_1 | apply IsS114.set_2 | refine IsS114.far ?_ NB0_332.out _ | refine IsS114.far ?_ NB0_345.out _) | exact HI0.out)); (case side2 => repeat (first | (with_reducible first | exact HB.out | apply below_alloc | apply pw_below_drewN | apply below_drew1 | refine below_set ?_ (IsS114.ge HI0.out) | refine below_set ?_ GE332.out | refine below_set ?_ GE345.out) | exact HB.out)); rintro e w33 ⟨rfl, hi, hb, hk⟩; refine ⟨_, rfl, ?_⟩; have n0_ := Aside0.mk (Kd.R_mono (Kd.R_keep (IsS114.apart (show IsS114 w0 _ g s0_0 t336 t337 from by repeat (first | (with_reducible first | exact HI0.out | apply IsS114.alloc | apply IsS114.drewN | apply IsS114.drew | apply IsS114.set_1 | apply IsS114.set_2 | refine IsS114.far ?_ NB0_332.out _ | refine IsS114.far ?_ NB0_345.out _) | exact HI0.out)) (lR HO_346000.out) (by decide)) hk (fun _ h => h.2)) (fun _ h => h.1)); have n1_ := Aside0.mk (Kd.R_mono (Kd.R_keep (IsS114.apart (show IsS114 w0 _ g s0_0 t336 t337 from by repeat (first | (with_reducible first | exact HI0.out | apply IsS114.alloc | apply IsS114.drewN | apply IsS114.drew | apply IsS114.set_1 | apply IsS114.set_2 | refine IsS114.far ?_ NB0_332.out _ | refine IsS114.far ?_ NB0_345.out _) | exact HI0.out)) (lR HO_346001.out) (by decide)) hk (fun _ h => h.2)) (fun _ h => h.1)); have n2_ := Aside0.mk (KeepBut.blk hk (g' := gb332) (o := .cells #[.slice none 0 0, .slice none 0 0] 38 (0, 0)) (lK BK332.out) NB332_0.out (by simp)); have n3_ := Aside0.mk (KeepBut.blk hk (g' := gb345) (o := .cells #[u346000, u346001] 38 (0, 0)) (lK BK345.out) NB345_0.out (by simp)); have n4_ := Aside0.mk (KeepBut.trans (by repeat (first | (with_reducible first | exact HK.out | apply KeepBut.set_ | apply keep_drewN | apply keep_drew | apply keep_alloc | refine keep_far ?_ GW332.out _ | refine keep_far ?_ GW345.out _) | exact HK.out)) hk (.inl rfl)); have n5_ := Aside0.mk (hb); have n6_ := Aside0.mk (hi); clear HO_346000; clear HO_346001; clear BK332; clear BK345; clear HK; clear HB; clear HI0; have HO_346000 := n0_; have HO_346001 := n1_; have BK332 := n2_; have BK345 := n3_; have HK := n4_; have HB := n5_; have HI0 := n6_; clear n0_ n1_ n2_ n3_ n4_ n5_ n6_; (try clear hb); (try clear hb2); (try clear hk); (try clear hi)))
     go_meet
     case rel => exact ⟨_, (false), (t353), (t354), lF, H', ⟨by have := HJ3.out; first | omega | exact Nat.le_refl _⟩, ⟨lR HO_346000.out⟩, ⟨lR HO_346001.out⟩, ⟨lK BK332.out⟩, ⟨lK BK345.out⟩, ⟨by repeat (first | (with_reducible first | exact HI0.out | apply IsS114.alloc | apply IsS114.drewN | apply IsS114.drew | apply IsS114.set_1 | apply IsS114.set_2 | refine IsS114.far ?_ NB0_332.out _ | refine IsS114.far ?_ NB0_345.out _) | exact HI0.out)⟩, ⟨by repeat (first | (with_reducible first | exact HK.out | apply KeepBut.set_ | apply keep_drewN | apply keep_drew | apply keep_alloc | refine keep_far ?_ GW332.out _ | refine keep_far ?_ GW345.out _) | exact HK.out)⟩, ⟨by repeat (first | (with_reducible first | exact HB.out | apply below_alloc | apply pw_below_drewN | apply below_drew1 | refine below_set ?_ (IsS114.ge HI0.out) | refine below_set ?_ GE332.out | refine below_set ?_ GE345.out) | exact HB.out)⟩⟩
   case rest =>
    clear HC25
    try clear c1
    try clear c2
    try clear p2
    try clear c3
    try clear c4
    try clear c7
    try clear c8
    try clear c9
    try clear c11
    try clear c12
    try clear c15
    try clear c22
    try clear c23
    try clear c27
    try clear c29
    try clear c30
    try clear hcz13_0 hcz13_1
    try clear hcz24_0 hcz24_1
    try clear hcz31_0 hcz31_1
    try clear hfz13_0 hfz13_1
    try clear hfz24_0 hfz24_1
    try clear hfz31_0 hfz31_1
    try clear p2
    obtain ⟨kq, x26_24, x1001_24, x1002_24, rfl, HA, HJ24, HO_346000, HO_346001, BK332, BK345, HI0, HK, HB⟩ := hcut
    cases kq with
    | zero => exact absurd HA.out (by simp [spec_l1Cur_lined.j1])
    | succ kj24 =>
     have H := HA.out
     clear HA
     simp only [spec_l1Cur_lined.j1] at H
     by_cases c34 : x26_24 = true
     ·subst c34
      rw [if_pos rfl] at H
      replace H := Option.bind_eq_some_iff.mp H
      obtain ⟨⟨t355, t356, t357⟩, A350, H⟩ := H
      replace H : ((spec_l1Cur_pick.f s0_0 t356 t357 8).bind fun bt358 => ((spec_l1Cur_pick.f s0_0 bt358.2.1 bt358.2.2 41).bind fun bt361 => ((spec_l1Cur_pick.f s0_0 bt361.2.1 bt361.2.2 (wrap64 ((x346000_3.length : Int) + 2))).bind fun bt364 => (if 0 ≤ t355 then (if t355 < (x346000_3.length : Int) then (some ((x346000_3.set (t355 : Int).toNat (⟨bt358.1, bt361.1, bt364.1⟩ : S86)), x346001_3, bt364.2.1, bt364.2.2)) else (none)) else (none))))) = some (r1, r2, r3, r4) := H
      have A35 := Aside0.mk A350
      clear A350
      replace H := Option.bind_eq_some_iff.mp H
      obtain ⟨⟨t358, t359, t360⟩, A360, H⟩ := H
      replace H : ((spec_l1Cur_pick.f s0_0 t359 t360 41).bind fun bt361 => ((spec_l1Cur_pick.f s0_0 bt361.2.1 bt361.2.2 (wrap64 ((x346000_3.length : Int) + 2))).bind fun bt364 => (if 0 ≤ t355 then (if t355 < (x346000_3.length : Int) then (some ((x346000_3.set (t355 : Int).toNat (⟨t358, bt361.1, bt364.1⟩ : S86)), x346001_3, bt364.2.1, bt364.2.2)) else (none)) else (none)))) = some (r1, r2, r3, r4) := H
      have A36 := Aside0.mk A360
      clear A360
      replace H := Option.bind_eq_some_iff.mp H
      obtain ⟨⟨t361, t362, t363⟩, A370, H⟩ := H
      replace H : ((spec_l1Cur_pick.f s0_0 t362 t363 (wrap64 ((x346000_3.length : Int) + 2))).bind fun bt364 => (if 0 ≤ t355 then (if t355 < (x346000_3.length : Int) then (some ((x346000_3.set (t355 : Int).toNat (⟨t358, t361, bt364.1⟩ : S86)), x346001_3, bt364.2.1, bt364.2.2)) else (none)) else (none))) = some (r1, r2, r3, r4) := H
      have A37 := Aside0.mk A370
      clear A370
      replace H := Option.bind_eq_some_iff.mp H
      obtain ⟨⟨t364, t365, t366⟩, A380, H⟩ := H
      replace H : (if 0 ≤ t355 then (if t355 < (x346000_3.length : Int) then (some ((x346000_3.set (t355 : Int).toNat (⟨t358, t361, t364⟩ : S86)), x346001_3, t365, t366)) else (none)) else (none)) = some (r1, r2, r3, r4) := H
      have A38 := Aside0.mk A380
      clear A380
      by_cases c39 : 0 ≤ t355
      ·rw [if_pos c39] at H
       have c39b0 : decide (0 ≤ t355) = true := decide_eq_true c39
       clear c39
       by_cases c40 : t355 < (x346000_3.length : Int)
       ·rw [if_pos c40] at H
        have c40b0 : decide (t355 < (x346000_3.length : Int)) = true := decide_eq_true c40
        clear c40
        obtain ⟨y367, hy367⟩ : ∃ y_ : List (S86), y_ = (x346000_3.set (t355 : Int).toNat (⟨t358, t361, t364⟩ : S86)) := ⟨_, rfl⟩
        replace H : (some (y367, x346001_3, t365, t366)) = some (r1, r2, r3, r4) := by first | (rw [hy367]; with_reducible exact H) | (have H2_ := (Option.bind_some _ _).symm.trans H; rw [hy367]; with_reducible exact H2_) | (have H2_ := (Option.bind_some _ _).symm.trans H; with_reducible exact H2_) | with_reducible exact H | (rw [hy367]; exact H) | exact H
        have Ny367 := Aside0.mk hy367
        clear hy367
        simp only [Option.some.injEq, Prod.mk.injEq] at H
        obtain ⟨rfl, rfl, rfl, rfl⟩ := H
        have hnb42 := NB345_332.out
        have hnc42 := NB332_345.out
        have hnb43 := NB345_0.out
        have hnc43 := NB0_345.out
        obtain ⟨hcz44_0, hfz44_0, hcz44_1, hfz44_1⟩ := bk2 BK345.out
        obtain ⟨Ao45, co45, eo45⟩ := Kd.R_slice HO_346000.out
        subst eo45
        try go_wp2_with (first | ((with_reducible refine gate_callee (f := 72) rfl ?_); refine gl_ (some 31) (Try.func72) #[.pointer (some ⟨g, 0, none⟩), .int .i64 (x346000_3.length : Int)] ?_; (with_reducible refine (spec_l1Cur_pick.calls g s0_0 x1001_24 x1002_24 (x346000_3.length : Int) t355 t356 t357 w0 _ ?side1 ?side2 A35.out).mono ?_); (case side1 => repeat (first | (with_reducible first | exact HI0.out | apply IsS114.alloc | apply IsS114.drewN | apply IsS114.drew | apply IsS114.set_1 | apply IsS114.set_2 | refine IsS114.far ?_ NB0_332.out _ | refine IsS114.far ?_ NB0_345.out _) | exact HI0.out)); (case side2 => repeat (first | (with_reducible first | exact HB.out | apply below_alloc | apply pw_below_drewN | apply below_drew1 | refine below_set ?_ (IsS114.ge HI0.out) | refine below_set ?_ GE332.out | refine below_set ?_ GE345.out) | exact HB.out)); rintro e w46 ⟨rfl, hi, hb, hk⟩; refine ⟨_, rfl, ?_⟩; have n0_ := Aside0.mk (Kd.R_mono (Kd.R_keep (IsS114.apart (show IsS114 w0 _ g s0_0 x1001_24 x1002_24 from by repeat (first | (with_reducible first | exact HI0.out | apply IsS114.alloc | apply IsS114.drewN | apply IsS114.drew | apply IsS114.set_1 | apply IsS114.set_2 | refine IsS114.far ?_ NB0_332.out _ | refine IsS114.far ?_ NB0_345.out _) | exact HI0.out)) (lR HO_346000.out) (by decide)) hk (fun _ h => h.2)) (fun _ h => h.1)); have n1_ := Aside0.mk (Kd.R_mono (Kd.R_keep (IsS114.apart (show IsS114 w0 _ g s0_0 x1001_24 x1002_24 from by repeat (first | (with_reducible first | exact HI0.out | apply IsS114.alloc | apply IsS114.drewN | apply IsS114.drew | apply IsS114.set_1 | apply IsS114.set_2 | refine IsS114.far ?_ NB0_332.out _ | refine IsS114.far ?_ NB0_345.out _) | exact HI0.out)) (lR HO_346001.out) (by decide)) hk (fun _ h => h.2)) (fun _ h => h.1)); have n2_ := Aside0.mk (KeepBut.blk hk (g' := gb332) (o := .cells #[.slice none 0 0, .slice none 0 0] 38 (0, 0)) (lK BK332.out) NB332_0.out (by simp)); have n3_ := Aside0.mk (KeepBut.blk hk (g' := gb345) (o := .cells #[.slice Ao45 x346000_3.length co45, u346001] 38 (0, 0)) (lK BK345.out) NB345_0.out (by simp)); have n4_ := Aside0.mk (KeepBut.trans (by repeat (first | (with_reducible first | exact HK.out | apply KeepBut.set_ | apply keep_drewN | apply keep_drew | apply keep_alloc | refine keep_far ?_ GW332.out _ | refine keep_far ?_ GW345.out _) | exact HK.out)) hk (.inl rfl)); have n5_ := Aside0.mk (hb); have n6_ := Aside0.mk (hi); clear HO_346000; clear HO_346001; clear BK332; clear BK345; clear HK; clear HB; clear HI0; have HO_346000 := n0_; have HO_346001 := n1_; have BK332 := n2_; have BK345 := n3_; have HK := n4_; have HB := n5_; have HI0 := n6_; clear n0_ n1_ n2_ n3_ n4_ n5_ n6_; (try clear hb); (try clear hb2); (try clear hk); (try clear hi)))
        have n0_ := Aside0.mk (Kd.R_drew HO_346000.out)
        have n1_ := Aside0.mk (Kd.R_drew HO_346001.out)
        have n2_ := Aside0.mk (blk_drew BK332.out)
        have n3_ := Aside0.mk (blk_drew BK345.out)
        have n4_ := Aside0.mk (IsS114.drew HI0.out)
        have n5_ := Aside0.mk (keep_drew HK.out)
        have n6_ := Aside0.mk (below_drew1 HB.out)
        clear HO_346000
        clear HO_346001
        clear BK332
        clear BK345
        clear HI0
        clear HK
        clear HB
        have HO_346000 := n0_
        have HO_346001 := n1_
        have BK332 := n2_
        have BK345 := n3_
        have HI0 := n4_
        have HK := n5_
        have HB := n6_
        clear n0_ n1_ n2_ n3_ n4_ n5_ n6_
        refine start_ (n := 16) (S := fun w' => w'.cell? ⟨gb345, 0, none⟩ = some (.slice Ao45 x346000_3.length co45) ∧ w'.cell? ⟨gb345, 1, none⟩ = some (u346001)) (ds := [15]) (bs 16 0) kR rfl kR ⟨bZ BK345.out 0, bZ BK345.out 1⟩ (fun hHeld => ?_); refine with_tabW spec_l1Cur_lined.tab6 spec_l1Cur_lined.bits6 (fun HT_ HW_ => ?_)
        generalize w46.drew = w47 at HO_346000 HO_346001 BK332 BK345 HI0 HK HB hHeld ⊢
        refine pur_ 0 32 (bs 16 1) (any_of HT_.out kR) ?_
        refine pur_ 2 34 (bs 16 5) (any_of HT_.out kR) ?_
        refine pur_ 3 35 (bs 16 13) (any_of HT_.out kR) ?_
        refine pur_ 5 37 (bs 16 45) (any_of HT_.out kR) ?_
        refine pur_ 7 39 (bs 16 173) (any_of HT_.out kR) ?_
        refine pur_ 8 40 (bs 16 429) (any_of HT_.out kR) ?_
        refine tak_ 1 33 (bs 16 431) (take_ofW HT_.out HW_.out kR) hHeld ?_
        refine tak_ 9 41 (bs 16 943) (take_ofW HT_.out HW_.out kR) hHeld ?_
        refine pur_ 10 42 (bs 16 1967) (any_of HT_.out kR) ?_
        refine pur_ 11 43 (bs 16 4015) (any_of HT_.out kR) ?_
        refine one_ (i := 4) (N := some 36) (bs 16 4031) rfl rfl (one_of HT_.out (by kernel_rfl)) (by decide) (fun K hK => ?_)
        refine goes_ Try.func72 (by kernel_rfl) rfl #[.pointer (some ⟨g, 0, none⟩), .int .i64 8] (by rfl) rfl rfl (by (try simp only [List.map_toArray, List.map_cons, List.map_nil]); first | done | rfl | (simp only [List.length_drop, List.length_take]; rfl)) ?_
        with_reducible refine (spec_l1Cur_pick.calls g s0_0 t356 t357 8 t358 t359 t360 w0 _ ?side1 ?side2 A36.out).mono ?_
        (case side1 => repeat (first | (with_reducible first | exact HI0.out | apply IsS114.alloc | apply IsS114.drewN | apply IsS114.drew | apply IsS114.set_1 | apply IsS114.set_2 | refine IsS114.far ?_ NB0_332.out _ | refine IsS114.far ?_ NB0_345.out _) | exact HI0.out))
        (case side2 => repeat (first | (with_reducible first | exact HB.out | apply below_alloc | apply pw_below_drewN | apply below_drew1 | refine below_set ?_ (IsS114.ge HI0.out) | refine below_set ?_ GE332.out | refine below_set ?_ GE345.out) | exact HB.out))
        rintro e w48 ⟨rfl, hi, hb, hk⟩
        refine ⟨_, rfl, ?_⟩
        have n0_ := Aside0.mk (Kd.R_mono (Kd.R_keep (IsS114.apart (show IsS114 w0 _ g s0_0 t356 t357 from by repeat (first | (with_reducible first | exact HI0.out | apply IsS114.alloc | apply IsS114.drewN | apply IsS114.drew | apply IsS114.set_1 | apply IsS114.set_2 | refine IsS114.far ?_ NB0_332.out _ | refine IsS114.far ?_ NB0_345.out _) | exact HI0.out)) (lR HO_346000.out) (by decide)) hk (fun _ h => h.2)) (fun _ h => h.1))
        have n1_ := Aside0.mk (Kd.R_mono (Kd.R_keep (IsS114.apart (show IsS114 w0 _ g s0_0 t356 t357 from by repeat (first | (with_reducible first | exact HI0.out | apply IsS114.alloc | apply IsS114.drewN | apply IsS114.drew | apply IsS114.set_1 | apply IsS114.set_2 | refine IsS114.far ?_ NB0_332.out _ | refine IsS114.far ?_ NB0_345.out _) | exact HI0.out)) (lR HO_346001.out) (by decide)) hk (fun _ h => h.2)) (fun _ h => h.1))
        have n2_ := Aside0.mk (KeepBut.blk hk (g' := gb332) (o := .cells #[.slice none 0 0, .slice none 0 0] 38 (0, 0)) (lK BK332.out) NB332_0.out (by simp))
        have n3_ := Aside0.mk (KeepBut.blk hk (g' := gb345) (o := .cells #[.slice Ao45 x346000_3.length co45, u346001] 38 (0, 0)) (lK BK345.out) NB345_0.out (by simp))
        have n4_ := Aside0.mk (KeepBut.trans (by repeat (first | (with_reducible first | exact HK.out | apply KeepBut.set_ | apply keep_drewN | apply keep_drew | apply keep_alloc | refine keep_far ?_ GW332.out _ | refine keep_far ?_ GW345.out _) | exact HK.out)) hk (.inl rfl))
        have n5_ := Aside0.mk (hb)
        have n6_ := Aside0.mk (hi)
        clear HO_346000
        clear HO_346001
        clear BK332
        clear BK345
        clear HK
        clear HB
        clear HI0
        have HO_346000 := n0_
        have HO_346001 := n1_
        have BK332 := n2_
        have BK345 := n3_
        have HK := n4_
        have HB := n5_
        have HI0 := n6_
        clear n0_ n1_ n2_ n3_ n4_ n5_ n6_
        (try clear hb)
        (try clear hb2)
        (try clear hk)
        (try clear hi)
        refine hK.out _ _ ⟨bZ BK345.out 0, bZ BK345.out 1⟩ (fun hHeld => ?_)
        clear hK K
        refine norm_ (a' := ?_) ?_ ?_
        rotate_left
        ·show Act.put _ (some 36) _ = _
         simp only [Act.put, List.setIfInBounds_toArray, List.set_cons_zero, List.set_cons_succ, i64_w, i32_w]
         rfl
        refine one_ (i := 6) (N := some 38) (bs 16 4095) rfl rfl (one_of HT_.out (by kernel_rfl)) (by decide) (fun K hK => ?_)
        refine goes_ Try.func72 (by kernel_rfl) rfl #[.pointer (some ⟨g, 0, none⟩), .int .i64 41] (by rfl) rfl rfl (by (try simp only [List.map_toArray, List.map_cons, List.map_nil]); first | done | rfl | (simp only [List.length_drop, List.length_take]; rfl)) ?_
        with_reducible refine (spec_l1Cur_pick.calls g s0_0 t359 t360 41 t361 t362 t363 w0 _ ?side1 ?side2 A37.out).mono ?_
        (case side1 => repeat (first | (with_reducible first | exact HI0.out | apply IsS114.alloc | apply IsS114.drewN | apply IsS114.drew | apply IsS114.set_1 | apply IsS114.set_2 | refine IsS114.far ?_ NB0_332.out _ | refine IsS114.far ?_ NB0_345.out _) | exact HI0.out))
        (case side2 => repeat (first | (with_reducible first | exact HB.out | apply below_alloc | apply pw_below_drewN | apply below_drew1 | refine below_set ?_ (IsS114.ge HI0.out) | refine below_set ?_ GE332.out | refine below_set ?_ GE345.out) | exact HB.out))
        rintro e w49 ⟨rfl, hi, hb, hk⟩
        refine ⟨_, rfl, ?_⟩
        have n0_ := Aside0.mk (Kd.R_mono (Kd.R_keep (IsS114.apart (show IsS114 w0 _ g s0_0 t359 t360 from by repeat (first | (with_reducible first | exact HI0.out | apply IsS114.alloc | apply IsS114.drewN | apply IsS114.drew | apply IsS114.set_1 | apply IsS114.set_2 | refine IsS114.far ?_ NB0_332.out _ | refine IsS114.far ?_ NB0_345.out _) | exact HI0.out)) (lR HO_346000.out) (by decide)) hk (fun _ h => h.2)) (fun _ h => h.1))
        have n1_ := Aside0.mk (Kd.R_mono (Kd.R_keep (IsS114.apart (show IsS114 w0 _ g s0_0 t359 t360 from by repeat (first | (with_reducible first | exact HI0.out | apply IsS114.alloc | apply IsS114.drewN | apply IsS114.drew | apply IsS114.set_1 | apply IsS114.set_2 | refine IsS114.far ?_ NB0_332.out _ | refine IsS114.far ?_ NB0_345.out _) | exact HI0.out)) (lR HO_346001.out) (by decide)) hk (fun _ h => h.2)) (fun _ h => h.1))
        have n2_ := Aside0.mk (KeepBut.blk hk (g' := gb332) (o := .cells #[.slice none 0 0, .slice none 0 0] 38 (0, 0)) (lK BK332.out) NB332_0.out (by simp))
        have n3_ := Aside0.mk (KeepBut.blk hk (g' := gb345) (o := .cells #[.slice Ao45 x346000_3.length co45, u346001] 38 (0, 0)) (lK BK345.out) NB345_0.out (by simp))
        have n4_ := Aside0.mk (KeepBut.trans (by repeat (first | (with_reducible first | exact HK.out | apply KeepBut.set_ | apply keep_drewN | apply keep_drew | apply keep_alloc | refine keep_far ?_ GW332.out _ | refine keep_far ?_ GW345.out _) | exact HK.out)) hk (.inl rfl))
        have n5_ := Aside0.mk (hb)
        have n6_ := Aside0.mk (hi)
        clear HO_346000
        clear HO_346001
        clear BK332
        clear BK345
        clear HK
        clear HB
        clear HI0
        have HO_346000 := n0_
        have HO_346001 := n1_
        have BK332 := n2_
        have BK345 := n3_
        have HK := n4_
        have HB := n5_
        have HI0 := n6_
        clear n0_ n1_ n2_ n3_ n4_ n5_ n6_
        (try clear hb)
        (try clear hb2)
        (try clear hk)
        (try clear hi)
        refine hK.out _ _ ⟨bZ BK345.out 0, bZ BK345.out 1⟩ (fun hHeld => ?_)
        clear hK K
        refine norm_ (a' := ?_) ?_ ?_
        rotate_left
        ·show Act.put _ (some 38) _ = _
         simp only [Act.put, List.setIfInBounds_toArray, List.set_cons_zero, List.set_cons_succ, i64_w, i32_w]
         rfl
        refine one_ (i := 12) (N := some 44) (bs 16 8191) rfl rfl (one_of HT_.out (by kernel_rfl)) (by decide) (fun K hK => ?_)
        refine goes_ Try.func72 (by kernel_rfl) rfl #[.pointer (some ⟨g, 0, none⟩), .int .i64 (wrap64 ((x346000_3.length : Int) + 2))] (by rfl) rfl rfl (by (try simp only [List.map_toArray, List.map_cons, List.map_nil]); first | done | rfl | (simp only [List.length_drop, List.length_take]; rfl)) ?_
        with_reducible refine (spec_l1Cur_pick.calls g s0_0 t362 t363 (wrap64 ((x346000_3.length : Int) + 2)) t364 t365 t366 w0 _ ?side1 ?side2 A38.out).mono ?_
        (case side1 => repeat (first | (with_reducible first | exact HI0.out | apply IsS114.alloc | apply IsS114.drewN | apply IsS114.drew | apply IsS114.set_1 | apply IsS114.set_2 | refine IsS114.far ?_ NB0_332.out _ | refine IsS114.far ?_ NB0_345.out _) | exact HI0.out))
        (case side2 => repeat (first | (with_reducible first | exact HB.out | apply below_alloc | apply pw_below_drewN | apply below_drew1 | refine below_set ?_ (IsS114.ge HI0.out) | refine below_set ?_ GE332.out | refine below_set ?_ GE345.out) | exact HB.out))
        rintro e w50 ⟨rfl, hi, hb, hk⟩
        refine ⟨_, rfl, ?_⟩
        have n0_ := Aside0.mk (Kd.R_mono (Kd.R_keep (IsS114.apart (show IsS114 w0 _ g s0_0 t362 t363 from by repeat (first | (with_reducible first | exact HI0.out | apply IsS114.alloc | apply IsS114.drewN | apply IsS114.drew | apply IsS114.set_1 | apply IsS114.set_2 | refine IsS114.far ?_ NB0_332.out _ | refine IsS114.far ?_ NB0_345.out _) | exact HI0.out)) (lR HO_346000.out) (by decide)) hk (fun _ h => h.2)) (fun _ h => h.1))
        have n1_ := Aside0.mk (Kd.R_mono (Kd.R_keep (IsS114.apart (show IsS114 w0 _ g s0_0 t362 t363 from by repeat (first | (with_reducible first | exact HI0.out | apply IsS114.alloc | apply IsS114.drewN | apply IsS114.drew | apply IsS114.set_1 | apply IsS114.set_2 | refine IsS114.far ?_ NB0_332.out _ | refine IsS114.far ?_ NB0_345.out _) | exact HI0.out)) (lR HO_346001.out) (by decide)) hk (fun _ h => h.2)) (fun _ h => h.1))
        have n2_ := Aside0.mk (KeepBut.blk hk (g' := gb332) (o := .cells #[.slice none 0 0, .slice none 0 0] 38 (0, 0)) (lK BK332.out) NB332_0.out (by simp))
        have n3_ := Aside0.mk (KeepBut.blk hk (g' := gb345) (o := .cells #[.slice Ao45 x346000_3.length co45, u346001] 38 (0, 0)) (lK BK345.out) NB345_0.out (by simp))
        have n4_ := Aside0.mk (KeepBut.trans (by repeat (first | (with_reducible first | exact HK.out | apply KeepBut.set_ | apply keep_drewN | apply keep_drew | apply keep_alloc | refine keep_far ?_ GW332.out _ | refine keep_far ?_ GW345.out _) | exact HK.out)) hk (.inl rfl))
        have n5_ := Aside0.mk (hb)
        have n6_ := Aside0.mk (hi)
        clear HO_346000
        clear HO_346001
        clear BK332
        clear BK345
        clear HK
        clear HB
        clear HI0
        have HO_346000 := n0_
        have HO_346001 := n1_
        have BK332 := n2_
        have BK345 := n3_
        have HK := n4_
        have HB := n5_
        have HI0 := n6_
        clear n0_ n1_ n2_ n3_ n4_ n5_ n6_
        (try clear hb)
        (try clear hb2)
        (try clear hk)
        (try clear hi)
        have p41 : 0 ≤ (t355 : Int) := lD
        have q41 : (t355 : Int) < ((x346000_3.length : Int) : Int) := lD
        obtain ⟨go41, co41, eo41, gb41, gl41, cl41, HG41⟩ := Kd.R_form HO_346000.out (by omega)
        (first | cases eo41 | (injection eo41 with ea_ en_ ec_; (first | subst ea_ | (injection ea_ with ea_; subst ea_)); subst ec_; clear en_))
        have GB41 := Aside0.mk gb41
        have GG41 := Aside0.mk HG41
        clear gb41 gl41 HG41
        obtain ⟨ce41, hcl41, hM41, hcc41, hfr41⟩ := Kd.R_elem HO_346000.out z86 (t355 : Int) p41 q41
        obtain rfl := k86_openM hM41
        have hx41_0 : World.cell? _ ⟨go41, (t355 : Int).toNat * 3, none⟩ = some (.int .i64 ((rd_T86 x346000_3 t355).f0)) := hcc41 0 _ rfl
        have hx41_1 : World.cell? _ ⟨go41, (t355 : Int).toNat * 3 + 1, none⟩ = some (.int .i64 ((rd_T86 x346000_3 t355).f1)) := hcc41 1 _ rfl
        have hx41_2 : World.cell? _ ⟨go41, (t355 : Int).toNat * 3 + 2, none⟩ = some (.int .i64 ((rd_T86 x346000_3 t355).f2)) := hcc41 2 _ rfl
        have hf41_0 : World.frozen? _ ⟨go41, (t355 : Int).toNat * 3, none⟩ = false := hfr41 0
        have hf41_1 : World.frozen? _ ⟨go41, (t355 : Int).toNat * 3 + 1, none⟩ = false := hfr41 1
        have hf41_2 : World.frozen? _ ⟨go41, (t355 : Int).toNat * 3 + 2, none⟩ = false := hfr41 2
        clear hcl41 hcc41 hfr41; (try clear hM41)
        replace p41 := eq_true p41
        replace q41 := eq_true q41
        have HN0_go41 := Aside0.mk (show g ≠ go41 from by have h_ := IsS114.own_ne HI0.out HO_346000.out (by decide); intro e_; exact h_ (by rw [e_]; rfl))
        obtain ⟨ce51, hcl51, hM51, hcc51, hfr51⟩ := Kd.R_elem HO_346000.out z86 (t355 : Int) (lD) (by have h_ : (t355 : Int) < ((x346000_3.length : Int) : Int) := lD; first | exact h_ | (have e_ := (Kd.R_reads' HO_346000.out).1; omega) | simpa using h_)
        obtain rfl := k86_openM hM51
        have HP51 := (Kd.R_seg HO_346000.out (t355 : Int) (lD) (by have h_ : (t355 : Int) < ((x346000_3.length : Int) : Int) := lD; first | exact h_ | (have e_ := (Kd.R_reads' HO_346000.out).1; omega) | simpa using h_) (seg := [.int .i64 t358, .int .i64 t361, .int .i64 t364]) (j := 0) hcl51 hcc51 (show 3 ≤ 3 from by decide) (x' := (⟨t358, t361, t364⟩ : S86)) (k86_mkM _ _ _ (⟨t358, t361, t364⟩ : S86) ) (fun _ hk => hk)).1
        rw [← Ny367.out] at HP51
        have HQ51 := Aside0.mk HP51
        clear hcl51 hcc51 hfr51 HP51; (try clear hM51)
        refine hK.out _ _ ⟨bZ BK345.out 0, bZ BK345.out 1⟩ (fun hHeld => ?_)
        clear hK K
        refine norm_ (a' := ?_) ?_ ?_
        rotate_left
        ·show Act.put _ (some 44) _ = _
         simp only [Act.put, List.setIfInBounds_toArray, List.set_cons_zero, List.set_cons_succ, i64_w, i32_w]
         rfl
        refine pur_ 13 45 (bs 16 16383) (any_of HT_.out kR) ?_
        refine pur_ 14 46 (bs 16 32767) (any_of HT_.out kR) ?_
        refine last_ (i := 15) (N := none) (bs 16 65535) rfl rfl (one_of HT_.out (by kernel_rfl)) (by decide) (fun K hK => ?_)
        refine skip_ (w1 := ?_) (by rfl) rfl ?_ ?_
        rotate_left
        ·go_simp
         rfl
        refine hK.out _ _ ?_
        clear hK K
        refine done_ (done_of HT_.out (by kernel_rfl)) ?_
        have n0_ : Aside0 (Kd.R k86 86 (((w50.setCell ⟨go41, (t355 : Int).toNat * 3, none⟩ (.int .i64 t358)).setCell ⟨go41, (t355 : Int).toNat * 3 + 1, none⟩ (.int .i64 t361)).setCell ⟨go41, (t355 : Int).toNat * 3 + 2, none⟩ (.int .i64 t364)) w.heap.size (fun _ => True) (.slice (some ⟨go41, 0, none⟩) x346000_3.length co45) y367) := ⟨lR HQ51.out⟩
        have n1_ : Aside0 (Kd.R k63 63 (((w50.setCell ⟨go41, (t355 : Int).toNat * 3, none⟩ (.int .i64 t358)).setCell ⟨go41, (t355 : Int).toNat * 3 + 1, none⟩ (.int .i64 t361)).setCell ⟨go41, (t355 : Int).toNat * 3 + 2, none⟩ (.int .i64 t364)) w.heap.size (fun _ => True) u346001 x346001_3) := ⟨by (with_reducible repeat (first | apply Kd.R_alloc | apply Kd.R_drewN | apply Kd.R_drew)); exact Kd.R_mono (Kd.R_far (p := ⟨go41, (t355 : Int).toNat * 3 + 2, none⟩) (Kd.R_far (p := ⟨go41, (t355 : Int).toNat * 3 + 1, none⟩) (Kd.R_far (p := ⟨go41, (t355 : Int).toNat * 3, none⟩) (Kd.R_types HO_346001.out GG41.out (by decide)) (fun _ hk => hk.2) (.int .i64 t358)) (fun _ hk => hk.2) (.int .i64 t361)) (fun _ hk => hk.2) (.int .i64 t364)) (fun _ hk => trivial)⟩
        have n2_ : Aside0 ((((w50.setCell ⟨go41, (t355 : Int).toNat * 3, none⟩ (.int .i64 t358)).setCell ⟨go41, (t355 : Int).toNat * 3 + 1, none⟩ (.int .i64 t361)).setCell ⟨go41, (t355 : Int).toNat * 3 + 2, none⟩ (.int .i64 t364)).heap[gb332]? = some (.cells #[.slice none 0 0, .slice none 0 0] 38 (0, 0))) := ⟨by (with_reducible repeat first | apply bN | apply bD | apply bA); refine blk_far ?_ (by have h_ := Kd.R_ne HO_346000.out BK332.out (by decide); intro e_; exact h_ (by rw [e_]; rfl)) _; (with_reducible repeat first | apply bN | apply bD | apply bA); refine blk_far ?_ (by have h_ := Kd.R_ne HO_346000.out BK332.out (by decide); intro e_; exact h_ (by rw [e_]; rfl)) _; (with_reducible repeat first | apply bN | apply bD | apply bA); refine blk_far ?_ (by have h_ := Kd.R_ne HO_346000.out BK332.out (by decide); intro e_; exact h_ (by rw [e_]; rfl)) _; (with_reducible repeat first | apply bN | apply bD | apply bA); exact BK332.out⟩
        have n3_ : Aside0 ((((w50.setCell ⟨go41, (t355 : Int).toNat * 3, none⟩ (.int .i64 t358)).setCell ⟨go41, (t355 : Int).toNat * 3 + 1, none⟩ (.int .i64 t361)).setCell ⟨go41, (t355 : Int).toNat * 3 + 2, none⟩ (.int .i64 t364)).heap[gb345]? = some (.cells #[.slice (some ⟨go41, 0, none⟩) x346000_3.length co45, u346001] 38 (0, 0))) := ⟨by (with_reducible repeat first | apply bN | apply bD | apply bA); refine blk_far ?_ (by have h_ := Kd.R_ne HO_346000.out BK345.out (by decide); intro e_; exact h_ (by rw [e_]; rfl)) _; (with_reducible repeat first | apply bN | apply bD | apply bA); refine blk_far ?_ (by have h_ := Kd.R_ne HO_346000.out BK345.out (by decide); intro e_; exact h_ (by rw [e_]; rfl)) _; (with_reducible repeat first | apply bN | apply bD | apply bA); refine blk_far ?_ (by have h_ := Kd.R_ne HO_346000.out BK345.out (by decide); intro e_; exact h_ (by rw [e_]; rfl)) _; (with_reducible repeat first | apply bN | apply bD | apply bA); exact BK345.out⟩
        have n4_ : Aside0 (IsS114 w0 (((w50.setCell ⟨go41, (t355 : Int).toNat * 3, none⟩ (.int .i64 t358)).setCell ⟨go41, (t355 : Int).toNat * 3 + 1, none⟩ (.int .i64 t361)).setCell ⟨go41, (t355 : Int).toNat * 3 + 2, none⟩ (.int .i64 t364)) g s0_0 t365 t366) := ⟨by repeat (first | (with_reducible first | exact HI0.out | apply IsS114.alloc | apply IsS114.drewN | apply IsS114.drew | apply IsS114.set_1 | apply IsS114.set_2 | refine IsS114.far ?_ HN0_go41.out _ | refine IsS114.far ?_ HN0_go41.out _ | refine IsS114.far ?_ HN0_go41.out _ | refine IsS114.far ?_ NB0_332.out _ | refine IsS114.far ?_ NB0_345.out _) | exact HI0.out)⟩
        have n5_ : Aside0 (KeepBut w (((w50.setCell ⟨go41, (t355 : Int).toNat * 3, none⟩ (.int .i64 t358)).setCell ⟨go41, (t355 : Int).toNat * 3 + 1, none⟩ (.int .i64 t361)).setCell ⟨go41, (t355 : Int).toNat * 3 + 2, none⟩ (.int .i64 t364)) g none) := ⟨by repeat (first | (with_reducible first | exact HK.out | apply KeepBut.set_ | apply keep_drewN | apply keep_drew | apply keep_alloc | refine keep_far ?_ GB41.out _ | refine keep_far ?_ GB41.out _ | refine keep_far ?_ GB41.out _ | refine keep_far ?_ GW332.out _ | refine keep_far ?_ GW345.out _) | exact HK.out)⟩
        have n6_ : Aside0 (Below w0.heap.size w0 (((w50.setCell ⟨go41, (t355 : Int).toNat * 3, none⟩ (.int .i64 t358)).setCell ⟨go41, (t355 : Int).toNat * 3 + 1, none⟩ (.int .i64 t361)).setCell ⟨go41, (t355 : Int).toNat * 3 + 2, none⟩ (.int .i64 t364))) := ⟨by repeat (first | (with_reducible first | exact HB.out | apply below_alloc | apply pw_below_drewN | apply below_drew1 | refine below_set ?_ (Nat.le_trans HL.out GB41.out) | refine below_set ?_ (Nat.le_trans HL.out GB41.out) | refine below_set ?_ (Nat.le_trans HL.out GB41.out) | refine below_set ?_ (IsS114.ge HI0.out) | refine below_set ?_ GE332.out | refine below_set ?_ GE345.out) | exact HB.out)⟩
        (try clear HO_346000)
        (try clear HO_346001)
        (try clear BK332)
        (try clear BK345)
        (try clear HI0)
        (try clear HK)
        (try clear HB)
        generalize (((w50.setCell ⟨go41, (t355 : Int).toNat * 3, none⟩ (.int .i64 t358)).setCell ⟨go41, (t355 : Int).toNat * 3 + 1, none⟩ (.int .i64 t361)).setCell ⟨go41, (t355 : Int).toNat * 3 + 2, none⟩ (.int .i64 t364)) = w52 at n0_ n1_ n2_ n3_ n4_ n5_ n6_ ⊢
        have HO_346000 := n0_
        have HO_346001 := n1_
        have BK332 := n2_
        have BK345 := n3_
        have HI0 := n4_
        have HK := n5_
        have HB := n6_
        clear n0_ n1_ n2_ n3_ n4_ n5_ n6_
        obtain ⟨hcz53_0, hfz53_0, hcz53_1, hfz53_1⟩ := bk2 BK345.out
        have hnb54 := NB332_0.out
        have hnc54 := NB0_332.out
        obtain ⟨hcz55_0, hfz55_0, hcz55_1, hfz55_1⟩ := bk2 BK332.out
        obtain ⟨Ao56, co56, eo56⟩ := Kd.R_slice HO_346001.out
        subst eo56
        try go_wp2
        refine bodyPost_ret (results_cell_row rfl _ _ gb332 38 #[.slice (some ⟨go41, 0, none⟩) x346000_3.length co45, .slice Ao56 x346001_3.length co56] (0, 0) _ rfl (by (with_reducible repeat first | apply bN | apply bD | apply bA); refine blk_put (cs := #[.slice (some ⟨go41, 0, none⟩) x346000_3.length co45, .slice none 0 0]) ?_ 1 _ rfl; (with_reducible repeat first | apply bN | apply bD | apply bA); refine blk_put (cs := #[.slice none 0 0, .slice none 0 0]) ?_ 0 _ rfl; (with_reducible repeat first | apply bN | apply bD | apply bA); exact BK332.out) Try.underlying38 rfl (by kernel_rfl)) rfl ?_
        exact ⟨_, _, lE, by (with_reducible repeat (first | apply Kd.R_alloc | apply Kd.R_drewN | apply Kd.R_drew)); exact Kd.R_mono (Kd.R_far (p := ⟨gb332, 1, none⟩) (Kd.R_far (p := ⟨gb332, 0, none⟩) (Kd.R_types HO_346000.out BK332.out (by decide)) (fun _ hk => hk.2) (.slice (some ⟨go41, 0, none⟩) x346000_3.length co45)) (fun _ hk => hk.2) (.slice Ao56 x346001_3.length co56)) (fun _ hk => trivial), by (with_reducible repeat (first | apply Kd.R_alloc | apply Kd.R_drewN | apply Kd.R_drew)); exact Kd.R_mono (Kd.R_far (p := ⟨gb332, 1, none⟩) (Kd.R_far (p := ⟨gb332, 0, none⟩) (Kd.R_types HO_346001.out BK332.out (by decide)) (fun _ hk => hk.2) (.slice (some ⟨go41, 0, none⟩) x346000_3.length co45)) (fun _ hk => hk.2) (.slice Ao56 x346001_3.length co56)) (fun _ hk => trivial), by repeat (first | (with_reducible first | exact HI0.out | apply IsS114.alloc | apply IsS114.drewN | apply IsS114.drew | apply IsS114.set_1 | apply IsS114.set_2 | refine IsS114.far ?_ NB0_332.out _ | refine IsS114.far ?_ NB0_345.out _) | exact HI0.out), by repeat (first | (with_reducible first | exact HB.out | apply below_alloc | apply pw_below_drewN | apply below_drew1 | refine below_set ?_ (IsS114.ge HI0.out) | refine below_set ?_ GE332.out | refine below_set ?_ GE345.out) | exact HB.out), by repeat (first | (with_reducible first | exact HK.out | apply KeepBut.set_ | apply keep_drewN | apply keep_drew | apply keep_alloc | refine keep_far ?_ GW332.out _ | refine keep_far ?_ GW345.out _) | exact HK.out)⟩
       ·rw [if_neg c40] at H
        exact absurd H (by simp)
      ·rw [if_neg c39] at H
       exact absurd H (by simp)
     ·replace c34 := Bool.eq_false_iff.mpr c34
      subst c34
      rw [if_neg (show ¬ (false = true) by decide)] at H
      simp only [Option.some.injEq, Prod.mk.injEq] at H
      obtain ⟨rfl, rfl, rfl, rfl⟩ := H
      have hnb57 := NB345_332.out
      have hnc57 := NB332_345.out
      have hnb58 := NB345_0.out
      have hnc58 := NB0_345.out
      obtain ⟨hcz59_0, hfz59_0, hcz59_1, hfz59_1⟩ := bk2 BK345.out
      obtain ⟨Ao60, co60, eo60⟩ := Kd.R_slice HO_346000.out
      subst eo60
      have hnb61 := NB332_0.out
      have hnc61 := NB0_332.out
      obtain ⟨hcz62_0, hfz62_0, hcz62_1, hfz62_1⟩ := bk2 BK332.out
      obtain ⟨Ao63, co63, eo63⟩ := Kd.R_slice HO_346001.out
      subst eo63
      go_wp2
      refine bodyPost_ret (results_cell_row rfl _ _ gb332 38 #[.slice Ao60 x346000_3.length co60, .slice Ao63 x346001_3.length co63] (0, 0) _ rfl (by (with_reducible repeat first | apply bN | apply bD | apply bA); refine blk_put (cs := #[.slice Ao60 x346000_3.length co60, .slice none 0 0]) ?_ 1 _ rfl; (with_reducible repeat first | apply bN | apply bD | apply bA); refine blk_put (cs := #[.slice none 0 0, .slice none 0 0]) ?_ 0 _ rfl; (with_reducible repeat first | apply bN | apply bD | apply bA); exact BK332.out) Try.underlying38 rfl (by kernel_rfl)) rfl ?_
      exact ⟨_, _, lE, by (with_reducible repeat (first | apply Kd.R_alloc | apply Kd.R_drewN | apply Kd.R_drew)); exact Kd.R_mono (Kd.R_far (p := ⟨gb332, 1, none⟩) (Kd.R_far (p := ⟨gb332, 0, none⟩) (Kd.R_types HO_346000.out BK332.out (by decide)) (fun _ hk => hk.2) (.slice Ao60 x346000_3.length co60)) (fun _ hk => hk.2) (.slice Ao63 x346001_3.length co63)) (fun _ hk => trivial), by (with_reducible repeat (first | apply Kd.R_alloc | apply Kd.R_drewN | apply Kd.R_drew)); exact Kd.R_mono (Kd.R_far (p := ⟨gb332, 1, none⟩) (Kd.R_far (p := ⟨gb332, 0, none⟩) (Kd.R_types HO_346001.out BK332.out (by decide)) (fun _ hk => hk.2) (.slice Ao60 x346000_3.length co60)) (fun _ hk => hk.2) (.slice Ao63 x346001_3.length co63)) (fun _ hk => trivial), by repeat (first | (with_reducible first | exact HI0.out | apply IsS114.alloc | apply IsS114.drewN | apply IsS114.drew | apply IsS114.set_1 | apply IsS114.set_2 | refine IsS114.far ?_ NB0_332.out _ | refine IsS114.far ?_ NB0_345.out _) | exact HI0.out), by repeat (first | (with_reducible first | exact HB.out | apply below_alloc | apply pw_below_drewN | apply below_drew1 | refine below_set ?_ (IsS114.ge HI0.out) | refine below_set ?_ GE332.out | refine below_set ?_ GE345.out) | exact HB.out), by repeat (first | (with_reducible first | exact HK.out | apply KeepBut.set_ | apply keep_drewN | apply keep_drew | apply keep_alloc | refine keep_far ?_ GW332.out _ | refine keep_far ?_ GW345.out _) | exact HK.out)⟩

end Go.Proofs.Ytgjojppbichaiaa.Q
