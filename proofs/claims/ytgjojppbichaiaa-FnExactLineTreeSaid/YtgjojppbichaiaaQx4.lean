-- Written by the program wip/tools/pr.py of this claim's session, over the kit's print.py.
import Derived.Test.YtgjojppbichaiaaQx0
import Derived.Test.YtgjojppbichaiaaQx3
namespace Go.Proofs.Ytgjojppbichaiaa.Q
open Go.RowKit Go.Proofs.YtgjojppbichaiaaW.PrintWords Go.Proofs.YtgjojppbichaiaaW.PrintLast Go.Proofs.YtgjojppbichaiaaW.PrintMore
attribute [local go_sem] max2_int min2_int max_two min_two max_three min_three max_four min_four   -- for this text's walks alone
set_option linter.unusedVariables false
set_option linter.unusedSimpArgs false

/-! ### spec_l16Read: function 75 -/
mutual
def spec_l16Read.j0 : Nat → List (S76) → Int → Bool → Option (Int × Int × (List (S72)) × Int)
 | 0, _, _, _ => none
 | k + 1, x0, x1, x21 => if x21 = true then (some (0, 0, ([] : List (S72)), 0)) else (if 0 ≤ x1 then (if x1 < (x0.length : Int) then ((spec_l16Arity.f k ((rd_T76 x0 x1).f0)).bind fun t168 => (spec_l16Read.l0 k x0 (wrap64 (x1 + 1)) t168 ((rd_T76 x0 x1).f0) ((rd_T76 x0 x1).f1) ([] : List (S72)))) else (none)) else (none))
def spec_l16Read.l0 : Nat → List (S76) → Int → Int → Int → Int → List (S72) → Option (Int × Int × (List (S72)) × Int)
 | 0, _, _, _, _, _, _ => none
 | k + 1, x0, x1, x7, x168000, x168001, x168002 => if x7 > 0 then ((spec_l16Read.f k x0 x1).bind fun bt169 => (if bt169.2.2.2 = 0 then (some (0, 0, ([] : List (S72)), 0)) else (if x168002.length < 3518437208883 then (spec_l16Read.l0 k x0 bt169.2.2.2 (wrap64 (x7 - 1)) x168000 x168001 (x168002 ++ [(⟨bt169.1, bt169.2.1, bt169.2.2.1⟩ : S72)])) else (none)))) else (some (x168000, x168001, x168002, x1))
def spec_l16Read.f : Nat → List (S76) → Int → Option (Int × Int × (List (S72)) × Int)
 | 0, _, _ => none
 | k + 1, l0, a1 => if a1 ≥ (l0.length : Int) then (spec_l16Read.j0 k l0 a1 true) else (if 0 ≤ a1 then (if a1 < (l0.length : Int) then ((spec_l16Cell.f k ((rd_T76 l0 a1).f0) ((rd_T76 l0 a1).f1)).bind fun t164 => (spec_l16Read.j0 k l0 a1 (!t164))) else (none)) else (none))
end
theorem spec_l16Read.mono_l : ∀ k, (∀ y0 y1, LeO (spec_l16Read.f k y0 y1) (spec_l16Read.f (k + 1) y0 y1)) ∧ (∀ y0 y1 y2, LeO (spec_l16Read.j0 k y0 y1 y2) (spec_l16Read.j0 (k + 1) y0 y1 y2)) ∧ (∀ y0 y1 y2 y3 y4 y5, LeO (spec_l16Read.l0 k y0 y1 y2 y3 y4 y5) (spec_l16Read.l0 (k + 1) y0 y1 y2 y3 y4 y5))
 | 0 => ⟨fun _ _ r h => by simp [spec_l16Read.f] at h, fun _ _ _ r h => by simp [spec_l16Read.j0] at h, fun _ _ _ _ _ _ r h => by simp [spec_l16Read.l0] at h⟩
 | k + 1 => by
  obtain ⟨ih0, ih1, ih2⟩ := spec_l16Read.mono_l k
  refine ⟨?_, ?_, ?_⟩
  ·intro y0 y1
   unfold spec_l16Read.f
   repeat' first
   | with_reducible apply ih0
   | with_reducible apply ih1
   | with_reducible apply ih2
   | with_reducible apply spec_l16Arity.mono
   | with_reducible apply spec_l16Cell.mono
   | (with_reducible exact LeO.refl _)
   | (with_reducible exact LeO.none _)
   | (with_reducible refine LeO.ite ?_ ?_)
   | (with_reducible refine LeO.bind ?_ (fun _ => ?_))
   | apply ih0
   | apply ih1
   | apply ih2
   | apply spec_l16Arity.mono
   | apply spec_l16Cell.mono
   | exact LeO.none _
   | refine LeO.ite ?_ ?_
   | refine LeO.bind ?_ (fun _ => ?_)
  ·intro y0 y1 y2
   unfold spec_l16Read.j0
   repeat' first
   | with_reducible apply ih0
   | with_reducible apply ih1
   | with_reducible apply ih2
   | with_reducible apply spec_l16Arity.mono
   | with_reducible apply spec_l16Cell.mono
   | (with_reducible exact LeO.refl _)
   | (with_reducible exact LeO.none _)
   | (with_reducible refine LeO.ite ?_ ?_)
   | (with_reducible refine LeO.bind ?_ (fun _ => ?_))
   | apply ih0
   | apply ih1
   | apply ih2
   | apply spec_l16Arity.mono
   | apply spec_l16Cell.mono
   | exact LeO.none _
   | refine LeO.ite ?_ ?_
   | refine LeO.bind ?_ (fun _ => ?_)
  ·intro y0 y1 y2 y3 y4 y5
   unfold spec_l16Read.l0
   repeat' first
   | with_reducible apply ih0
   | with_reducible apply ih1
   | with_reducible apply ih2
   | with_reducible apply spec_l16Arity.mono
   | with_reducible apply spec_l16Cell.mono
   | (with_reducible exact LeO.refl _)
   | (with_reducible exact LeO.none _)
   | (with_reducible refine LeO.ite ?_ ?_)
   | (with_reducible refine LeO.bind ?_ (fun _ => ?_))
   | apply ih0
   | apply ih1
   | apply ih2
   | apply spec_l16Arity.mono
   | apply spec_l16Cell.mono
   | exact LeO.none _
   | refine LeO.ite ?_ ?_
   | refine LeO.bind ?_ (fun _ => ?_)
theorem spec_l16Read.mono : ∀ a0 a1 k, LeO (spec_l16Read.f k a0 a1) (spec_l16Read.f (k + 1) a0 a1) := by
 intro a0 a1 k
 obtain ⟨ih0, ih1, ih2⟩ := spec_l16Read.mono_l k
 exact ih0 a0 a1
def spec_l16Read.T3 : Bool × List (List Nat × List Nat) := (true, [([], []), ([], []), ([0, 1], [0, 1]), ([2], [2]), ([3], [3]), ([], []), ([], []), ([5, 6], [5, 6]), ([7], [7]), ([8], [8]), ([4, 9], [4, 9]), ([], []), ([11, 10, 0, 1, 2, 3, 4, 5, 6, 7, 8, 9, 10, 11], [10, 11])])
def spec_l16Read.B3 : List Nat := [0, 0, 3, 7, 15, 0, 0, 96, 224, 480, 1023, 0, 4095]
theorem spec_l16Read.tab3 : rtab .any (opsOf Try.f75 3) = spec_l16Read.T3 := by kernel_rfl
theorem spec_l16Read.bits3 : waitsOk spec_l16Read.T3.2 spec_l16Read.B3 = true := by kernel_rfl
set_option maxHeartbeats 8000000 in
set_option maxRecDepth 100000 in
theorem spec_l16Read.calls (k : Nat) : ∀ (A0 : Option Addr) (c0 : Nat) (l0 : List (S76)) (a1 : Int) (r1 : Int) (r2 : Int) (r3 : List (S72)) (r4 : Int) (w : World) (hr0 : Kd.C k76 w A0 l0.length l0) (hc0 : l0.length ≤ c0) (h : spec_l16Read.f k l0 a1 = some (r1, r2, r3, r4)),
  Calls Try.prog 75 #[.slice A0 l0.length c0, .int .i64 a1] w fun e w' => ∃ v2_ : Value, e = .returned (.tuple #[.agg #[.int .i64 r1, .int .i64 r2, v2_], .int .i64 r4]) ∧ Kd.R k72 72 w' w.heap.size (fun _ => True) v2_ r3 ∧ Below w.heap.size w w' := by
 induction k using Nat.strongRecOn with
 | _ k ih =>
 intro A0 c0 l0 a1 r1 r2 r3 r4 w hr0 hc0 h
 cases k with
 | zero => exact absurd h (by simp [spec_l16Read.f])
 | succ k =>
 simp only [spec_l16Read.f] at h
 have hu72 := Try.underlying72
 have hu76 := Try.underlying76
 have HR0 := Aside0.mk hr0
 have HC0 := Aside0.mk hc0
 clear hr0 hc0
 have HB := Aside0.mk (Below.refl w.heap.size w)
 have H : (if a1 ≥ (l0.length : Int) then (spec_l16Read.j0 k l0 a1 true) else (if 0 ≤ a1 then (if a1 < (l0.length : Int) then ((spec_l16Cell.f k ((rd_T76 l0 a1).f0) ((rd_T76 l0 a1).f1)).bind fun t164 => (spec_l16Read.j0 k l0 a1 (!t164))) else (none)) else (none))) = some (r1, r2, r3, r4) := h
 clear h
 have HC3 := Aside0.mk H
 clear H
 go_enter Try.func75, Try.ntmps75
 go_upto_region 1 with (first | ((with_reducible refine gate_dst (N := 4) rfl ?_); refine bxe 4 #[.int .i64 0, .int .i64 0, .slice none 0 0] 72 ?_; intro gb162 hg w4 hbox hb; have n0_ := Aside0.mk (below_step lB hb); have n1_ := Aside0.mk (hbox); have n2_ := lG w hg; have n3_ := lG w hg; clear HB; have HB := n0_; have BK162 := n1_; have GW162 := n2_; have GE162 := n3_; clear n0_ n1_ n2_ n3_; clear hb hbox hg))
 (try simp only [Act.put, List.setIfInBounds_toArray, List.set_cons_zero, List.set_cons_succ])
 go_cut [21] (fun v21 wc => ∃ (kq : Nat) (x21_2 : Bool), v21 = .bool x21_2 ∧ Aside0 (spec_l16Read.j0 kq l0 a1 x21_2 = some (r1, r2, r3, r4)) ∧ Aside0 (kq ≤ k) ∧ Aside0 (wc.heap[gb162]? = some (.cells #[.int .i64 0, .int .i64 0, (.slice none 0 0)] 72 (0, 0))) ∧ Aside0 (Below w.heap.size w wc))
 case first =>
  have H := HC3.out
  clear HC3
  by_cases c5 : a1 ≥ (l0.length : Int)
  ·rw [if_pos c5] at H
   have c5b0 : decide ((l0.length : Int) ≤ a1) = true := decide_eq_true c5
   clear c5
   (first | rw [c5b0] | (simp only [i64_w, i32_w]; rw [c5b0]) | skip)
   have H' := Aside0.mk H
   clear H
   go_wp2
   go_meet
   case rel => exact ⟨_, (true), lF, H', ⟨lN⟩, ⟨lK BK162.out⟩, ⟨lB⟩⟩
  ·rw [if_neg c5] at H
   have c5b0 : decide ((l0.length : Int) ≤ a1) = false := decide_eq_false c5
   clear c5
   (first | rw [c5b0] | (simp only [i64_w, i32_w]; rw [c5b0]) | skip)
   by_cases c6 : 0 ≤ a1
   ·rw [if_pos c6] at H
    have c6b0 : decide (0 ≤ a1) = true := decide_eq_true c6
    clear c6
    by_cases c7 : a1 < (l0.length : Int)
    ·rw [if_pos c7] at H
     have c7b0 : decide (a1 < (l0.length : Int)) = true := decide_eq_true c7
     clear c7
     replace H := lO H
     obtain ⟨t164, A8, H⟩ := H
     have H' := Aside0.mk H
     clear H
     have p163 : 0 ≤ (a1 : Int) := lD
     have q163 : a1 < (l0.length : Int) := lD
     obtain ⟨ad163, e163, hx163_0, hx163_1⟩ := at_T76 HR0.out a1 p163 q163
     cases e163
     replace hx163_0 := pw_cell_below HB.out hx163_0
     replace hx163_1 := pw_cell_below HB.out hx163_1
     replace p163 := eq_true p163
     replace q163 := eq_true q163
     go_wp2_with (first | (go_at_call 92; (with_reducible refine (spec_l16Cell.calls k ((rd_T76 l0 a1).f0) ((rd_T76 l0 a1).f1) t164 _ A8.out).mono ?_); rintro e w9 ⟨rfl, hb⟩; have n0_ := Aside0.mk (blk_below (lK BK162.out) hb); have n1_ := Aside0.mk (below_step lB hb); clear BK162; clear HB; have BK162 := n0_; have HB := n1_; clear n0_ n1_; (try clear hb); (try clear hb2); (try clear hk); (try clear hi)))
     go_meet
     case rel => exact ⟨_, (!t164), lF, H', ⟨lN⟩, ⟨lK BK162.out⟩, ⟨lB⟩⟩
    ·rw [if_neg c7] at H
     exact absurd H (by simp)
   ·rw [if_neg c6] at H
    exact absurd H (by simp)
 case rest =>
  clear HC3
  try clear p1
  try clear q1
  try clear hx1
  try clear p2
  try clear c5
  try clear c5b0
  try clear c6
  try clear c6b0
  try clear c7
  try clear c7b0
  try clear hx163_0
  try clear hx163_1
  try clear p163
  try clear q163
  obtain ⟨kq, x21_2, rfl, HA, HJ2, BK162, HB⟩ := hcut
  cases kq with
  | zero => exact absurd HA.out (by simp [spec_l16Read.j0])
  | succ kj2 =>
   have H := HA.out
   clear HA
   simp only [spec_l16Read.j0] at H
   by_cases c10 : x21_2 = true
   ·subst c10
    rw [if_pos rfl] at H
    simp only [Option.some.injEq, Prod.mk.injEq] at H
    obtain ⟨rfl, rfl, rfl, rfl⟩ := H
    obtain ⟨hcz11_0, hfz11_0, hcz11_1, hfz11_1, hcz11_2, hfz11_2⟩ := bk3 BK162.out
    go_wp2
    refine bodyPost_ret (results_ct rfl _ _ gb162 72 #[.int .i64 0, .int .i64 0, .slice none 0 0] (0, 0) _ rfl (by (with_reducible repeat first | apply bN | apply bD | apply bA); refine blk_put (cs := #[.int .i64 0, .int .i64 0, .slice none 0 0]) ?_ 2 _ rfl; (with_reducible repeat first | apply bN | apply bD | apply bA); refine blk_put (cs := #[.int .i64 0, .int .i64 0, .slice none 0 0]) ?_ 1 _ rfl; (with_reducible repeat first | apply bN | apply bD | apply bA); refine blk_put (cs := #[.int .i64 0, .int .i64 0, .slice none 0 0]) ?_ 0 _ rfl; (with_reducible repeat first | apply bN | apply bD | apply bA); exact BK162.out) Try.underlying72 rfl (by kernel_rfl)) rfl ?_
    exact ⟨_, lE, by first | exact Kd.R_nil _ _ _ _ _ | exact Kd.N_nil _ _ _ _ _ | exact Kd.V_nil _ _ _ _ _ | exact Kd.Q_nil _ _ _ _ _ | exact Kd.S_nil _ _ _ _ _, lB⟩
   ·replace c10 := Bool.eq_false_iff.mpr c10
    subst c10
    rw [if_neg (show ¬ (false = true) by decide)] at H
    by_cases c12 : 0 ≤ a1
    ·rw [if_pos c12] at H
     have c12b0 : decide (0 ≤ a1) = true := decide_eq_true c12
     clear c12
     by_cases c13 : a1 < (l0.length : Int)
     ·rw [if_pos c13] at H
      have c13b0 : decide (a1 < (l0.length : Int)) = true := decide_eq_true c13
      clear c13
      replace H := lO H
      obtain ⟨t168, A14, H⟩ := H
      have H' := Aside0.mk H
      clear H
      try go_wp2
      have n0_ := Aside0.mk (blk_drew BK162.out)
      have n1_ := Aside0.mk (below_drew1 HB.out)
      clear BK162
      clear HB
      have BK162 := n0_
      have HB := n1_
      clear n0_ n1_
      have p165 : 0 ≤ (a1 : Int) := lD
      have q165 : a1 < (l0.length : Int) := lD
      obtain ⟨ad165, e165, hx165_0, hx165_1⟩ := at_T76 HR0.out a1 p165 q165
      have hw165_1 := hx165_1
      have hw165_0 := hx165_0
      cases e165
      replace hx165_0 := pw_cell_below HB.out hx165_0
      replace hx165_1 := pw_cell_below HB.out hx165_1
      replace p165 := eq_true p165
      replace q165 := eq_true q165
      have p166 : 0 ≤ (a1 : Int) := lD
      have q166 : a1 < (l0.length : Int) := lD
      obtain ⟨ad166, e166, hx166_0, hx166_1⟩ := at_T76 HR0.out a1 p166 q166
      have hw166_1 := hx166_1
      have hw166_0 := hx166_0
      obtain rfl : ad165 = ad166 := (by injection e166)
      replace hx166_0 := pw_cell_below HB.out hx166_0
      replace hx166_1 := pw_cell_below HB.out hx166_1
      replace p166 := eq_true p166
      replace q166 := eq_true q166
      refine start_ (n := 13) (S := fun w' => w'.cell? (ad165.add ((a1).toNat * 2)) = some (.int .i64 ((rd_T76 l0 a1).f0)) ∧ w'.cell? ⟨(ad165.add ((a1).toNat * 2)).block, (ad165.add ((a1).toNat * 2)).off + 1, none⟩ = some (.int .i64 ((rd_T76 l0 a1).f1)) ∧ w'.cell? (ad165.add ((a1).toNat * 2)) = some (.int .i64 ((rd_T76 l0 a1).f0)) ∧ w'.cell? ⟨(ad165.add ((a1).toNat * 2)).block, (ad165.add ((a1).toNat * 2)).off + 1, none⟩ = some (.int .i64 ((rd_T76 l0 a1).f1))) (ds := []) (bs 13 0) kR rfl kR ⟨((HB.out.cell (World.block_lt_of_cell? w _ hw165_0)).trans hw165_0), ((HB.out.cell (World.block_lt_of_cell? w _ hw165_1)).trans hw165_1), ((HB.out.cell (World.block_lt_of_cell? w _ hw166_0)).trans hw166_0), ((HB.out.cell (World.block_lt_of_cell? w _ hw166_1)).trans hw166_1)⟩ (fun hHeld => ?_); refine with_tabW spec_l16Read.tab3 spec_l16Read.bits3 (fun HT_ HW_ => ?_)
      generalize wc.drew = w15 at BK162 HB hx165_0 hx165_1 hx166_0 hx166_1 hHeld ⊢
      refine pur_ 0 23 (bs 13 1) (any_of HT_.out kR) ?_
      refine pur_ 1 24 (bs 13 3) (any_of HT_.out kR) ?_
      refine pur_ 2 25 (bs 13 7) (any_of HT_.out kR) ?_
      refine pur_ 3 26 (bs 13 15) (any_of HT_.out kR) ?_
      refine pur_ 5 28 (bs 13 47) (any_of HT_.out kR) ?_
      refine pur_ 6 29 (bs 13 111) (any_of HT_.out kR) ?_
      refine pur_ 7 30 (bs 13 239) (any_of HT_.out kR) ?_
      refine pur_ 8 31 (bs 13 495) (any_of HT_.out kR) ?_
      refine tak_ 4 27 (bs 13 511) (take_ofW HT_.out HW_.out kR) hHeld ?_
      refine tak_ 9 32 (bs 13 1023) (take_ofW HT_.out HW_.out kR) hHeld ?_
      refine pur_ 10 33 (bs 13 2047) (any_of HT_.out kR) ?_
      refine one_ (i := 11) (N := some 6) (bs 13 4095) rfl rfl (one_of HT_.out (by kernel_rfl)) (by decide) (fun K hK => ?_)
      refine box_step ?hg (N := 6) ?hd (cs := #[.int .i64 0, .int .i64 0, .slice none 0 0]) (t := 72) ?hr ?_; (case hd => rfl); (case hg => rfl); (case hr => first | (go_simp; done) | (go_simp; rfl))
      intro gb167 hg w16 hbox hb
      have n0_ := Aside0.mk (blk_below (lK BK162.out) hb)
      have n1_ := Aside0.mk (below_step lB hb)
      have n2_ := Aside0.mk (hbox)
      have n3_ := lG w hg
      have n4_ := lG w hg
      have n5_ := Aside0.mk ((by rw [hg]; exact Nat.ne_of_lt (blk_lt (lK BK162.out)) : gb162 ≠ gb167))
      have n6_ := Aside0.mk ((by rw [hg]; exact Nat.ne_of_gt (blk_lt (lK BK162.out)) : gb167 ≠ gb162))
      clear BK162
      clear HB
      have BK162 := n0_
      have HB := n1_
      have BK167 := n2_
      have GW167 := n3_
      have GE167 := n4_
      have NB162_167 := n5_
      have NB167_162 := n6_
      clear n0_ n1_ n2_ n3_ n4_ n5_ n6_
      clear hb hbox hg
      refine hK.out _ _ ⟨((HB.out.cell (World.block_lt_of_cell? w _ hw165_0)).trans hw165_0), ((HB.out.cell (World.block_lt_of_cell? w _ hw165_1)).trans hw165_1), ((HB.out.cell (World.block_lt_of_cell? w _ hw166_0)).trans hw166_0), ((HB.out.cell (World.block_lt_of_cell? w _ hw166_1)).trans hw166_1)⟩ (fun hHeld => ?_)
      clear hK K
      refine norm_ (a' := ?_) ?_ ?_
      rotate_left
      ·show Act.put _ (some 6) _ = _
       simp only [Act.put, List.setIfInBounds_toArray, List.set_cons_zero, List.set_cons_succ, i64_w, i32_w]
       rfl
      refine one_ (i := 12) (N := none) (bs 13 8191) rfl rfl (one_of HT_.out (by kernel_rfl)) (by decide) (fun K hK => ?_)
      have hs17 : w16.cell? ⟨gb167, 0, none⟩ = some (.int .i64 0) := bZ BK167.out 0
      have hfs17 := blk_frozen BK167.out 0
      have hns17_0 := NB162_167.out
      have hms17_0 := NB167_162.out
      have hs18 : w16.cell? ⟨gb167, 1, none⟩ = some (.int .i64 0) := bZ BK167.out 1
      have hfs18 := blk_frozen BK167.out 1
      have hns18_0 := NB162_167.out
      have hms18_0 := NB167_162.out
      have hs19 : w16.cell? ⟨gb167, 2, none⟩ = some (.slice none 0 0) := bZ BK167.out 2
      have hfs19 := blk_frozen BK167.out 2
      have hns19_0 := NB162_167.out
      have hms19_0 := NB167_162.out
      refine skip_ (w1 := ?_) (by rfl) rfl ?_ ?_
      rotate_left
      ·go_simp
       rfl
      refine hK.out _ _ ⟨((cell_far (p := ⟨gb167, _, none⟩) (by first | exact Nat.ne_of_lt (Nat.lt_of_lt_of_le (by have := World.block_lt_of_cell? _ _ hw165_0; first | rwa [add_block] at this | exact this) GW167.out) | (rw [add_block]; exact Nat.ne_of_lt (Nat.lt_of_lt_of_le (by have := World.block_lt_of_cell? _ _ hw165_0; first | rwa [add_block] at this | exact this) GW167.out)) | (show (Addr.add _ _).block ≠ _; rw [add_block]; exact Nat.ne_of_lt (Nat.lt_of_lt_of_le (by have := World.block_lt_of_cell? _ _ hw165_0; first | rwa [add_block] at this | exact this) GW167.out)) | (dsimp only; exact Nat.ne_of_lt (Nat.lt_of_lt_of_le (by have := World.block_lt_of_cell? _ _ hw165_0; first | rwa [add_block] at this | exact this) GW167.out))) _).trans (((cell_far (p := ⟨gb167, _, none⟩) (by first | exact Nat.ne_of_lt (Nat.lt_of_lt_of_le (by have := World.block_lt_of_cell? _ _ hw165_0; first | rwa [add_block] at this | exact this) GW167.out) | (rw [add_block]; exact Nat.ne_of_lt (Nat.lt_of_lt_of_le (by have := World.block_lt_of_cell? _ _ hw165_0; first | rwa [add_block] at this | exact this) GW167.out)) | (show (Addr.add _ _).block ≠ _; rw [add_block]; exact Nat.ne_of_lt (Nat.lt_of_lt_of_le (by have := World.block_lt_of_cell? _ _ hw165_0; first | rwa [add_block] at this | exact this) GW167.out)) | (dsimp only; exact Nat.ne_of_lt (Nat.lt_of_lt_of_le (by have := World.block_lt_of_cell? _ _ hw165_0; first | rwa [add_block] at this | exact this) GW167.out))) _).trans (((cell_far (p := ⟨gb167, _, none⟩) (by first | exact Nat.ne_of_lt (Nat.lt_of_lt_of_le (by have := World.block_lt_of_cell? _ _ hw165_0; first | rwa [add_block] at this | exact this) GW167.out) | (rw [add_block]; exact Nat.ne_of_lt (Nat.lt_of_lt_of_le (by have := World.block_lt_of_cell? _ _ hw165_0; first | rwa [add_block] at this | exact this) GW167.out)) | (show (Addr.add _ _).block ≠ _; rw [add_block]; exact Nat.ne_of_lt (Nat.lt_of_lt_of_le (by have := World.block_lt_of_cell? _ _ hw165_0; first | rwa [add_block] at this | exact this) GW167.out)) | (dsimp only; exact Nat.ne_of_lt (Nat.lt_of_lt_of_le (by have := World.block_lt_of_cell? _ _ hw165_0; first | rwa [add_block] at this | exact this) GW167.out))) _).trans (hHeld.1)))))), ((cell_far (p := ⟨gb167, _, none⟩) (by first | exact Nat.ne_of_lt (Nat.lt_of_lt_of_le (by have := World.block_lt_of_cell? _ _ hw165_1; first | rwa [add_block] at this | exact this) GW167.out) | (rw [add_block]; exact Nat.ne_of_lt (Nat.lt_of_lt_of_le (by have := World.block_lt_of_cell? _ _ hw165_1; first | rwa [add_block] at this | exact this) GW167.out)) | (show (Addr.add _ _).block ≠ _; rw [add_block]; exact Nat.ne_of_lt (Nat.lt_of_lt_of_le (by have := World.block_lt_of_cell? _ _ hw165_1; first | rwa [add_block] at this | exact this) GW167.out)) | (dsimp only; exact Nat.ne_of_lt (Nat.lt_of_lt_of_le (by have := World.block_lt_of_cell? _ _ hw165_1; first | rwa [add_block] at this | exact this) GW167.out))) _).trans (((cell_far (p := ⟨gb167, _, none⟩) (by first | exact Nat.ne_of_lt (Nat.lt_of_lt_of_le (by have := World.block_lt_of_cell? _ _ hw165_1; first | rwa [add_block] at this | exact this) GW167.out) | (rw [add_block]; exact Nat.ne_of_lt (Nat.lt_of_lt_of_le (by have := World.block_lt_of_cell? _ _ hw165_1; first | rwa [add_block] at this | exact this) GW167.out)) | (show (Addr.add _ _).block ≠ _; rw [add_block]; exact Nat.ne_of_lt (Nat.lt_of_lt_of_le (by have := World.block_lt_of_cell? _ _ hw165_1; first | rwa [add_block] at this | exact this) GW167.out)) | (dsimp only; exact Nat.ne_of_lt (Nat.lt_of_lt_of_le (by have := World.block_lt_of_cell? _ _ hw165_1; first | rwa [add_block] at this | exact this) GW167.out))) _).trans (((cell_far (p := ⟨gb167, _, none⟩) (by first | exact Nat.ne_of_lt (Nat.lt_of_lt_of_le (by have := World.block_lt_of_cell? _ _ hw165_1; first | rwa [add_block] at this | exact this) GW167.out) | (rw [add_block]; exact Nat.ne_of_lt (Nat.lt_of_lt_of_le (by have := World.block_lt_of_cell? _ _ hw165_1; first | rwa [add_block] at this | exact this) GW167.out)) | (show (Addr.add _ _).block ≠ _; rw [add_block]; exact Nat.ne_of_lt (Nat.lt_of_lt_of_le (by have := World.block_lt_of_cell? _ _ hw165_1; first | rwa [add_block] at this | exact this) GW167.out)) | (dsimp only; exact Nat.ne_of_lt (Nat.lt_of_lt_of_le (by have := World.block_lt_of_cell? _ _ hw165_1; first | rwa [add_block] at this | exact this) GW167.out))) _).trans (hHeld.2.1)))))), ((cell_far (p := ⟨gb167, _, none⟩) (by first | exact Nat.ne_of_lt (Nat.lt_of_lt_of_le (by have := World.block_lt_of_cell? _ _ hw166_0; first | rwa [add_block] at this | exact this) GW167.out) | (rw [add_block]; exact Nat.ne_of_lt (Nat.lt_of_lt_of_le (by have := World.block_lt_of_cell? _ _ hw166_0; first | rwa [add_block] at this | exact this) GW167.out)) | (show (Addr.add _ _).block ≠ _; rw [add_block]; exact Nat.ne_of_lt (Nat.lt_of_lt_of_le (by have := World.block_lt_of_cell? _ _ hw166_0; first | rwa [add_block] at this | exact this) GW167.out)) | (dsimp only; exact Nat.ne_of_lt (Nat.lt_of_lt_of_le (by have := World.block_lt_of_cell? _ _ hw166_0; first | rwa [add_block] at this | exact this) GW167.out))) _).trans (((cell_far (p := ⟨gb167, _, none⟩) (by first | exact Nat.ne_of_lt (Nat.lt_of_lt_of_le (by have := World.block_lt_of_cell? _ _ hw166_0; first | rwa [add_block] at this | exact this) GW167.out) | (rw [add_block]; exact Nat.ne_of_lt (Nat.lt_of_lt_of_le (by have := World.block_lt_of_cell? _ _ hw166_0; first | rwa [add_block] at this | exact this) GW167.out)) | (show (Addr.add _ _).block ≠ _; rw [add_block]; exact Nat.ne_of_lt (Nat.lt_of_lt_of_le (by have := World.block_lt_of_cell? _ _ hw166_0; first | rwa [add_block] at this | exact this) GW167.out)) | (dsimp only; exact Nat.ne_of_lt (Nat.lt_of_lt_of_le (by have := World.block_lt_of_cell? _ _ hw166_0; first | rwa [add_block] at this | exact this) GW167.out))) _).trans (((cell_far (p := ⟨gb167, _, none⟩) (by first | exact Nat.ne_of_lt (Nat.lt_of_lt_of_le (by have := World.block_lt_of_cell? _ _ hw166_0; first | rwa [add_block] at this | exact this) GW167.out) | (rw [add_block]; exact Nat.ne_of_lt (Nat.lt_of_lt_of_le (by have := World.block_lt_of_cell? _ _ hw166_0; first | rwa [add_block] at this | exact this) GW167.out)) | (show (Addr.add _ _).block ≠ _; rw [add_block]; exact Nat.ne_of_lt (Nat.lt_of_lt_of_le (by have := World.block_lt_of_cell? _ _ hw166_0; first | rwa [add_block] at this | exact this) GW167.out)) | (dsimp only; exact Nat.ne_of_lt (Nat.lt_of_lt_of_le (by have := World.block_lt_of_cell? _ _ hw166_0; first | rwa [add_block] at this | exact this) GW167.out))) _).trans (hHeld.2.2.1)))))), ((cell_far (p := ⟨gb167, _, none⟩) (by first | exact Nat.ne_of_lt (Nat.lt_of_lt_of_le (by have := World.block_lt_of_cell? _ _ hw166_1; first | rwa [add_block] at this | exact this) GW167.out) | (rw [add_block]; exact Nat.ne_of_lt (Nat.lt_of_lt_of_le (by have := World.block_lt_of_cell? _ _ hw166_1; first | rwa [add_block] at this | exact this) GW167.out)) | (show (Addr.add _ _).block ≠ _; rw [add_block]; exact Nat.ne_of_lt (Nat.lt_of_lt_of_le (by have := World.block_lt_of_cell? _ _ hw166_1; first | rwa [add_block] at this | exact this) GW167.out)) | (dsimp only; exact Nat.ne_of_lt (Nat.lt_of_lt_of_le (by have := World.block_lt_of_cell? _ _ hw166_1; first | rwa [add_block] at this | exact this) GW167.out))) _).trans (((cell_far (p := ⟨gb167, _, none⟩) (by first | exact Nat.ne_of_lt (Nat.lt_of_lt_of_le (by have := World.block_lt_of_cell? _ _ hw166_1; first | rwa [add_block] at this | exact this) GW167.out) | (rw [add_block]; exact Nat.ne_of_lt (Nat.lt_of_lt_of_le (by have := World.block_lt_of_cell? _ _ hw166_1; first | rwa [add_block] at this | exact this) GW167.out)) | (show (Addr.add _ _).block ≠ _; rw [add_block]; exact Nat.ne_of_lt (Nat.lt_of_lt_of_le (by have := World.block_lt_of_cell? _ _ hw166_1; first | rwa [add_block] at this | exact this) GW167.out)) | (dsimp only; exact Nat.ne_of_lt (Nat.lt_of_lt_of_le (by have := World.block_lt_of_cell? _ _ hw166_1; first | rwa [add_block] at this | exact this) GW167.out))) _).trans (((cell_far (p := ⟨gb167, _, none⟩) (by first | exact Nat.ne_of_lt (Nat.lt_of_lt_of_le (by have := World.block_lt_of_cell? _ _ hw166_1; first | rwa [add_block] at this | exact this) GW167.out) | (rw [add_block]; exact Nat.ne_of_lt (Nat.lt_of_lt_of_le (by have := World.block_lt_of_cell? _ _ hw166_1; first | rwa [add_block] at this | exact this) GW167.out)) | (show (Addr.add _ _).block ≠ _; rw [add_block]; exact Nat.ne_of_lt (Nat.lt_of_lt_of_le (by have := World.block_lt_of_cell? _ _ hw166_1; first | rwa [add_block] at this | exact this) GW167.out)) | (dsimp only; exact Nat.ne_of_lt (Nat.lt_of_lt_of_le (by have := World.block_lt_of_cell? _ _ hw166_1; first | rwa [add_block] at this | exact this) GW167.out))) _).trans (hHeld.2.2.2))))))⟩ (fun hHeld => ?_)
      clear hK K
      refine done_ (done_of HT_.out (by kernel_rfl)) ?_
      have hnb20 := NB167_162.out
      have hnc20 := NB162_167.out
      obtain ⟨hcz21_0, hfz21_0, hcz21_1, hfz21_1, hcz21_2, hfz21_2⟩ := bk3 BK167.out
      try go_wp2_with (first | ((with_reducible refine gate_callee (f := 93) rfl ?_); refine gl_ (some 38) (Try.func93) #[.int .i64 ((rd_T76 l0 a1).f0)] ?_; (with_reducible refine (spec_l16Arity.calls kj2 ((rd_T76 l0 a1).f0) t168 _ A14.out).mono ?_); rintro e w' ⟨rfl, ⟨nd, rfl⟩⟩; refine ⟨_, rfl, ?_⟩))
      go_loopg [1, 7] kj2 (fun kq v1 v7 w' => ∃ (x1_2 : Int) (x7_2 : Int) (x163000_2 : Int) (x163001_2 : Int) (x168002_2 : List (S72)) (u168002 : Value), v1 = .int .i64 x1_2 ∧ v7 = .int .i64 x7_2 ∧ Aside0 (spec_l16Read.l0 kq l0 x1_2 x7_2 ((rd_T76 l0 a1).f0) ((rd_T76 l0 a1).f1) x168002_2 = some (r1, r2, r3, r4)) ∧ Aside0 (kq ≤ kj2) ∧ Aside0 (Kd.R k72 72 w' w.heap.size (fun k_ => k_ ≠ gb162 ∧ k_ ≠ gb167) u168002 x168002_2) ∧ Aside0 (w'.heap[gb162]? = some (.cells #[.int .i64 x163000_2, .int .i64 x163001_2, (.slice none 0 0)] 72 (0, 0))) ∧ Aside0 (w'.heap[gb167]? = some (.cells #[.int .i64 ((rd_T76 l0 a1).f0), .int .i64 ((rd_T76 l0 a1).f1), u168002] 72 (0, 0))) ∧ Aside0 (Below w.heap.size w w'))
      case atStart => exact ⟨(wrap64 (a1 + 1)), (t168), (0), (0), (([] : List (S72))), (.slice none 0 0), lF, lF, H', ⟨Nat.le_refl _⟩, ⟨by first | exact Kd.R_nil _ _ _ _ _ | exact Kd.N_nil _ _ _ _ _ | exact Kd.V_nil _ _ _ _ _ | exact Kd.Q_nil _ _ _ _ _ | exact Kd.S_nil _ _ _ _ _⟩, ⟨lJ BK162.out⟩, ⟨by (with_reducible repeat first | apply bN | apply bD | apply bA); refine blk_put (cs := #[.int .i64 ((rd_T76 l0 a1).f0), .int .i64 ((rd_T76 l0 a1).f1), .slice none 0 0]) ?_ 2 _ rfl; (with_reducible repeat first | apply bN | apply bD | apply bA); refine blk_put (cs := #[.int .i64 ((rd_T76 l0 a1).f0), .int .i64 0, .slice none 0 0]) ?_ 1 _ rfl; (with_reducible repeat first | apply bN | apply bD | apply bA); refine blk_put (cs := #[.int .i64 0, .int .i64 0, .slice none 0 0]) ?_ 0 _ rfl; (with_reducible repeat first | apply bN | apply bD | apply bA); exact BK167.out⟩, ⟨lB⟩⟩
      case round =>
       clear H'
       try clear c1
       try clear p1
       try clear q1
       try clear hx1
       try clear c2
       try clear p2
       try clear c5
       try clear c5b0
       try clear c6
       try clear c6b0
       try clear p6
       try clear c7
       try clear c7b0
       try clear c9
       try clear c10
       try clear c12
       try clear c12b0
       try clear c13
       try clear c13b0
       try clear p16
       try clear q16
       try clear hx16
       try clear c20
       try clear hcz11_0 hcz11_1 hcz11_2
       try clear hcz21_0 hcz21_1 hcz21_2
       try clear hfz11_0 hfz11_1 hfz11_2
       try clear hfz21_0 hfz21_1 hfz21_2
       try clear hx163_0
       try clear hx163_1
       try clear hx165_0
       try clear hx165_1
       try clear hx166_0
       try clear hx166_1
       try clear p1
       try clear p163
       try clear p165
       try clear p166
       try clear p2
       try clear q1
       try clear q163
       try clear q165
       try clear q166
       obtain ⟨x1_2, x7_2, x163000_2, x163001_2, x168002_2, u168002, rfl, rfl, HA, HK2, HO_168002, BK162, BK167, HB⟩ := hrel
       cases gk with
       | zero => exact absurd HA.out (by simp [spec_l16Read.l0])
       | succ k2 =>
        have H := HA.out
        clear HA
        simp only [spec_l16Read.l0] at H
        by_cases c22 : x7_2 > 0
        ·rw [if_pos c22] at H
         have c22b0 : decide (0 < x7_2) = true := decide_eq_true c22
         clear c22
         replace H := Option.bind_eq_some_iff.mp H
         obtain ⟨⟨t169, t170, t171, t174⟩, A230, H⟩ := H
         replace H : (if t174 = 0 then (some (0, 0, ([] : List (S72)), 0)) else (if x168002_2.length < 3518437208883 then (spec_l16Read.l0 k2 l0 t174 (wrap64 (x7_2 - 1)) ((rd_T76 l0 a1).f0) ((rd_T76 l0 a1).f1) (x168002_2 ++ [(⟨t169, t170, t171⟩ : S72)])) else (none))) = some (r1, r2, r3, r4) := H
         have A23 := Aside0.mk A230
         clear A230
         by_cases c24 : t174 = 0
         ·rw [if_pos c24] at H
          have c24b0 : (t174 == 0) = true := beq_iff_eq.mpr c24
          have c24b1 : (t174 != 0) = false := bne_eq_false_iff_eq.mpr c24
          clear c24
          simp only [Option.some.injEq, Prod.mk.injEq] at H
          obtain ⟨rfl, rfl, rfl, rfl⟩ := H
          go_wp2_with (first | ((with_reducible refine gate_callee (f := 75) rfl ?_); refine gl_ (some 46) (Try.func75) #[.slice (some ad165) l0.length c0, .int .i64 x1_2] ?_; (with_reducible refine (ih k2 (by have := HJ2.out; have := HK2.out; omega) _ _ l0 x1_2 t169 t170 t171 t174 _ ?side1 ?side2 A23.out).mono ?_); (case side1 => exact lC (Kd.C_below HR0.out HB.out)); (case side2 => exact HC0.out); rintro e w25 ⟨v172, rfl, ho0, hb⟩; refine ⟨_, rfl, ?_⟩; have n0_ := Aside0.mk (Kd.R_elder' (lR HO_168002.out) (Kd.R_base ho0) hb); have n1_ := Aside0.mk (Kd.R_lower (Kd.R_newB (Kd.R_newB (Kd.R_new' ho0 (Kd.R_lt (lR HO_168002.out))) (lK BK162.out)) (lK BK167.out)) (below_size lB)); have n2_ := Aside0.mk (blk_below (lK BK162.out) hb); have n3_ := Aside0.mk (blk_below (lK BK167.out) hb); have n4_ := Aside0.mk (below_step lB hb); clear HO_168002; clear BK162; clear BK167; clear HB; have HO_168002 := n0_; have HO173 := n1_; have BK162 := n2_; have BK167 := n3_; have HB := n4_; clear n0_ n1_ n2_ n3_ n4_; (try clear hb); (try clear hb2); (try clear hk); (try clear hi); (try clear ho0)) | ((with_reducible refine gate_dst (N := 8) rfl ?_); refine bxe 8 #[.int .i64 0, .int .i64 0, .slice none 0 0] 72 ?_; intro gb175 hg w26 hbox hb; have n0_ := Aside0.mk (Kd.R_below (Kd.R_elderB (lR HO_168002.out) gb175 (Nat.le_of_eq hg.symm)) hb); have n1_ := Aside0.mk (Kd.R_below (Kd.R_elderB (lR HO173.out) gb175 (Nat.le_of_eq hg.symm)) hb); have n2_ := Aside0.mk (blk_below (lK BK162.out) hb); have n3_ := Aside0.mk (blk_below (lK BK167.out) hb); have n4_ := Aside0.mk (below_step lB hb); have n5_ := Aside0.mk (hbox); have n6_ := lG w hg; have n7_ := lG w hg; have n8_ := Aside0.mk ((by rw [hg]; exact Nat.ne_of_lt (blk_lt (lK BK162.out)) : gb162 ≠ gb175)); have n9_ := Aside0.mk ((by rw [hg]; exact Nat.ne_of_gt (blk_lt (lK BK162.out)) : gb175 ≠ gb162)); have n10_ := Aside0.mk ((by rw [hg]; exact Nat.ne_of_lt (blk_lt (lK BK167.out)) : gb167 ≠ gb175)); have n11_ := Aside0.mk ((by rw [hg]; exact Nat.ne_of_gt (blk_lt (lK BK167.out)) : gb175 ≠ gb167)); clear HO_168002; clear HO173; clear BK162; clear BK167; clear HB; have HO_168002 := n0_; have HO173 := n1_; have BK162 := n2_; have BK167 := n3_; have HB := n4_; have BK175 := n5_; have GW175 := n6_; have GE175 := n7_; have NB162_175 := n8_; have NB175_162 := n9_; have NB167_175 := n10_; have NB175_167 := n11_; clear n0_ n1_ n2_ n3_ n4_ n5_ n6_ n7_ n8_ n9_ n10_ n11_; clear hb hbox hg; have hnb27 := NB175_162.out; have hnc27 := NB162_175.out; have hnb28 := NB175_167.out; have hnc28 := NB167_175.out; obtain ⟨hcz29_0, hfz29_0, hcz29_1, hfz29_1, hcz29_2, hfz29_2⟩ := bk3 BK175.out; obtain ⟨Ao30, co30, eo30⟩ := Kd.R_slice HO173.out; subst eo30; have hnb31 := NB162_167.out; have hnc31 := NB167_162.out; obtain ⟨hcz32_0, hfz32_0, hcz32_1, hfz32_1, hcz32_2, hfz32_2⟩ := bk3 BK162.out))
          refine bodyPost_ret (results_ct rfl _ _ gb162 72 #[.int .i64 0, .int .i64 0, .slice none 0 0] (0, 0) _ rfl (by (with_reducible repeat first | apply bN | apply bD | apply bA); refine blk_put (cs := #[.int .i64 0, .int .i64 0, .slice none 0 0]) ?_ 2 _ rfl; (with_reducible repeat first | apply bN | apply bD | apply bA); refine blk_put (cs := #[.int .i64 0, .int .i64 x163001_2, .slice none 0 0]) ?_ 1 _ rfl; (with_reducible repeat first | apply bN | apply bD | apply bA); refine blk_put (cs := #[.int .i64 x163000_2, .int .i64 x163001_2, .slice none 0 0]) ?_ 0 _ rfl; (with_reducible repeat first | apply bN | apply bD | apply bA); refine blk_far ?_ NB162_175.out _; (with_reducible repeat first | apply bN | apply bD | apply bA); refine blk_far ?_ NB162_175.out _; (with_reducible repeat first | apply bN | apply bD | apply bA); refine blk_far ?_ NB162_175.out _; (with_reducible repeat first | apply bN | apply bD | apply bA); exact BK162.out) Try.underlying72 rfl (by kernel_rfl)) rfl ?_
          exact ⟨_, lE, by first | exact Kd.R_nil _ _ _ _ _ | exact Kd.N_nil _ _ _ _ _ | exact Kd.V_nil _ _ _ _ _ | exact Kd.Q_nil _ _ _ _ _ | exact Kd.S_nil _ _ _ _ _, lB⟩
         ·rw [if_neg c24] at H
          have c24b0 : (t174 == 0) = false := beq_eq_false_iff_ne.mpr c24
          have c24b1 : (t174 != 0) = true := bne_iff_ne.mpr c24
          by_cases c33 : x168002_2.length < 3518437208883
          ·rw [if_pos c33] at H
           have LMc33 := Aside0.mk c33
           clear c33
           obtain ⟨y176, hy176⟩ : ∃ y_ : List (S72), y_ = (x168002_2 ++ [(⟨t169, t170, t171⟩ : S72)]) := ⟨_, rfl⟩
           replace H : (spec_l16Read.l0 k2 l0 t174 (wrap64 (x7_2 - 1)) ((rd_T76 l0 a1).f0) ((rd_T76 l0 a1).f1) y176) = some (r1, r2, r3, r4) := by first | (rw [hy176]; with_reducible exact H) | (have H2_ := (Option.bind_some _ _).symm.trans H; rw [hy176]; with_reducible exact H2_) | (have H2_ := (Option.bind_some _ _).symm.trans H; with_reducible exact H2_) | with_reducible exact H | (rw [hy176]; exact H) | exact H
           have Ny176 := Aside0.mk hy176
           clear hy176
           have H' := Aside0.mk H
           clear H
           go_wp2_with (first | ((with_reducible refine gate_callee (f := 75) rfl ?_); refine gl_ (some 46) (Try.func75) #[.slice (some ad165) l0.length c0, .int .i64 x1_2] ?_; (with_reducible refine (ih k2 (by have := HJ2.out; have := HK2.out; omega) _ _ l0 x1_2 t169 t170 t171 t174 _ ?side1 ?side2 A23.out).mono ?_); (case side1 => exact lC (Kd.C_below HR0.out HB.out)); (case side2 => exact HC0.out); rintro e w34 ⟨v172, rfl, ho0, hb⟩; refine ⟨_, rfl, ?_⟩; have n0_ := Aside0.mk (Kd.R_elder' (lR HO_168002.out) (Kd.R_base ho0) hb); have n1_ := Aside0.mk (Kd.R_lower (Kd.R_newB (Kd.R_newB (Kd.R_new' ho0 (Kd.R_lt (lR HO_168002.out))) (lK BK162.out)) (lK BK167.out)) (below_size lB)); have n2_ := Aside0.mk (blk_below (lK BK162.out) hb); have n3_ := Aside0.mk (blk_below (lK BK167.out) hb); have n4_ := Aside0.mk (below_step lB hb); clear HO_168002; clear BK162; clear BK167; clear HB; have HO_168002 := n0_; have HO173 := n1_; have BK162 := n2_; have BK167 := n3_; have HB := n4_; clear n0_ n1_ n2_ n3_ n4_; (try clear hb); (try clear hb2); (try clear hk); (try clear hi); (try clear ho0)) | ((with_reducible refine gate_dst (N := 8) rfl ?_); refine bxe 8 #[.int .i64 0, .int .i64 0, .slice none 0 0] 72 ?_; intro gb175 hg w35 hbox hb; have n0_ := Aside0.mk (Kd.R_below (Kd.R_elderB (lR HO_168002.out) gb175 (Nat.le_of_eq hg.symm)) hb); have n1_ := Aside0.mk (Kd.R_below (Kd.R_elderB (lR HO173.out) gb175 (Nat.le_of_eq hg.symm)) hb); have n2_ := Aside0.mk (blk_below (lK BK162.out) hb); have n3_ := Aside0.mk (blk_below (lK BK167.out) hb); have n4_ := Aside0.mk (below_step lB hb); have n5_ := Aside0.mk (hbox); have n6_ := lG w hg; have n7_ := lG w hg; have n8_ := Aside0.mk ((by rw [hg]; exact Nat.ne_of_lt (blk_lt (lK BK162.out)) : gb162 ≠ gb175)); have n9_ := Aside0.mk ((by rw [hg]; exact Nat.ne_of_gt (blk_lt (lK BK162.out)) : gb175 ≠ gb162)); have n10_ := Aside0.mk ((by rw [hg]; exact Nat.ne_of_lt (blk_lt (lK BK167.out)) : gb167 ≠ gb175)); have n11_ := Aside0.mk ((by rw [hg]; exact Nat.ne_of_gt (blk_lt (lK BK167.out)) : gb175 ≠ gb167)); clear HO_168002; clear HO173; clear BK162; clear BK167; clear HB; have HO_168002 := n0_; have HO173 := n1_; have BK162 := n2_; have BK167 := n3_; have HB := n4_; have BK175 := n5_; have GW175 := n6_; have GE175 := n7_; have NB162_175 := n8_; have NB175_162 := n9_; have NB167_175 := n10_; have NB175_167 := n11_; clear n0_ n1_ n2_ n3_ n4_ n5_ n6_ n7_ n8_ n9_ n10_ n11_; clear hb hbox hg; have hnb36 := NB175_162.out; have hnc36 := NB162_175.out; have hnb37 := NB175_167.out; have hnc37 := NB167_175.out; obtain ⟨hcz38_0, hfz38_0, hcz38_1, hfz38_1, hcz38_2, hfz38_2⟩ := bk3 BK175.out; obtain ⟨Ao39, co39, eo39⟩ := Kd.R_slice HO173.out; subst eo39) | ((with_reducible refine gate_store (t := 72) (p := 8) rfl ?_); refine store_event (t := 72) (p := 8) (v := ?vo_w40) (w1 := (((w35.setCell ⟨gb175, 0, none⟩ (.int .i64 t169)).setCell ⟨gb175, 1, none⟩ (.int .i64 t170)).setCell ⟨gb175, 2, none⟩ (.slice Ao39 t171.length co39))) ?hg ?ho ?hn ?hr ?_; (case ho => rfl); (case hg => rfl); (case hn => rfl); (case hr => first | (go_simp; done) | (go_simp; rfl)); intro w40 hw; have n0_ : Aside0 (Kd.R k72 72 w40 w.heap.size (fun k_ => some k_ ≠ (.slice Ao39 t171.length co39 : Value).ownBlock ∧ k_ ≠ gb162 ∧ k_ ≠ gb167 ∧ k_ ≠ gb175) u168002 x168002_2) := ⟨(by rw [hw]; exact (by (with_reducible repeat (first | apply Kd.R_alloc | apply Kd.R_drewN | apply Kd.R_drew)); exact Kd.R_mono (Kd.R_far (p := ⟨gb175, 2, none⟩) (Kd.R_far (p := ⟨gb175, 1, none⟩) (Kd.R_far (p := ⟨gb175, 0, none⟩) (Kd.R_mono HO_168002.out (fun k_ hk => (⟨hk, hk.2⟩ : _ ∧ k_ ≠ gb175))) (fun _ hk => hk.2) (.int .i64 t169)) (fun _ hk => hk.2) (.int .i64 t170)) (fun _ hk => hk.2) (.slice Ao39 t171.length co39)) (fun _ hk => ⟨hk.1.1.2, ⟨hk.1.1.1.1, ⟨hk.1.1.1.2, hk.1.2⟩⟩⟩)))⟩; have n1_ : Aside0 (Kd.R k72 72 w40 w.heap.size (fun k_ => some k_ ≠ (u168002 : Value).ownBlock ∧ k_ ≠ gb162 ∧ k_ ≠ gb167 ∧ k_ ≠ gb175) (.slice Ao39 t171.length co39) t171) := ⟨(by rw [hw]; exact (by (with_reducible repeat (first | apply Kd.R_alloc | apply Kd.R_drewN | apply Kd.R_drew)); exact Kd.R_mono (Kd.R_far (p := ⟨gb175, 2, none⟩) (Kd.R_far (p := ⟨gb175, 1, none⟩) (Kd.R_far (p := ⟨gb175, 0, none⟩) (Kd.R_mono HO173.out (fun k_ hk => (⟨hk, hk.2⟩ : _ ∧ k_ ≠ gb175))) (fun _ hk => hk.2) (.int .i64 t169)) (fun _ hk => hk.2) (.int .i64 t170)) (fun _ hk => hk.2) (.slice Ao39 t171.length co39)) (fun _ hk => ⟨hk.1.1.1.1.2, ⟨hk.1.1.1.2, ⟨hk.1.1.2, hk.1.2⟩⟩⟩)))⟩; have n2_ : Aside0 (w40.heap[gb162]? = some (.cells #[.int .i64 x163000_2, .int .i64 x163001_2, .slice none 0 0] 72 (0, 0))) := ⟨(by rw [hw]; exact (lJ BK162.out))⟩; have n3_ : Aside0 (w40.heap[gb167]? = some (.cells #[.int .i64 ((rd_T76 l0 a1).f0), .int .i64 ((rd_T76 l0 a1).f1), u168002] 72 (0, 0))) := ⟨(by rw [hw]; exact (lJ BK167.out))⟩; have n4_ : Aside0 (w40.heap[gb175]? = some (.cells #[.int .i64 t169, .int .i64 t170, .slice Ao39 t171.length co39] 72 (0, 0))) := ⟨(by rw [hw]; exact (by (with_reducible repeat first | apply bN | apply bD | apply bA); refine blk_put (cs := #[.int .i64 t169, .int .i64 t170, .slice none 0 0]) ?_ 2 _ rfl; (with_reducible repeat first | apply bN | apply bD | apply bA); refine blk_put (cs := #[.int .i64 t169, .int .i64 0, .slice none 0 0]) ?_ 1 _ rfl; (with_reducible repeat first | apply bN | apply bD | apply bA); refine blk_put (cs := #[.int .i64 0, .int .i64 0, .slice none 0 0]) ?_ 0 _ rfl; (with_reducible repeat first | apply bN | apply bD | apply bA); exact BK175.out))⟩; have n5_ : Aside0 (Below w.heap.size w w40) := ⟨(by rw [hw]; exact lB)⟩; clear hw; clear HO_168002; clear HO173; clear BK162; clear BK167; clear BK175; clear HB; have HO_168002 := n0_; have HO173 := n1_; have BK162 := n2_; have BK167 := n3_; have BK175 := n4_; have HB := n5_; clear n0_ n1_ n2_ n3_ n4_ n5_; have hnb41 := NB167_162.out; have hnc41 := NB162_167.out; obtain ⟨hcz42_0, hfz42_0, hcz42_1, hfz42_1, hcz42_2, hfz42_2⟩ := bk3 BK167.out; obtain ⟨hcz43_0, hfz43_0, hcz43_1, hfz43_1, hcz43_2, hfz43_2⟩ := bk3 BK175.out) | ((with_reducible refine gate_builtin (b := .append) (xs := #[.tmp 53, .tmp 55]) rfl ?_); at_builtin; refine Kd.R_append k72 (w0 := w) w.heap.size rfl (.tmp 53) (.tmp 55) 70 72 (.agg #[(.int .i64 0), (.int .i64 0), (.slice none 0 0)]) 40 rfl Try.underlying70 info72 rfl (by decide) (by omega) u168002 x168002_2 (⟨t169, t170, t171⟩ : S72) [.int .i64 t169, .int .i64 t170, .slice Ao39 t171.length co39] (fun k_ => k_ ≠ gb162 ∧ k_ ≠ gb167 ∧ k_ ≠ gb175) (fun k_ => ((fun k_ => k_ ≠ gb162 ∧ k_ ≠ gb167 ∧ k_ ≠ gb175)) k_ ∧ some k_ ≠ (u168002 : Value).ownBlock) rfl rfl ?aP (fun _ hk => hk) ?aF ?aO ?aB ?aS ?aL ?_; (case aP => exact k72_mkM _ _ _ (⟨t169, t170, t171⟩ : S72) (Kd.R_mono (HO173.out) (fun k_ hk => ⟨⟨hk.2.1, ⟨hk.2.2.1, hk.2.2.2⟩⟩, hk.1⟩))); (case aB => exact lB); (case aF => exact (fun k_ hk => ⟨Kd.freshB (lK BK162.out) k_ hk, Kd.freshB (lK BK167.out) k_ hk, Kd.freshB (lK BK175.out) k_ hk⟩)); (case aO => exact (by (with_reducible repeat (first | apply Kd.R_alloc | apply Kd.R_drewN | apply Kd.R_drew)); exact Kd.R_mono HO_168002.out (fun _ hk => ⟨hk.2.1, ⟨hk.2.2.1, hk.2.2.2⟩⟩))); (case aS => exact (below_size lB)); (case aL => have := LMc33.out; omega); intro v177 w44 ho hb hg hat; rw [← Ny176.out] at ho; have n0_ := Aside0.mk (blk_grown (lK BK162.out) hg (Kd.R_away HO_168002.out (fun _ hk => hk.2.1))); have n1_ := Aside0.mk (blk_grown (lK BK167.out) hg (Kd.R_away HO_168002.out (fun _ hk => hk.2.2.1))); have n2_ := Aside0.mk (blk_grown (lK BK175.out) hg (Kd.R_away HO_168002.out (fun _ hk => hk.2.2.2))); have n3_ := Aside0.mk (hb); have n4_ := Aside0.mk (ho); clear BK162; clear BK167; clear BK175; clear HB; clear HO_168002; clear HO173; have BK162 := n0_; have BK167 := n1_; have BK175 := n2_; have HB := n3_; have HO178 := n4_; clear n0_ n1_ n2_ n3_ n4_; clear ho hb hg hat; obtain ⟨Ao45, co45, eo45⟩ := Kd.R_slice HO178.out; subst eo45; obtain ⟨hcz46_0, hfz46_0, hcz46_1, hfz46_1, hcz46_2, hfz46_2⟩ := bk3 BK167.out))
           go_roundg k2
           case measure => have := HJ2.out; have := HK2.out; omega
           case rel => exact ⟨(t174), (wrap64 (x7_2 - 1)), (x163000_2), (x163001_2), (y176), (.slice Ao45 y176.length co45), lF, lF, H', ⟨by have := HJ2.out; have := HK2.out; omega⟩, ⟨by (with_reducible repeat (first | apply Kd.R_alloc | apply Kd.R_drewN | apply Kd.R_drew)); exact Kd.R_mono (Kd.R_far (p := ⟨gb167, 2, none⟩) (Kd.R_mono HO178.out (fun k_ hk => (⟨hk, hk.2.1⟩ : _ ∧ k_ ≠ gb167))) (fun _ hk => hk.2) (.slice Ao45 y176.length co45)) (fun _ hk => ⟨hk.1.1, hk.1.2.1⟩)⟩, ⟨lJ BK162.out⟩, ⟨by (with_reducible repeat first | apply bN | apply bD | apply bA); refine blk_put (cs := #[.int .i64 ((rd_T76 l0 a1).f0), .int .i64 ((rd_T76 l0 a1).f1), u168002]) ?_ 2 _ rfl; (with_reducible repeat first | apply bN | apply bD | apply bA); exact BK167.out⟩, ⟨lB⟩⟩
          ·rw [if_neg c33] at H
           exact absurd H (by simp)
        ·rw [if_neg c22] at H
         have c22b0 : decide (0 < x7_2) = false := decide_eq_false c22
         clear c22
         simp only [Option.some.injEq, Prod.mk.injEq] at H
         obtain ⟨rfl, rfl, rfl, rfl⟩ := H
         have hnb47 := NB167_162.out
         have hnc47 := NB162_167.out
         obtain ⟨hcz48_0, hfz48_0, hcz48_1, hfz48_1, hcz48_2, hfz48_2⟩ := bk3 BK167.out
         obtain ⟨hcz49_0, hfz49_0, hcz49_1, hfz49_1, hcz49_2, hfz49_2⟩ := bk3 BK162.out
         obtain ⟨Ao50, co50, eo50⟩ := Kd.R_slice HO_168002.out
         subst eo50
         go_wp2
         refine bodyPost_ret (results_ct rfl _ _ gb162 72 #[.int .i64 ((rd_T76 l0 a1).f0), .int .i64 ((rd_T76 l0 a1).f1), .slice Ao50 x168002_2.length co50] (0, 0) _ rfl (by (with_reducible repeat first | apply bN | apply bD | apply bA); refine blk_put (cs := #[.int .i64 ((rd_T76 l0 a1).f0), .int .i64 ((rd_T76 l0 a1).f1), .slice none 0 0]) ?_ 2 _ rfl; (with_reducible repeat first | apply bN | apply bD | apply bA); refine blk_put (cs := #[.int .i64 ((rd_T76 l0 a1).f0), .int .i64 x163001_2, .slice none 0 0]) ?_ 1 _ rfl; (with_reducible repeat first | apply bN | apply bD | apply bA); refine blk_put (cs := #[.int .i64 x163000_2, .int .i64 x163001_2, .slice none 0 0]) ?_ 0 _ rfl; (with_reducible repeat first | apply bN | apply bD | apply bA); exact BK162.out) Try.underlying72 rfl (by kernel_rfl)) rfl ?_
         exact ⟨_, lE, by (with_reducible repeat (first | apply Kd.R_alloc | apply Kd.R_drewN | apply Kd.R_drew)); exact Kd.R_mono (Kd.R_far (p := ⟨gb162, 2, none⟩) (Kd.R_far (p := ⟨gb162, 1, none⟩) (Kd.R_far (p := ⟨gb162, 0, none⟩) (Kd.R_mono HO_168002.out (fun k_ hk => (⟨hk, hk.1⟩ : _ ∧ k_ ≠ gb162))) (fun _ hk => hk.2) (.int .i64 ((rd_T76 l0 a1).f0))) (fun _ hk => hk.2) (.int .i64 ((rd_T76 l0 a1).f1))) (fun _ hk => hk.2) (.slice Ao50 x168002_2.length co50)) (fun _ hk => trivial), lB⟩
     ·rw [if_neg c13] at H
      exact absurd H (by simp)
    ·rw [if_neg c12] at H
     exact absurd H (by simp)

/-! ### spec_l16Loops: function 76 -/
mutual
def spec_l16Loops.l0 : Nat → Int → List (S72) → Int → Int → Int → Int → List (S72) → Option (Int)
 | 0, _, _, _, _, _, _, _ => none
 | k + 1, x3, x8, x9, x10, x180000, x180001, x180002 => if x10 < x9 then (if 0 ≤ x10 then (if x10 < (x8.length : Int) then ((spec_l16Loops.f k ((rd_T72 x8 x10).f0) ((rd_T72 x8 x10).f1) ((rd_T72 x8 x10).f2)).bind fun t182 => (if t182 > x3 then (spec_l16Loops.l0 k t182 x8 x9 (wrap64 (x10 + 1)) x180000 x180001 x180002) else (spec_l16Loops.l0 k x3 x8 x9 (wrap64 (x10 + 1)) x180000 x180001 x180002))) else (none)) else (none)) else (if x180000 = 6 then (some (wrap64 (x3 + 1))) else (some x3))
def spec_l16Loops.f : Nat → Int → Int → List (S72) → Option (Int)
 | 0, _, _, _ => none
 | k + 1, a0_0, a0_1, l0_2 => spec_l16Loops.l0 k 0 l0_2 (l0_2.length : Int) 0 a0_0 a0_1 l0_2
end
theorem spec_l16Loops.mono_l : ∀ k, (∀ y0 y1 y2, LeO (spec_l16Loops.f k y0 y1 y2) (spec_l16Loops.f (k + 1) y0 y1 y2)) ∧ (∀ y0 y1 y2 y3 y4 y5 y6, LeO (spec_l16Loops.l0 k y0 y1 y2 y3 y4 y5 y6) (spec_l16Loops.l0 (k + 1) y0 y1 y2 y3 y4 y5 y6))
 | 0 => ⟨fun _ _ _ r h => by simp [spec_l16Loops.f] at h, fun _ _ _ _ _ _ _ r h => by simp [spec_l16Loops.l0] at h⟩
 | k + 1 => by
  obtain ⟨ih0, ih1⟩ := spec_l16Loops.mono_l k
  refine ⟨?_, ?_⟩
  ·intro y0 y1 y2
   unfold spec_l16Loops.f
   repeat' first
   | with_reducible apply ih0
   | with_reducible apply ih1
   | (with_reducible exact LeO.refl _)
   | (with_reducible exact LeO.none _)
   | (with_reducible refine LeO.ite ?_ ?_)
   | (with_reducible refine LeO.bind ?_ (fun _ => ?_))
   | apply ih0
   | apply ih1
   | exact LeO.none _
   | refine LeO.ite ?_ ?_
   | refine LeO.bind ?_ (fun _ => ?_)
  ·intro y0 y1 y2 y3 y4 y5 y6
   unfold spec_l16Loops.l0
   repeat' first
   | with_reducible apply ih0
   | with_reducible apply ih1
   | (with_reducible exact LeO.refl _)
   | (with_reducible exact LeO.none _)
   | (with_reducible refine LeO.ite ?_ ?_)
   | (with_reducible refine LeO.bind ?_ (fun _ => ?_))
   | apply ih0
   | apply ih1
   | exact LeO.none _
   | refine LeO.ite ?_ ?_
   | refine LeO.bind ?_ (fun _ => ?_)
theorem spec_l16Loops.mono : ∀ a0 a1 a2 k, LeO (spec_l16Loops.f k a0 a1 a2) (spec_l16Loops.f (k + 1) a0 a1 a2) := by
 intro a0 a1 a2 k
 obtain ⟨ih0, ih1⟩ := spec_l16Loops.mono_l k
 exact ih0 a0 a1 a2
set_option maxHeartbeats 8000000 in
set_option maxRecDepth 100000 in
theorem spec_l16Loops.calls (k : Nat) : ∀ (a0_0 : Int) (a0_1 : Int) (A0_2 : Option Addr) (c0_2 : Nat) (l0_2 : List (S72)) (r : Int) (w : World) (hr0_2 : Kd.C k72 w A0_2 l0_2.length l0_2) (hc0_2 : l0_2.length ≤ c0_2) (h : spec_l16Loops.f k a0_0 a0_1 l0_2 = some r),
  Calls Try.prog 76 #[.agg #[.int .i64 a0_0, .int .i64 a0_1, .slice A0_2 l0_2.length c0_2]] w fun e w' => e = .returned (.int .i64 r) ∧ Below w.heap.size w w' := by
 induction k using Nat.strongRecOn with
 | _ k ih =>
 intro a0_0 a0_1 A0_2 c0_2 l0_2 r w hr0_2 hc0_2 h
 cases k with
 | zero => exact absurd h (by simp [spec_l16Loops.f])
 | succ k =>
 simp only [spec_l16Loops.f] at h
 have hu72 := Try.underlying72
 have HR0_2 := Aside0.mk hr0_2
 have HC0_2 := Aside0.mk hc0_2
 clear hr0_2 hc0_2
 have HB := Aside0.mk (Below.refl w.heap.size w)
 have H : (spec_l16Loops.l0 k 0 l0_2 (l0_2.length : Int) 0 a0_0 a0_1 l0_2) = some r := h
 clear h
 have H' := Aside0.mk H
 clear H
 go_enter Try.func76, Try.ntmps76
 go_wp2_with (first | ((with_reducible refine gate_dst (N := 1) rfl ?_); refine bxe 1 #[.int .i64 a0_0, .int .i64 a0_1, .slice A0_2 l0_2.length c0_2] 72 ?_; intro gb179 hg w2 hbox hb; have n0_ := Aside0.mk (below_step lB hb); have n1_ := Aside0.mk (hbox); have n2_ := lG w hg; have n3_ := lG w hg; clear HB; have HB := n0_; have BK179 := n1_; have GW179 := n2_; have GE179 := n3_; clear n0_ n1_ n2_ n3_; clear hb hbox hg; obtain ⟨hcz3_0, hfz3_0, hcz3_1, hfz3_1, hcz3_2, hfz3_2⟩ := bk3 BK179.out))
 go_loopg [3, 10] k (fun kq v3 v10 w' => ∃ (x3_1 : Int) (x10_1 : Int), v3 = .int .i64 x3_1 ∧ v10 = .int .i64 x10_1 ∧ Aside0 (spec_l16Loops.l0 kq x3_1 l0_2 (l0_2.length : Int) x10_1 a0_0 a0_1 l0_2 = some r) ∧ Aside0 (kq ≤ k) ∧ Aside0 (w'.heap[gb179]? = some (.cells #[.int .i64 a0_0, .int .i64 a0_1, (.slice A0_2 l0_2.length c0_2)] 72 (0, 0))) ∧ Aside0 (Below w.heap.size w w'))
 case atStart => exact ⟨(0), (0), lF, lF, H', ⟨Nat.le_refl _⟩, ⟨lK BK179.out⟩, ⟨lB⟩⟩
 case round =>
  clear H'
  try clear p2
  try clear hcz3_0 hcz3_1 hcz3_2 hfz3_0 hfz3_1 hfz3_2
  obtain ⟨x3_1, x10_1, rfl, rfl, HA, HK1, BK179, HB⟩ := hrel
  cases gk with
  | zero => exact absurd HA.out (by simp [spec_l16Loops.l0])
  | succ k1 =>
   have H := HA.out
   clear HA
   simp only [spec_l16Loops.l0] at H
   by_cases c4 : x10_1 < (l0_2.length : Int)
   ·rw [if_pos c4] at H
    have c4b0 : decide (x10_1 < (l0_2.length : Int)) = true := decide_eq_true c4
    clear c4
    by_cases c5 : 0 ≤ x10_1
    ·rw [if_pos c5] at H
     have c5b0 : decide (0 ≤ x10_1) = true := decide_eq_true c5
     clear c5
     by_cases c6 : x10_1 < (l0_2.length : Int)
     ·rw [if_pos c6] at H
      have c6b0 : decide (x10_1 < (l0_2.length : Int)) = true := decide_eq_true c6
      clear c6
      replace H := lO H
      obtain ⟨t182, A7, H⟩ := H
      by_cases c8 : t182 > x3_1
      ·rw [if_pos c8] at H
       have c8b0 : decide (x3_1 < t182) = true := decide_eq_true c8
       clear c8
       have H' := Aside0.mk H
       clear H
       have p180 : 0 ≤ (x10_1 : Int) := lD
       have q180 : x10_1 < (l0_2.length : Int) := lD
       obtain ⟨ad180, A180_2, c180_2, e180, hx180_0, hx180_1, hx180_2, hl180_2, hi180_2⟩ := at_T72 HR0_2.out x10_1 p180 q180
       cases e180
       replace hx180_0 := pw_cell_below HB.out hx180_0
       replace hx180_1 := pw_cell_below HB.out hx180_1
       replace hx180_2 := pw_cell_below HB.out hx180_2
       have HR180_2 := Aside0.mk hi180_2
       have HC180_2 := Aside0.mk hl180_2
       clear hi180_2 hl180_2
       replace p180 := eq_true p180
       replace q180 := eq_true q180
       go_wp2_with (first | ((with_reducible refine gate_dst (N := 5) rfl ?_); refine bxe 5 #[.int .i64 0, .int .i64 0, .slice none 0 0] 72 ?_; intro gb181 hg w9 hbox hb; have n0_ := Aside0.mk (blk_below (lK BK179.out) hb); have n1_ := Aside0.mk (below_step lB hb); have n2_ := Aside0.mk (hbox); have n3_ := lG w hg; have n4_ := lG w hg; have n5_ := Aside0.mk ((by rw [hg]; exact Nat.ne_of_lt (blk_lt (lK BK179.out)) : gb179 ≠ gb181)); have n6_ := Aside0.mk ((by rw [hg]; exact Nat.ne_of_gt (blk_lt (lK BK179.out)) : gb181 ≠ gb179)); clear BK179; clear HB; have BK179 := n0_; have HB := n1_; have BK181 := n2_; have GW181 := n3_; have GE181 := n4_; have NB179_181 := n5_; have NB181_179 := n6_; clear n0_ n1_ n2_ n3_ n4_ n5_ n6_; clear hb hbox hg; have hnb10 := NB181_179.out; have hnc10 := NB179_181.out; obtain ⟨hcz11_0, hfz11_0, hcz11_1, hfz11_1, hcz11_2, hfz11_2⟩ := bk3 BK181.out) | ((with_reducible refine gate_callee (f := 76) rfl ?_); refine gl_ (some 15) (Try.func76) #[.agg #[.int .i64 ((rd_T72 l0_2 x10_1).f0), .int .i64 ((rd_T72 l0_2 x10_1).f1), .slice A180_2 ((rd_T72 l0_2 x10_1).f2).length c180_2]] ?_; (with_reducible refine (ih k1 (by have := HK1.out; omega) ((rd_T72 l0_2 x10_1).f0) ((rd_T72 l0_2 x10_1).f1) _ _ ((rd_T72 l0_2 x10_1).f2) t182 _ ?side1 ?side2 A7.out).mono ?_); (case side1 => exact Kd.C_below HR180_2.out lB); (case side2 => exact HC180_2.out); rintro e w12 ⟨rfl, hb⟩; refine ⟨_, rfl, ?_⟩; have n0_ := Aside0.mk (blk_below (lJ BK179.out) hb); have n1_ := Aside0.mk (blk_below (g := gb181) (o := .cells #[.int .i64 ((rd_T72 l0_2 x10_1).f0), .int .i64 ((rd_T72 l0_2 x10_1).f1), .slice A180_2 ((rd_T72 l0_2 x10_1).f2).length c180_2] 72 (0, 0)) (by (with_reducible repeat first | apply bN | apply bD | apply bA); refine blk_put (cs := #[.int .i64 ((rd_T72 l0_2 x10_1).f0), .int .i64 ((rd_T72 l0_2 x10_1).f1), .slice none 0 0]) ?_ 2 _ rfl; (with_reducible repeat first | apply bN | apply bD | apply bA); refine blk_put (cs := #[.int .i64 ((rd_T72 l0_2 x10_1).f0), .int .i64 0, .slice none 0 0]) ?_ 1 _ rfl; (with_reducible repeat first | apply bN | apply bD | apply bA); refine blk_put (cs := #[.int .i64 0, .int .i64 0, .slice none 0 0]) ?_ 0 _ rfl; (with_reducible repeat first | apply bN | apply bD | apply bA); exact BK181.out) hb); have n2_ := Aside0.mk (below_step lB hb); clear BK179; clear BK181; clear HB; have BK179 := n0_; have BK181 := n1_; have HB := n2_; clear n0_ n1_ n2_; (try clear hb); (try clear hb2); (try clear hk); (try clear hi)))
       go_roundg k1
       case measure => have := HK1.out; omega
       case rel => exact ⟨(t182), (wrap64 (x10_1 + 1)), lF, lF, H', ⟨by have := HK1.out; omega⟩, ⟨lK BK179.out⟩, ⟨lB⟩⟩
      ·rw [if_neg c8] at H
       have c8b0 : decide (x3_1 < t182) = false := decide_eq_false c8
       clear c8
       have H' := Aside0.mk H
       clear H
       have p180 : 0 ≤ (x10_1 : Int) := lD
       have q180 : x10_1 < (l0_2.length : Int) := lD
       obtain ⟨ad180, A180_2, c180_2, e180, hx180_0, hx180_1, hx180_2, hl180_2, hi180_2⟩ := at_T72 HR0_2.out x10_1 p180 q180
       cases e180
       replace hx180_0 := pw_cell_below HB.out hx180_0
       replace hx180_1 := pw_cell_below HB.out hx180_1
       replace hx180_2 := pw_cell_below HB.out hx180_2
       have HR180_2 := Aside0.mk hi180_2
       have HC180_2 := Aside0.mk hl180_2
       clear hi180_2 hl180_2
       replace p180 := eq_true p180
       replace q180 := eq_true q180
       go_wp2_with (first | ((with_reducible refine gate_dst (N := 5) rfl ?_); refine bxe 5 #[.int .i64 0, .int .i64 0, .slice none 0 0] 72 ?_; intro gb181 hg w13 hbox hb; have n0_ := Aside0.mk (blk_below (lK BK179.out) hb); have n1_ := Aside0.mk (below_step lB hb); have n2_ := Aside0.mk (hbox); have n3_ := lG w hg; have n4_ := lG w hg; have n5_ := Aside0.mk ((by rw [hg]; exact Nat.ne_of_lt (blk_lt (lK BK179.out)) : gb179 ≠ gb181)); have n6_ := Aside0.mk ((by rw [hg]; exact Nat.ne_of_gt (blk_lt (lK BK179.out)) : gb181 ≠ gb179)); clear BK179; clear HB; have BK179 := n0_; have HB := n1_; have BK181 := n2_; have GW181 := n3_; have GE181 := n4_; have NB179_181 := n5_; have NB181_179 := n6_; clear n0_ n1_ n2_ n3_ n4_ n5_ n6_; clear hb hbox hg; have hnb14 := NB181_179.out; have hnc14 := NB179_181.out; obtain ⟨hcz15_0, hfz15_0, hcz15_1, hfz15_1, hcz15_2, hfz15_2⟩ := bk3 BK181.out) | ((with_reducible refine gate_callee (f := 76) rfl ?_); refine gl_ (some 15) (Try.func76) #[.agg #[.int .i64 ((rd_T72 l0_2 x10_1).f0), .int .i64 ((rd_T72 l0_2 x10_1).f1), .slice A180_2 ((rd_T72 l0_2 x10_1).f2).length c180_2]] ?_; (with_reducible refine (ih k1 (by have := HK1.out; omega) ((rd_T72 l0_2 x10_1).f0) ((rd_T72 l0_2 x10_1).f1) _ _ ((rd_T72 l0_2 x10_1).f2) t182 _ ?side1 ?side2 A7.out).mono ?_); (case side1 => exact Kd.C_below HR180_2.out lB); (case side2 => exact HC180_2.out); rintro e w16 ⟨rfl, hb⟩; refine ⟨_, rfl, ?_⟩; have n0_ := Aside0.mk (blk_below (lJ BK179.out) hb); have n1_ := Aside0.mk (blk_below (g := gb181) (o := .cells #[.int .i64 ((rd_T72 l0_2 x10_1).f0), .int .i64 ((rd_T72 l0_2 x10_1).f1), .slice A180_2 ((rd_T72 l0_2 x10_1).f2).length c180_2] 72 (0, 0)) (by (with_reducible repeat first | apply bN | apply bD | apply bA); refine blk_put (cs := #[.int .i64 ((rd_T72 l0_2 x10_1).f0), .int .i64 ((rd_T72 l0_2 x10_1).f1), .slice none 0 0]) ?_ 2 _ rfl; (with_reducible repeat first | apply bN | apply bD | apply bA); refine blk_put (cs := #[.int .i64 ((rd_T72 l0_2 x10_1).f0), .int .i64 0, .slice none 0 0]) ?_ 1 _ rfl; (with_reducible repeat first | apply bN | apply bD | apply bA); refine blk_put (cs := #[.int .i64 0, .int .i64 0, .slice none 0 0]) ?_ 0 _ rfl; (with_reducible repeat first | apply bN | apply bD | apply bA); exact BK181.out) hb); have n2_ := Aside0.mk (below_step lB hb); clear BK179; clear BK181; clear HB; have BK179 := n0_; have BK181 := n1_; have HB := n2_; clear n0_ n1_ n2_; (try clear hb); (try clear hb2); (try clear hk); (try clear hi)))
       go_roundg k1
       case measure => have := HK1.out; omega
       case rel => exact ⟨(x3_1), (wrap64 (x10_1 + 1)), lF, lF, H', ⟨by have := HK1.out; omega⟩, ⟨lK BK179.out⟩, ⟨lB⟩⟩
     ·rw [if_neg c6] at H
      exact absurd H (by simp)
    ·rw [if_neg c5] at H
     exact absurd H (by simp)
   ·rw [if_neg c4] at H
    have c4b0 : decide (x10_1 < (l0_2.length : Int)) = false := decide_eq_false c4
    clear c4
    by_cases c17 : a0_0 = 6
    ·rw [if_pos c17] at H
     have c17b0 : (a0_0 == 6) = true := beq_iff_eq.mpr c17
     have c17b1 : (a0_0 != 6) = false := bne_eq_false_iff_eq.mpr c17
     clear c17
     obtain rfl := Option.some.inj H
     obtain ⟨hcz18_0, hfz18_0, hcz18_1, hfz18_1, hcz18_2, hfz18_2⟩ := bk3 BK179.out
     first | (go_wp2; go_ret; exact ⟨lE, lB⟩) | (exfalso; simp only [decide_eq_false_iff_not, decide_eq_true_eq] at *; omega)
    ·rw [if_neg c17] at H
     have c17b0 : (a0_0 == 6) = false := beq_eq_false_iff_ne.mpr c17
     have c17b1 : (a0_0 != 6) = true := bne_iff_ne.mpr c17
     obtain rfl := Option.some.inj H
     obtain ⟨hcz19_0, hfz19_0, hcz19_1, hfz19_1, hcz19_2, hfz19_2⟩ := bk3 BK179.out
     first | (go_wp2; go_ret; exact ⟨lE, lB⟩) | (exfalso; simp only [decide_eq_false_iff_not, decide_eq_true_eq] at *; omega)

/-! ### spec_l16Tree: function 44 -/
def spec_l16Tree.f (k : Nat) (l0 : List (S76)) : Option (Int × Int × (List (S72)) × Bool) := if (l0.length : Int) > 30 then (some (0, 0, ([] : List (S72)), false)) else ((spec_l16Read.f k l0 0).bind fun bt184 => (if bt184.2.2.2 > 0 then (if bt184.2.2.2 = (l0.length : Int) then ((spec_l16Loops.f k bt184.1 bt184.2.1 bt184.2.2.1).bind fun t191 => (some (bt184.1, bt184.2.1, bt184.2.2.1, decide (t191 ≤ 3)))) else (some (bt184.1, bt184.2.1, bt184.2.2.1, false))) else (some (bt184.1, bt184.2.1, bt184.2.2.1, false))))
theorem spec_l16Tree.mono : ∀ a0 k, LeO (spec_l16Tree.f k a0) (spec_l16Tree.f (k + 1) a0) := by
 intro a0 k
 unfold spec_l16Tree.f
 repeat' first
   | with_reducible apply spec_l16Loops.mono
   | with_reducible apply spec_l16Read.mono
   | (with_reducible exact LeO.refl _)
   | (with_reducible exact LeO.none _)
   | (with_reducible refine LeO.ite ?_ ?_)
   | (with_reducible refine LeO.bind ?_ (fun _ => ?_))
   | apply spec_l16Loops.mono
   | apply spec_l16Read.mono
   | exact LeO.none _
   | refine LeO.ite ?_ ?_
   | refine LeO.bind ?_ (fun _ => ?_)
def spec_l16Tree.T4 : Bool × List (List Nat × List Nat) := (true, [([], []), ([], []), ([1], [1]), ([2], [2]), ([3], [3]), ([3], [3]), ([5, 3], [3, 5]), ([4, 6, 3], [3, 4, 6]), ([3, 7], [3, 7]), ([8, 3], [8]), ([9], [9]), ([10, 9, 9], [9, 10]), ([11, 9], [9, 11]), ([9, 12], [9, 12]), ([0, 11, 0], [0]), ([13, 14, 0, 1, 2, 3, 4, 5, 6, 7, 8, 9, 10, 11, 12, 13, 14], [13])])
def spec_l16Tree.B4 : List Nat := [0, 0, 2, 6, 14, 14, 46, 126, 254, 510, 1022, 2046, 4094, 8190, 4095, 32767]
theorem spec_l16Tree.tab4 : rtab .any (opsOf Try.f44 4) = spec_l16Tree.T4 := by kernel_rfl
theorem spec_l16Tree.bits4 : waitsOk spec_l16Tree.T4.2 spec_l16Tree.B4 = true := by kernel_rfl
set_option maxHeartbeats 8000000 in
set_option maxRecDepth 100000 in
theorem spec_l16Tree.calls (k : Nat) (A0 : Option Addr) (c0 : Nat) (l0 : List (S76)) (r1 : Int) (r2 : Int) (r3 : List (S72)) (r4 : Bool) (w : World) (hr0 : Kd.C k76 w A0 l0.length l0) (hc0 : l0.length ≤ c0) (h : spec_l16Tree.f k l0 = some (r1, r2, r3, r4)) :
  Calls Try.prog 44 #[.slice A0 l0.length c0] w fun e w' => ∃ v2_ : Value, e = .returned (.tuple #[.agg #[.int .i64 r1, .int .i64 r2, v2_], .bool r4]) ∧ Kd.R k72 72 w' w.heap.size (fun _ => True) v2_ r3 ∧ Below w.heap.size w w' := by
 have hu72 := Try.underlying72
 have HR0 := Aside0.mk hr0
 have HC0 := Aside0.mk hc0
 clear hr0 hc0
 have HB := Aside0.mk (Below.refl w.heap.size w)
 have H : (if (l0.length : Int) > 30 then (some (0, 0, ([] : List (S72)), false)) else ((spec_l16Read.f k l0 0).bind fun bt184 => (if bt184.2.2.2 > 0 then (if bt184.2.2.2 = (l0.length : Int) then ((spec_l16Loops.f k bt184.1 bt184.2.1 bt184.2.2.1).bind fun t191 => (some (bt184.1, bt184.2.1, bt184.2.2.1, decide (t191 ≤ 3)))) else (some (bt184.1, bt184.2.1, bt184.2.2.1, false))) else (some (bt184.1, bt184.2.1, bt184.2.2.1, false))))) = some (r1, r2, r3, r4) := h
 clear h
 by_cases c2 : (l0.length : Int) > 30
 ·rw [if_pos c2] at H
  have c2b0 : decide (30 < (l0.length : Int)) = true := decide_eq_true c2
  have c2b1 : decide (30 < l0.length) = true := decide_eq_true (by omega)
  clear c2
  simp only [Option.some.injEq, Prod.mk.injEq] at H
  obtain ⟨rfl, rfl, rfl, rfl⟩ := H
  go_enter Try.func44, Try.ntmps44
  go_wp2_with (first | ((with_reducible refine gate_dst (N := 2) rfl ?_); (try (refine gate_guard (by rfl) ?_; dsimp only)); refine bxe 2 #[.int .i64 0, .int .i64 0, .slice none 0 0] 72 ?_; intro gb183 hg w3 hbox hb; have n0_ := Aside0.mk (below_step lB hb); have n1_ := Aside0.mk (hbox); have n2_ := lG w hg; have n3_ := lG w hg; clear HB; have HB := n0_; have BK183 := n1_; have GW183 := n2_; have GE183 := n3_; clear n0_ n1_ n2_ n3_; clear hb hbox hg; obtain ⟨hcz4_0, hfz4_0, hcz4_1, hfz4_1, hcz4_2, hfz4_2⟩ := bk3 BK183.out))
  refine bodyPost_ret (results_ct rfl _ _ gb183 72 #[.int .i64 0, .int .i64 0, .slice none 0 0] (0, 0) _ rfl (by (with_reducible repeat first | apply bN | apply bD | apply bA); refine blk_put (cs := #[.int .i64 0, .int .i64 0, .slice none 0 0]) ?_ 2 _ rfl; (with_reducible repeat first | apply bN | apply bD | apply bA); refine blk_put (cs := #[.int .i64 0, .int .i64 0, .slice none 0 0]) ?_ 1 _ rfl; (with_reducible repeat first | apply bN | apply bD | apply bA); refine blk_put (cs := #[.int .i64 0, .int .i64 0, .slice none 0 0]) ?_ 0 _ rfl; (with_reducible repeat first | apply bN | apply bD | apply bA); exact BK183.out) Try.underlying72 rfl (by kernel_rfl)) rfl ?_
  exact ⟨_, lE, by first | exact Kd.R_nil _ _ _ _ _ | exact Kd.N_nil _ _ _ _ _ | exact Kd.V_nil _ _ _ _ _ | exact Kd.Q_nil _ _ _ _ _ | exact Kd.S_nil _ _ _ _ _, lB⟩
 ·rw [if_neg c2] at H
  have c2b0 : decide (30 < (l0.length : Int)) = false := decide_eq_false c2
  have c2b1 : decide (30 < l0.length) = false := decide_eq_false (by omega)
  clear c2
  replace H := Option.bind_eq_some_iff.mp H
  obtain ⟨⟨t184, t185, t186, t189⟩, A50, H⟩ := H
  replace H : (if t189 > 0 then (if t189 = (l0.length : Int) then ((spec_l16Loops.f k t184 t185 t186).bind fun t191 => (some (t184, t185, t186, decide (t191 ≤ 3)))) else (some (t184, t185, t186, false))) else (some (t184, t185, t186, false))) = some (r1, r2, r3, r4) := H
  have A5 := Aside0.mk A50
  clear A50
  by_cases c6 : t189 > 0
  ·rw [if_pos c6] at H
   have c6b0 : decide (0 < t189) = true := decide_eq_true c6
   clear c6
   by_cases c7 : t189 = (l0.length : Int)
   ·rw [if_pos c7] at H
    have c7b0 : (t189 == (l0.length : Int)) = true := beq_iff_eq.mpr c7
    have c7b1 : (t189 != (l0.length : Int)) = false := bne_eq_false_iff_eq.mpr c7
    clear c7
    replace H := lO H
    obtain ⟨t191, A8, H⟩ := H
    simp only [Option.some.injEq, Prod.mk.injEq] at H
    obtain ⟨rfl, rfl, rfl, rfl⟩ := H
    go_enter Try.func44, Try.ntmps44
    try go_wp2_with (first | ((with_reducible refine gate_dst (N := 2) rfl ?_); (try (refine gate_guard (by rfl) ?_; dsimp only)); refine bxe 2 #[.int .i64 0, .int .i64 0, .slice none 0 0] 72 ?_; intro gb183 hg w9 hbox hb; have n0_ := Aside0.mk (below_step lB hb); have n1_ := Aside0.mk (hbox); have n2_ := lG w hg; have n3_ := lG w hg; clear HB; have HB := n0_; have BK183 := n1_; have GW183 := n2_; have GE183 := n3_; clear n0_ n1_ n2_ n3_; clear hb hbox hg) | ((with_reducible refine gate_callee (f := 75) rfl ?_); refine gl_ (some 12) (Try.func75) #[.slice A0 l0.length c0, .int .i64 0] ?_; (with_reducible refine (spec_l16Read.calls k _ _ l0 0 t184 t185 t186 t189 _ ?side1 ?side2 A5.out).mono ?_); (case side1 => exact lC (Kd.C_below HR0.out HB.out)); (case side2 => exact HC0.out); rintro e w10 ⟨v187, rfl, ho0, hb⟩; refine ⟨_, rfl, ?_⟩; have n0_ := Aside0.mk (Kd.R_lower (Kd.R_newB ho0 (lK BK183.out)) (below_size lB)); have n1_ := Aside0.mk (blk_below (lK BK183.out) hb); have n2_ := Aside0.mk (below_step lB hb); clear BK183; clear HB; have HO188 := n0_; have BK183 := n1_; have HB := n2_; clear n0_ n1_ n2_; (try clear hb); (try clear hb2); (try clear hk); (try clear hi); (try clear ho0)) | ((with_reducible refine gate_dst (N := 4) rfl ?_); (try (refine gate_guard (by rfl) ?_; dsimp only)); refine bxe 4 #[.int .i64 0, .int .i64 0, .slice none 0 0] 72 ?_; intro gb190 hg w11 hbox hb; have n0_ := Aside0.mk (Kd.R_below (Kd.R_elderB (lR HO188.out) gb190 (Nat.le_of_eq hg.symm)) hb); have n1_ := Aside0.mk (blk_below (lK BK183.out) hb); have n2_ := Aside0.mk (below_step lB hb); have n3_ := Aside0.mk (hbox); have n4_ := lG w hg; have n5_ := lG w hg; have n6_ := Aside0.mk ((by rw [hg]; exact Nat.ne_of_lt (blk_lt (lK BK183.out)) : gb183 ≠ gb190)); have n7_ := Aside0.mk ((by rw [hg]; exact Nat.ne_of_gt (blk_lt (lK BK183.out)) : gb190 ≠ gb183)); clear HO188; clear BK183; clear HB; have HO188 := n0_; have BK183 := n1_; have HB := n2_; have BK190 := n3_; have GW190 := n4_; have GE190 := n5_; have NB183_190 := n6_; have NB190_183 := n7_; clear n0_ n1_ n2_ n3_ n4_ n5_ n6_ n7_; clear hb hbox hg; have hnb12 := NB190_183.out; have hnc12 := NB183_190.out; obtain ⟨hcz13_0, hfz13_0, hcz13_1, hfz13_1, hcz13_2, hfz13_2⟩ := bk3 BK190.out; obtain ⟨Ao14, co14, eo14⟩ := Kd.R_slice HO188.out; subst eo14))
    have n0_ : Aside0 (Kd.R k72 72 (((w11.setCell ⟨gb190, 0, none⟩ (.int .i64 t184)).setCell ⟨gb190, 1, none⟩ (.int .i64 t185)).setCell ⟨gb190, 2, none⟩ (.slice Ao14 t186.length co14)) w.heap.size (fun k_ => k_ ≠ gb183 ∧ k_ ≠ gb190) (.slice Ao14 t186.length co14) t186) := ⟨by (with_reducible repeat (first | apply Kd.R_alloc | apply Kd.R_drewN | apply Kd.R_drew)); exact Kd.R_mono (Kd.R_far (p := ⟨gb190, 2, none⟩) (Kd.R_far (p := ⟨gb190, 1, none⟩) (Kd.R_far (p := ⟨gb190, 0, none⟩) (Kd.R_mono HO188.out (fun k_ hk => (⟨hk, hk.2⟩ : _ ∧ k_ ≠ gb190))) (fun _ hk => hk.2) (.int .i64 t184)) (fun _ hk => hk.2) (.int .i64 t185)) (fun _ hk => hk.2) (.slice Ao14 t186.length co14)) (fun _ hk => ⟨hk.1.1.2, hk.1.2⟩)⟩
    have n1_ : Aside0 ((((w11.setCell ⟨gb190, 0, none⟩ (.int .i64 t184)).setCell ⟨gb190, 1, none⟩ (.int .i64 t185)).setCell ⟨gb190, 2, none⟩ (.slice Ao14 t186.length co14)).heap[gb183]? = some (.cells #[.int .i64 0, .int .i64 0, .slice none 0 0] 72 (0, 0))) := ⟨lJ BK183.out⟩
    have n2_ : Aside0 ((((w11.setCell ⟨gb190, 0, none⟩ (.int .i64 t184)).setCell ⟨gb190, 1, none⟩ (.int .i64 t185)).setCell ⟨gb190, 2, none⟩ (.slice Ao14 t186.length co14)).heap[gb190]? = some (.cells #[.int .i64 t184, .int .i64 t185, .slice Ao14 t186.length co14] 72 (0, 0))) := ⟨by (with_reducible repeat first | apply bN | apply bD | apply bA); refine blk_put (cs := #[.int .i64 t184, .int .i64 t185, .slice none 0 0]) ?_ 2 _ rfl; (with_reducible repeat first | apply bN | apply bD | apply bA); refine blk_put (cs := #[.int .i64 t184, .int .i64 0, .slice none 0 0]) ?_ 1 _ rfl; (with_reducible repeat first | apply bN | apply bD | apply bA); refine blk_put (cs := #[.int .i64 0, .int .i64 0, .slice none 0 0]) ?_ 0 _ rfl; (with_reducible repeat first | apply bN | apply bD | apply bA); exact BK190.out⟩
    have n3_ : Aside0 (Below w.heap.size w (((w11.setCell ⟨gb190, 0, none⟩ (.int .i64 t184)).setCell ⟨gb190, 1, none⟩ (.int .i64 t185)).setCell ⟨gb190, 2, none⟩ (.slice Ao14 t186.length co14))) := ⟨lB⟩
    (try clear HO188)
    (try clear BK183)
    (try clear BK190)
    (try clear HB)
    generalize (((w11.setCell ⟨gb190, 0, none⟩ (.int .i64 t184)).setCell ⟨gb190, 1, none⟩ (.int .i64 t185)).setCell ⟨gb190, 2, none⟩ (.slice Ao14 t186.length co14)) = w15 at n0_ n1_ n2_ n3_ ⊢
    have HO188 := n0_
    have BK183 := n1_
    have BK190 := n2_
    have HB := n3_
    clear n0_ n1_ n2_ n3_
    have n0_ := Aside0.mk (Kd.R_drew HO188.out)
    have n1_ := Aside0.mk (blk_drew BK183.out)
    have n2_ := Aside0.mk (blk_drew BK190.out)
    have n3_ := Aside0.mk (below_drew1 HB.out)
    clear HO188
    clear BK183
    clear BK190
    clear HB
    have HO188 := n0_
    have BK183 := n1_
    have BK190 := n2_
    have HB := n3_
    clear n0_ n1_ n2_ n3_
    refine start_ (n := 16) (S := fun w' => w'.cell? ⟨gb190, 0, none⟩ = some (.int .i64 t184) ∧ w'.cell? ⟨gb190, 1, none⟩ = some (.int .i64 t185) ∧ w'.cell? ⟨gb190, 2, none⟩ = some (.slice Ao14 t186.length co14)) (ds := []) (bs 16 0) kR rfl kR ⟨bZ BK190.out 0, bZ BK190.out 1, bZ BK190.out 2⟩ (fun hHeld => ?_); refine with_tabW spec_l16Tree.tab4 spec_l16Tree.bits4 (fun HT_ HW_ => ?_)
    generalize w15.drew = w16 at HO188 BK183 BK190 HB hHeld ⊢
    refine pur_ 1 16 (bs 16 2) (any_of HT_.out kR) ?_
    refine pur_ 2 17 (bs 16 6) (any_of HT_.out kR) ?_
    refine pur_ 3 18 (bs 16 14) (any_of HT_.out kR) ?_
    refine pur_ 4 19 (bs 16 30) (any_of HT_.out kR) ?_
    refine pur_ 5 20 (bs 16 62) (any_of HT_.out kR) ?_
    refine pur_ 6 21 (bs 16 126) (any_of HT_.out kR) ?_
    refine pur_ 7 22 (bs 16 254) (any_of HT_.out kR) ?_
    refine pur_ 8 23 (bs 16 510) (any_of HT_.out kR) ?_
    refine pur_ 9 24 (bs 16 1022) (any_of HT_.out kR) ?_
    refine tak_ 0 15 (bs 16 1023) (take_ofW HT_.out HW_.out kR) hHeld ?_
    refine tak_ 10 25 (bs 16 2047) (take_ofW HT_.out HW_.out kR) hHeld ?_
    refine one_ (i := 11) (N := some 26) (bs 16 4095) rfl rfl (one_of HT_.out (by kernel_rfl)) (by decide) (fun K hK => ?_)
    refine goes_ Try.func76 (by kernel_rfl) rfl #[.agg #[.int .i64 t184, .int .i64 t185, .slice Ao14 t186.length co14]] (by rfl) rfl rfl (by (try simp only [List.map_toArray, List.map_cons, List.map_nil]); first | done | rfl | (simp only [List.length_drop, List.length_take]; rfl)) ?_
    with_reducible refine (spec_l16Loops.calls k t184 t185 _ _ t186 t191 _ ?side1 ?side2 A8.out).mono ?_
    (case side1 => repeat (first | exact (Kd.R_reads' HO188.out).2.2 | (with_reducible refine Kd.C_alloc ?_ _) | (with_reducible refine Kd.C_drewN ?_ _) | (with_reducible refine Kd.C_drew ?_)))
    (case side2 => exact (Kd.R_reads' HO188.out).2.1)
    rintro e w17 ⟨rfl, hb⟩
    refine ⟨_, rfl, ?_⟩
    have n0_ := Aside0.mk (Kd.R_below (lR HO188.out) hb)
    have n1_ := Aside0.mk (blk_below (lK BK183.out) hb)
    have n2_ := Aside0.mk (blk_below (lK BK190.out) hb)
    have n3_ := Aside0.mk (below_step lB hb)
    clear HO188
    clear BK183
    clear BK190
    clear HB
    have HO188 := n0_
    have BK183 := n1_
    have BK190 := n2_
    have HB := n3_
    clear n0_ n1_ n2_ n3_
    (try clear hb)
    (try clear hb2)
    (try clear hk)
    (try clear hi)
    refine hK.out _ _ ⟨bZ BK190.out 0, bZ BK190.out 1, bZ BK190.out 2⟩ (fun hHeld => ?_)
    clear hK K
    refine norm_ (a' := ?_) ?_ ?_
    rotate_left
    ·show Act.put _ (some 26) _ = _
     simp only [Act.put, List.setIfInBounds_toArray, List.set_cons_zero, List.set_cons_succ, i64_w, i32_w]
     rfl
    refine pur_ 12 27 (bs 16 8191) (any_of HT_.out kR) ?_
    refine pur_ 13 28 (bs 16 16383) (any_of HT_.out kR) ?_
    refine one_ (i := 14) (N := none) (bs 16 32767) rfl rfl (one_of HT_.out (by kernel_rfl)) (by decide) (fun K hK => ?_)
    have hs18 : w17.cell? ⟨gb183, 0, none⟩ = some (.int .i64 0) := bZ BK183.out 0
    have hfs18 := blk_frozen BK183.out 0
    have hns18_1 := NB190_183.out
    have hms18_1 := NB183_190.out
    have hs19 : w17.cell? ⟨gb183, 1, none⟩ = some (.int .i64 0) := bZ BK183.out 1
    have hfs19 := blk_frozen BK183.out 1
    have hns19_1 := NB190_183.out
    have hms19_1 := NB183_190.out
    have hs20 : w17.cell? ⟨gb183, 2, none⟩ = some (.slice none 0 0) := bZ BK183.out 2
    have hfs20 := blk_frozen BK183.out 2
    have hns20_1 := NB190_183.out
    have hms20_1 := NB183_190.out
    refine skip_ (w1 := ?_) (by rfl) rfl ?_ ?_
    rotate_left
    ·go_simp
     rfl
    refine hK.out _ _ ⟨((cell_far (p := ⟨gb183, _, none⟩) NB190_183.out _).trans (((cell_far (p := ⟨gb183, _, none⟩) NB190_183.out _).trans (((cell_far (p := ⟨gb183, _, none⟩) NB190_183.out _).trans (hHeld.1)))))), ((cell_far (p := ⟨gb183, _, none⟩) NB190_183.out _).trans (((cell_far (p := ⟨gb183, _, none⟩) NB190_183.out _).trans (((cell_far (p := ⟨gb183, _, none⟩) NB190_183.out _).trans (hHeld.2.1)))))), ((cell_far (p := ⟨gb183, _, none⟩) NB190_183.out _).trans (((cell_far (p := ⟨gb183, _, none⟩) NB190_183.out _).trans (((cell_far (p := ⟨gb183, _, none⟩) NB190_183.out _).trans (hHeld.2.2))))))⟩ (fun hHeld => ?_)
    clear hK K
    refine pur_ 15 3 (bs 16 65535) (any_of HT_.out kR) ?_
    refine done_ (done_of HT_.out (by kernel_rfl)) ?_
    try go_wp2
    refine bodyPost_ret (results_ct rfl _ _ gb183 72 #[.int .i64 t184, .int .i64 t185, .slice Ao14 t186.length co14] (0, 0) _ rfl (by (with_reducible repeat first | apply bN | apply bD | apply bA); refine blk_put (cs := #[.int .i64 t184, .int .i64 t185, .slice none 0 0]) ?_ 2 _ rfl; (with_reducible repeat first | apply bN | apply bD | apply bA); refine blk_put (cs := #[.int .i64 t184, .int .i64 0, .slice none 0 0]) ?_ 1 _ rfl; (with_reducible repeat first | apply bN | apply bD | apply bA); refine blk_put (cs := #[.int .i64 0, .int .i64 0, .slice none 0 0]) ?_ 0 _ rfl; (with_reducible repeat first | apply bN | apply bD | apply bA); exact BK183.out) Try.underlying72 rfl (by kernel_rfl)) rfl ?_
    exact ⟨_, lE, by (with_reducible repeat (first | apply Kd.R_alloc | apply Kd.R_drewN | apply Kd.R_drew)); exact Kd.R_mono (Kd.R_far (p := ⟨gb183, 2, none⟩) (Kd.R_far (p := ⟨gb183, 1, none⟩) (Kd.R_far (p := ⟨gb183, 0, none⟩) (Kd.R_mono HO188.out (fun k_ hk => (⟨hk, hk.1⟩ : _ ∧ k_ ≠ gb183))) (fun _ hk => hk.2) (.int .i64 t184)) (fun _ hk => hk.2) (.int .i64 t185)) (fun _ hk => hk.2) (.slice Ao14 t186.length co14)) (fun _ hk => trivial), lB⟩
   ·rw [if_neg c7] at H
    have c7b0 : (t189 == (l0.length : Int)) = false := beq_eq_false_iff_ne.mpr c7
    have c7b1 : (t189 != (l0.length : Int)) = true := bne_iff_ne.mpr c7
    simp only [Option.some.injEq, Prod.mk.injEq] at H
    obtain ⟨rfl, rfl, rfl, rfl⟩ := H
    go_enter Try.func44, Try.ntmps44
    try go_wp2_with (first | ((with_reducible refine gate_dst (N := 2) rfl ?_); (try (refine gate_guard (by rfl) ?_; dsimp only)); refine bxe 2 #[.int .i64 0, .int .i64 0, .slice none 0 0] 72 ?_; intro gb183 hg w21 hbox hb; have n0_ := Aside0.mk (below_step lB hb); have n1_ := Aside0.mk (hbox); have n2_ := lG w hg; have n3_ := lG w hg; clear HB; have HB := n0_; have BK183 := n1_; have GW183 := n2_; have GE183 := n3_; clear n0_ n1_ n2_ n3_; clear hb hbox hg) | ((with_reducible refine gate_callee (f := 75) rfl ?_); refine gl_ (some 12) (Try.func75) #[.slice A0 l0.length c0, .int .i64 0] ?_; (with_reducible refine (spec_l16Read.calls k _ _ l0 0 t184 t185 t186 t189 _ ?side1 ?side2 A5.out).mono ?_); (case side1 => exact lC (Kd.C_below HR0.out HB.out)); (case side2 => exact HC0.out); rintro e w22 ⟨v187, rfl, ho0, hb⟩; refine ⟨_, rfl, ?_⟩; have n0_ := Aside0.mk (Kd.R_lower (Kd.R_newB ho0 (lK BK183.out)) (below_size lB)); have n1_ := Aside0.mk (blk_below (lK BK183.out) hb); have n2_ := Aside0.mk (below_step lB hb); clear BK183; clear HB; have HO188 := n0_; have BK183 := n1_; have HB := n2_; clear n0_ n1_ n2_; (try clear hb); (try clear hb2); (try clear hk); (try clear hi); (try clear ho0)) | ((with_reducible refine gate_dst (N := 4) rfl ?_); (try (refine gate_guard (by rfl) ?_; dsimp only)); refine bxe 4 #[.int .i64 0, .int .i64 0, .slice none 0 0] 72 ?_; intro gb190 hg w23 hbox hb; have n0_ := Aside0.mk (Kd.R_below (Kd.R_elderB (lR HO188.out) gb190 (Nat.le_of_eq hg.symm)) hb); have n1_ := Aside0.mk (blk_below (lK BK183.out) hb); have n2_ := Aside0.mk (below_step lB hb); have n3_ := Aside0.mk (hbox); have n4_ := lG w hg; have n5_ := lG w hg; have n6_ := Aside0.mk ((by rw [hg]; exact Nat.ne_of_lt (blk_lt (lK BK183.out)) : gb183 ≠ gb190)); have n7_ := Aside0.mk ((by rw [hg]; exact Nat.ne_of_gt (blk_lt (lK BK183.out)) : gb190 ≠ gb183)); clear HO188; clear BK183; clear HB; have HO188 := n0_; have BK183 := n1_; have HB := n2_; have BK190 := n3_; have GW190 := n4_; have GE190 := n5_; have NB183_190 := n6_; have NB190_183 := n7_; clear n0_ n1_ n2_ n3_ n4_ n5_ n6_ n7_; clear hb hbox hg; have hnb24 := NB190_183.out; have hnc24 := NB183_190.out; obtain ⟨hcz25_0, hfz25_0, hcz25_1, hfz25_1, hcz25_2, hfz25_2⟩ := bk3 BK190.out; obtain ⟨Ao26, co26, eo26⟩ := Kd.R_slice HO188.out; subst eo26))
    have n0_ : Aside0 (Kd.R k72 72 (((w23.setCell ⟨gb190, 0, none⟩ (.int .i64 t184)).setCell ⟨gb190, 1, none⟩ (.int .i64 t185)).setCell ⟨gb190, 2, none⟩ (.slice Ao26 t186.length co26)) w.heap.size (fun k_ => k_ ≠ gb183 ∧ k_ ≠ gb190) (.slice Ao26 t186.length co26) t186) := ⟨by (with_reducible repeat (first | apply Kd.R_alloc | apply Kd.R_drewN | apply Kd.R_drew)); exact Kd.R_mono (Kd.R_far (p := ⟨gb190, 2, none⟩) (Kd.R_far (p := ⟨gb190, 1, none⟩) (Kd.R_far (p := ⟨gb190, 0, none⟩) (Kd.R_mono HO188.out (fun k_ hk => (⟨hk, hk.2⟩ : _ ∧ k_ ≠ gb190))) (fun _ hk => hk.2) (.int .i64 t184)) (fun _ hk => hk.2) (.int .i64 t185)) (fun _ hk => hk.2) (.slice Ao26 t186.length co26)) (fun _ hk => ⟨hk.1.1.2, hk.1.2⟩)⟩
    have n1_ : Aside0 ((((w23.setCell ⟨gb190, 0, none⟩ (.int .i64 t184)).setCell ⟨gb190, 1, none⟩ (.int .i64 t185)).setCell ⟨gb190, 2, none⟩ (.slice Ao26 t186.length co26)).heap[gb183]? = some (.cells #[.int .i64 0, .int .i64 0, .slice none 0 0] 72 (0, 0))) := ⟨lJ BK183.out⟩
    have n2_ : Aside0 ((((w23.setCell ⟨gb190, 0, none⟩ (.int .i64 t184)).setCell ⟨gb190, 1, none⟩ (.int .i64 t185)).setCell ⟨gb190, 2, none⟩ (.slice Ao26 t186.length co26)).heap[gb190]? = some (.cells #[.int .i64 t184, .int .i64 t185, .slice Ao26 t186.length co26] 72 (0, 0))) := ⟨by (with_reducible repeat first | apply bN | apply bD | apply bA); refine blk_put (cs := #[.int .i64 t184, .int .i64 t185, .slice none 0 0]) ?_ 2 _ rfl; (with_reducible repeat first | apply bN | apply bD | apply bA); refine blk_put (cs := #[.int .i64 t184, .int .i64 0, .slice none 0 0]) ?_ 1 _ rfl; (with_reducible repeat first | apply bN | apply bD | apply bA); refine blk_put (cs := #[.int .i64 0, .int .i64 0, .slice none 0 0]) ?_ 0 _ rfl; (with_reducible repeat first | apply bN | apply bD | apply bA); exact BK190.out⟩
    have n3_ : Aside0 (Below w.heap.size w (((w23.setCell ⟨gb190, 0, none⟩ (.int .i64 t184)).setCell ⟨gb190, 1, none⟩ (.int .i64 t185)).setCell ⟨gb190, 2, none⟩ (.slice Ao26 t186.length co26))) := ⟨lB⟩
    (try clear HO188)
    (try clear BK183)
    (try clear BK190)
    (try clear HB)
    generalize (((w23.setCell ⟨gb190, 0, none⟩ (.int .i64 t184)).setCell ⟨gb190, 1, none⟩ (.int .i64 t185)).setCell ⟨gb190, 2, none⟩ (.slice Ao26 t186.length co26)) = w27 at n0_ n1_ n2_ n3_ ⊢
    have HO188 := n0_
    have BK183 := n1_
    have BK190 := n2_
    have HB := n3_
    clear n0_ n1_ n2_ n3_
    have n0_ := Aside0.mk (Kd.R_drew HO188.out)
    have n1_ := Aside0.mk (blk_drew BK183.out)
    have n2_ := Aside0.mk (blk_drew BK190.out)
    have n3_ := Aside0.mk (below_drew1 HB.out)
    clear HO188
    clear BK183
    clear BK190
    clear HB
    have HO188 := n0_
    have BK183 := n1_
    have BK190 := n2_
    have HB := n3_
    clear n0_ n1_ n2_ n3_
    refine start_ (n := 16) (S := fun w' => w'.cell? ⟨gb190, 0, none⟩ = some (.int .i64 t184) ∧ w'.cell? ⟨gb190, 1, none⟩ = some (.int .i64 t185) ∧ w'.cell? ⟨gb190, 2, none⟩ = some (.slice Ao26 t186.length co26)) (ds := []) (bs 16 0) kR rfl kR ⟨bZ BK190.out 0, bZ BK190.out 1, bZ BK190.out 2⟩ (fun hHeld => ?_); refine with_tabW spec_l16Tree.tab4 spec_l16Tree.bits4 (fun HT_ HW_ => ?_)
    generalize w27.drew = w28 at HO188 BK183 BK190 HB hHeld ⊢
    refine pur_ 1 16 (bs 16 2) (any_of HT_.out kR) ?_
    refine pur_ 2 17 (bs 16 6) (any_of HT_.out kR) ?_
    refine pur_ 3 18 (bs 16 14) (any_of HT_.out kR) ?_
    refine pur_ 4 19 (bs 16 30) (any_of HT_.out kR) ?_
    refine pur_ 5 20 (bs 16 62) (any_of HT_.out kR) ?_
    refine pur_ 6 21 (bs 16 126) (any_of HT_.out kR) ?_
    refine pur_ 7 22 (bs 16 254) (any_of HT_.out kR) ?_
    refine pur_ 8 23 (bs 16 510) (any_of HT_.out kR) ?_
    refine pur_ 9 24 (bs 16 1022) (any_of HT_.out kR) ?_
    refine puu_ 10 25 (bs 16 2046) (any_of HT_.out kR) ?_
    refine puu_ 11 26 (bs 16 4094) (any_of HT_.out kR) ?_
    refine puu_ 12 27 (bs 16 8190) (any_of HT_.out kR) ?_
    refine pur_ 13 28 (bs 16 16382) (any_of HT_.out kR) ?_
    refine tak_ 0 15 (bs 16 16383) (take_ofW HT_.out HW_.out kR) hHeld ?_
    refine one_ (i := 14) (N := none) (bs 16 32767) rfl rfl (one_of HT_.out (by kernel_rfl)) (by decide) (fun K hK => ?_)
    have hs29 : w28.cell? ⟨gb183, 0, none⟩ = some (.int .i64 0) := bZ BK183.out 0
    have hfs29 := blk_frozen BK183.out 0
    have hns29_1 := NB190_183.out
    have hms29_1 := NB183_190.out
    have hs30 : w28.cell? ⟨gb183, 1, none⟩ = some (.int .i64 0) := bZ BK183.out 1
    have hfs30 := blk_frozen BK183.out 1
    have hns30_1 := NB190_183.out
    have hms30_1 := NB183_190.out
    have hs31 : w28.cell? ⟨gb183, 2, none⟩ = some (.slice none 0 0) := bZ BK183.out 2
    have hfs31 := blk_frozen BK183.out 2
    have hns31_1 := NB190_183.out
    have hms31_1 := NB183_190.out
    refine skip_ (w1 := ?_) (by rfl) rfl ?_ ?_
    rotate_left
    ·go_simp
     rfl
    refine hK.out _ _ ⟨((cell_far (p := ⟨gb183, _, none⟩) NB190_183.out _).trans (((cell_far (p := ⟨gb183, _, none⟩) NB190_183.out _).trans (((cell_far (p := ⟨gb183, _, none⟩) NB190_183.out _).trans (hHeld.1)))))), ((cell_far (p := ⟨gb183, _, none⟩) NB190_183.out _).trans (((cell_far (p := ⟨gb183, _, none⟩) NB190_183.out _).trans (((cell_far (p := ⟨gb183, _, none⟩) NB190_183.out _).trans (hHeld.2.1)))))), ((cell_far (p := ⟨gb183, _, none⟩) NB190_183.out _).trans (((cell_far (p := ⟨gb183, _, none⟩) NB190_183.out _).trans (((cell_far (p := ⟨gb183, _, none⟩) NB190_183.out _).trans (hHeld.2.2))))))⟩ (fun hHeld => ?_)
    clear hK K
    refine pur_ 15 3 (bs 16 65535) (any_of HT_.out kR) ?_
    refine done_ (done_of HT_.out (by kernel_rfl)) ?_
    try go_wp2
    refine bodyPost_ret (results_ct rfl _ _ gb183 72 #[.int .i64 t184, .int .i64 t185, .slice Ao26 t186.length co26] (0, 0) _ rfl (by (with_reducible repeat first | apply bN | apply bD | apply bA); refine blk_put (cs := #[.int .i64 t184, .int .i64 t185, .slice none 0 0]) ?_ 2 _ rfl; (with_reducible repeat first | apply bN | apply bD | apply bA); refine blk_put (cs := #[.int .i64 t184, .int .i64 0, .slice none 0 0]) ?_ 1 _ rfl; (with_reducible repeat first | apply bN | apply bD | apply bA); refine blk_put (cs := #[.int .i64 0, .int .i64 0, .slice none 0 0]) ?_ 0 _ rfl; (with_reducible repeat first | apply bN | apply bD | apply bA); exact BK183.out) Try.underlying72 rfl (by kernel_rfl)) rfl ?_
    exact ⟨_, lE, by (with_reducible repeat (first | apply Kd.R_alloc | apply Kd.R_drewN | apply Kd.R_drew)); exact Kd.R_mono (Kd.R_far (p := ⟨gb183, 2, none⟩) (Kd.R_far (p := ⟨gb183, 1, none⟩) (Kd.R_far (p := ⟨gb183, 0, none⟩) (Kd.R_mono HO188.out (fun k_ hk => (⟨hk, hk.1⟩ : _ ∧ k_ ≠ gb183))) (fun _ hk => hk.2) (.int .i64 t184)) (fun _ hk => hk.2) (.int .i64 t185)) (fun _ hk => hk.2) (.slice Ao26 t186.length co26)) (fun _ hk => trivial), lB⟩
  ·rw [if_neg c6] at H
   have c6b0 : decide (0 < t189) = false := decide_eq_false c6
   clear c6
   simp only [Option.some.injEq, Prod.mk.injEq] at H
   obtain ⟨rfl, rfl, rfl, rfl⟩ := H
   go_enter Try.func44, Try.ntmps44
   try go_wp2_with (first | ((with_reducible refine gate_dst (N := 2) rfl ?_); (try (refine gate_guard (by rfl) ?_; dsimp only)); refine bxe 2 #[.int .i64 0, .int .i64 0, .slice none 0 0] 72 ?_; intro gb183 hg w32 hbox hb; have n0_ := Aside0.mk (below_step lB hb); have n1_ := Aside0.mk (hbox); have n2_ := lG w hg; have n3_ := lG w hg; clear HB; have HB := n0_; have BK183 := n1_; have GW183 := n2_; have GE183 := n3_; clear n0_ n1_ n2_ n3_; clear hb hbox hg) | ((with_reducible refine gate_callee (f := 75) rfl ?_); refine gl_ (some 12) (Try.func75) #[.slice A0 l0.length c0, .int .i64 0] ?_; (with_reducible refine (spec_l16Read.calls k _ _ l0 0 t184 t185 t186 t189 _ ?side1 ?side2 A5.out).mono ?_); (case side1 => exact lC (Kd.C_below HR0.out HB.out)); (case side2 => exact HC0.out); rintro e w33 ⟨v187, rfl, ho0, hb⟩; refine ⟨_, rfl, ?_⟩; have n0_ := Aside0.mk (Kd.R_lower (Kd.R_newB ho0 (lK BK183.out)) (below_size lB)); have n1_ := Aside0.mk (blk_below (lK BK183.out) hb); have n2_ := Aside0.mk (below_step lB hb); clear BK183; clear HB; have HO188 := n0_; have BK183 := n1_; have HB := n2_; clear n0_ n1_ n2_; (try clear hb); (try clear hb2); (try clear hk); (try clear hi); (try clear ho0)) | ((with_reducible refine gate_dst (N := 4) rfl ?_); (try (refine gate_guard (by rfl) ?_; dsimp only)); refine bxe 4 #[.int .i64 0, .int .i64 0, .slice none 0 0] 72 ?_; intro gb190 hg w34 hbox hb; have n0_ := Aside0.mk (Kd.R_below (Kd.R_elderB (lR HO188.out) gb190 (Nat.le_of_eq hg.symm)) hb); have n1_ := Aside0.mk (blk_below (lK BK183.out) hb); have n2_ := Aside0.mk (below_step lB hb); have n3_ := Aside0.mk (hbox); have n4_ := lG w hg; have n5_ := lG w hg; have n6_ := Aside0.mk ((by rw [hg]; exact Nat.ne_of_lt (blk_lt (lK BK183.out)) : gb183 ≠ gb190)); have n7_ := Aside0.mk ((by rw [hg]; exact Nat.ne_of_gt (blk_lt (lK BK183.out)) : gb190 ≠ gb183)); clear HO188; clear BK183; clear HB; have HO188 := n0_; have BK183 := n1_; have HB := n2_; have BK190 := n3_; have GW190 := n4_; have GE190 := n5_; have NB183_190 := n6_; have NB190_183 := n7_; clear n0_ n1_ n2_ n3_ n4_ n5_ n6_ n7_; clear hb hbox hg; have hnb35 := NB190_183.out; have hnc35 := NB183_190.out; obtain ⟨hcz36_0, hfz36_0, hcz36_1, hfz36_1, hcz36_2, hfz36_2⟩ := bk3 BK190.out; obtain ⟨Ao37, co37, eo37⟩ := Kd.R_slice HO188.out; subst eo37))
   have n0_ : Aside0 (Kd.R k72 72 (((w34.setCell ⟨gb190, 0, none⟩ (.int .i64 t184)).setCell ⟨gb190, 1, none⟩ (.int .i64 t185)).setCell ⟨gb190, 2, none⟩ (.slice Ao37 t186.length co37)) w.heap.size (fun k_ => k_ ≠ gb183 ∧ k_ ≠ gb190) (.slice Ao37 t186.length co37) t186) := ⟨by (with_reducible repeat (first | apply Kd.R_alloc | apply Kd.R_drewN | apply Kd.R_drew)); exact Kd.R_mono (Kd.R_far (p := ⟨gb190, 2, none⟩) (Kd.R_far (p := ⟨gb190, 1, none⟩) (Kd.R_far (p := ⟨gb190, 0, none⟩) (Kd.R_mono HO188.out (fun k_ hk => (⟨hk, hk.2⟩ : _ ∧ k_ ≠ gb190))) (fun _ hk => hk.2) (.int .i64 t184)) (fun _ hk => hk.2) (.int .i64 t185)) (fun _ hk => hk.2) (.slice Ao37 t186.length co37)) (fun _ hk => ⟨hk.1.1.2, hk.1.2⟩)⟩
   have n1_ : Aside0 ((((w34.setCell ⟨gb190, 0, none⟩ (.int .i64 t184)).setCell ⟨gb190, 1, none⟩ (.int .i64 t185)).setCell ⟨gb190, 2, none⟩ (.slice Ao37 t186.length co37)).heap[gb183]? = some (.cells #[.int .i64 0, .int .i64 0, .slice none 0 0] 72 (0, 0))) := ⟨lJ BK183.out⟩
   have n2_ : Aside0 ((((w34.setCell ⟨gb190, 0, none⟩ (.int .i64 t184)).setCell ⟨gb190, 1, none⟩ (.int .i64 t185)).setCell ⟨gb190, 2, none⟩ (.slice Ao37 t186.length co37)).heap[gb190]? = some (.cells #[.int .i64 t184, .int .i64 t185, .slice Ao37 t186.length co37] 72 (0, 0))) := ⟨by (with_reducible repeat first | apply bN | apply bD | apply bA); refine blk_put (cs := #[.int .i64 t184, .int .i64 t185, .slice none 0 0]) ?_ 2 _ rfl; (with_reducible repeat first | apply bN | apply bD | apply bA); refine blk_put (cs := #[.int .i64 t184, .int .i64 0, .slice none 0 0]) ?_ 1 _ rfl; (with_reducible repeat first | apply bN | apply bD | apply bA); refine blk_put (cs := #[.int .i64 0, .int .i64 0, .slice none 0 0]) ?_ 0 _ rfl; (with_reducible repeat first | apply bN | apply bD | apply bA); exact BK190.out⟩
   have n3_ : Aside0 (Below w.heap.size w (((w34.setCell ⟨gb190, 0, none⟩ (.int .i64 t184)).setCell ⟨gb190, 1, none⟩ (.int .i64 t185)).setCell ⟨gb190, 2, none⟩ (.slice Ao37 t186.length co37))) := ⟨lB⟩
   (try clear HO188)
   (try clear BK183)
   (try clear BK190)
   (try clear HB)
   generalize (((w34.setCell ⟨gb190, 0, none⟩ (.int .i64 t184)).setCell ⟨gb190, 1, none⟩ (.int .i64 t185)).setCell ⟨gb190, 2, none⟩ (.slice Ao37 t186.length co37)) = w38 at n0_ n1_ n2_ n3_ ⊢
   have HO188 := n0_
   have BK183 := n1_
   have BK190 := n2_
   have HB := n3_
   clear n0_ n1_ n2_ n3_
   have n0_ := Aside0.mk (Kd.R_drew HO188.out)
   have n1_ := Aside0.mk (blk_drew BK183.out)
   have n2_ := Aside0.mk (blk_drew BK190.out)
   have n3_ := Aside0.mk (below_drew1 HB.out)
   clear HO188
   clear BK183
   clear BK190
   clear HB
   have HO188 := n0_
   have BK183 := n1_
   have BK190 := n2_
   have HB := n3_
   clear n0_ n1_ n2_ n3_
   refine start_ (n := 16) (S := fun w' => w'.cell? ⟨gb190, 0, none⟩ = some (.int .i64 t184) ∧ w'.cell? ⟨gb190, 1, none⟩ = some (.int .i64 t185) ∧ w'.cell? ⟨gb190, 2, none⟩ = some (.slice Ao37 t186.length co37)) (ds := []) (bs 16 0) kR rfl kR ⟨bZ BK190.out 0, bZ BK190.out 1, bZ BK190.out 2⟩ (fun hHeld => ?_); refine with_tabW spec_l16Tree.tab4 spec_l16Tree.bits4 (fun HT_ HW_ => ?_)
   generalize w38.drew = w39 at HO188 BK183 BK190 HB hHeld ⊢
   refine pur_ 1 16 (bs 16 2) (any_of HT_.out kR) ?_
   refine pur_ 2 17 (bs 16 6) (any_of HT_.out kR) ?_
   refine pur_ 3 18 (bs 16 14) (any_of HT_.out kR) ?_
   refine puu_ 4 19 (bs 16 30) (any_of HT_.out kR) ?_
   refine puu_ 5 20 (bs 16 62) (any_of HT_.out kR) ?_
   refine puu_ 6 21 (bs 16 126) (any_of HT_.out kR) ?_
   refine puu_ 7 22 (bs 16 254) (any_of HT_.out kR) ?_
   refine pur_ 8 23 (bs 16 510) (any_of HT_.out kR) ?_
   refine pur_ 9 24 (bs 16 1022) (any_of HT_.out kR) ?_
   refine puu_ 10 25 (bs 16 2046) (any_of HT_.out kR) ?_
   refine puu_ 11 26 (bs 16 4094) (any_of HT_.out kR) ?_
   refine puu_ 12 27 (bs 16 8190) (any_of HT_.out kR) ?_
   refine pur_ 13 28 (bs 16 16382) (any_of HT_.out kR) ?_
   refine tak_ 0 15 (bs 16 16383) (take_ofW HT_.out HW_.out kR) hHeld ?_
   refine one_ (i := 14) (N := none) (bs 16 32767) rfl rfl (one_of HT_.out (by kernel_rfl)) (by decide) (fun K hK => ?_)
   have hs40 : w39.cell? ⟨gb183, 0, none⟩ = some (.int .i64 0) := bZ BK183.out 0
   have hfs40 := blk_frozen BK183.out 0
   have hns40_1 := NB190_183.out
   have hms40_1 := NB183_190.out
   have hs41 : w39.cell? ⟨gb183, 1, none⟩ = some (.int .i64 0) := bZ BK183.out 1
   have hfs41 := blk_frozen BK183.out 1
   have hns41_1 := NB190_183.out
   have hms41_1 := NB183_190.out
   have hs42 : w39.cell? ⟨gb183, 2, none⟩ = some (.slice none 0 0) := bZ BK183.out 2
   have hfs42 := blk_frozen BK183.out 2
   have hns42_1 := NB190_183.out
   have hms42_1 := NB183_190.out
   refine skip_ (w1 := ?_) (by rfl) rfl ?_ ?_
   rotate_left
   ·go_simp
    rfl
   refine hK.out _ _ ⟨((cell_far (p := ⟨gb183, _, none⟩) NB190_183.out _).trans (((cell_far (p := ⟨gb183, _, none⟩) NB190_183.out _).trans (((cell_far (p := ⟨gb183, _, none⟩) NB190_183.out _).trans (hHeld.1)))))), ((cell_far (p := ⟨gb183, _, none⟩) NB190_183.out _).trans (((cell_far (p := ⟨gb183, _, none⟩) NB190_183.out _).trans (((cell_far (p := ⟨gb183, _, none⟩) NB190_183.out _).trans (hHeld.2.1)))))), ((cell_far (p := ⟨gb183, _, none⟩) NB190_183.out _).trans (((cell_far (p := ⟨gb183, _, none⟩) NB190_183.out _).trans (((cell_far (p := ⟨gb183, _, none⟩) NB190_183.out _).trans (hHeld.2.2))))))⟩ (fun hHeld => ?_)
   clear hK K
   refine pur_ 15 3 (bs 16 65535) (any_of HT_.out kR) ?_
   refine done_ (done_of HT_.out (by kernel_rfl)) ?_
   try go_wp2
   refine bodyPost_ret (results_ct rfl _ _ gb183 72 #[.int .i64 t184, .int .i64 t185, .slice Ao37 t186.length co37] (0, 0) _ rfl (by (with_reducible repeat first | apply bN | apply bD | apply bA); refine blk_put (cs := #[.int .i64 t184, .int .i64 t185, .slice none 0 0]) ?_ 2 _ rfl; (with_reducible repeat first | apply bN | apply bD | apply bA); refine blk_put (cs := #[.int .i64 t184, .int .i64 0, .slice none 0 0]) ?_ 1 _ rfl; (with_reducible repeat first | apply bN | apply bD | apply bA); refine blk_put (cs := #[.int .i64 0, .int .i64 0, .slice none 0 0]) ?_ 0 _ rfl; (with_reducible repeat first | apply bN | apply bD | apply bA); exact BK183.out) Try.underlying72 rfl (by kernel_rfl)) rfl ?_
   exact ⟨_, lE, by (with_reducible repeat (first | apply Kd.R_alloc | apply Kd.R_drewN | apply Kd.R_drew)); exact Kd.R_mono (Kd.R_far (p := ⟨gb183, 2, none⟩) (Kd.R_far (p := ⟨gb183, 1, none⟩) (Kd.R_far (p := ⟨gb183, 0, none⟩) (Kd.R_mono HO188.out (fun k_ hk => (⟨hk, hk.1⟩ : _ ∧ k_ ≠ gb183))) (fun _ hk => hk.2) (.int .i64 t184)) (fun _ hk => hk.2) (.int .i64 t185)) (fun _ hk => hk.2) (.slice Ao37 t186.length co37)) (fun _ hk => trivial), lB⟩

end Go.Proofs.Ytgjojppbichaiaa.Q
