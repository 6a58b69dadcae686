-- Written by the program wip/tools/pr.py of this claim's session, over the kit's print.py.
import Derived.Test.YtmgnnegmohmbhaaQx0
import Derived.Test.YtmgnnegmohmbhaaQx6
import Derived.Test.YtmgnnegmohmbhaaQx7
namespace Go.Proofs.Ytmgnnegmohmbhaa.Q
open Go.RowKit Go.Proofs.YtmgnnegmohmbhaaW.PrintWords Go.Proofs.YtmgnnegmohmbhaaW.PrintLast Go.Proofs.YtmgnnegmohmbhaaW.PrintMore
attribute [local go_sem] max2_int min2_int max_two min_two max_three min_three max_four min_four   -- for this text's walks alone
set_option linter.unusedVariables false
set_option linter.unusedSimpArgs false

-- NOT PRINTED: function 53 (slices_pdqsortOrdered_int)

/-! ### slices_Sort_int_int: function 49 -/
def Srt.AnInt (w : World) (e : Ending) (w' : World) : Prop := ∃ n : Int, e = .returned (.int .i64 n) ∧ w' = w
set_option maxHeartbeats 8000000 in
set_option maxRecDepth 100000 in
theorem Srt.len64 (x : Int) (w : World) (h0 : 0 ≤ x) (h1 : x < 16) : Calls Try.prog 65 #[.int .u64 x] w (Srt.AnInt w) := by
  have c1 : decide (4294967296 ≤ x) = false := decide_eq_false (by omega)
  have c2 : decide (65536 ≤ x) = false := decide_eq_false (by omega)
  have c3 : decide (256 ≤ x) = false := decide_eq_false (by omega)
  obtain ⟨n, rfl⟩ := Int.eq_ofNat_of_zero_le h0
  go_enter Try.func65, Try.ntmps65
  go_wp2
  go_ret
  exact ⟨_, rfl, rfl⟩
set_option maxHeartbeats 8000000 in
set_option maxRecDepth 100000 in
theorem Srt.len (x : Int) (w : World) (h0 : 0 ≤ x) (h1 : x < 16) : Calls Try.prog 54 #[.int .u64 x] w (Srt.AnInt w) := by
  go_enter Try.func54, Try.ntmps54
  go_wp2_with (first | (go_at_call 65; (with_reducible refine (Srt.len64 _ _ (by first | (go_simp; omega) | omega) (by first | (go_simp; omega) | omega)).mono ?_); rintro e w' ⟨n, rfl, rfl⟩))
  go_ret
  exact ⟨_, rfl, rfl⟩
set_option maxHeartbeats 8000000 in
set_option maxRecDepth 100000 in
theorem Srt.pdq (k : Nat) (P0_ : Nat → Prop) (u9000_ : Value) (l0 : List Int) (lim : Int) (r : List Int) (w0 w : World) (hB : Below w0.heap.size w0 w) (ho0 : Kd.R (Kd.int .i64) 3 w w0.heap.size P0_ u9000_ l0) (hl : l0.length ≤ 12) (h : slices_insertionSortOrdered_int.f k l0 0 l0.length = some r) :
  Calls Try.prog 53 #[u9000_, .int .i64 0, .int .i64 l0.length, .int .i64 lim] w fun e w' => e = .returned (.tuple #[]) ∧ Kd.R (Kd.int .i64) 3 w' w0.heap.size (fun k_ => (P0_ k_ ∨ w.heap.size ≤ k_)) u9000_ r ∧ Below w0.heap.size w0 w' ∧ Kept w w' (fun k_ => P0_ k_) := by
  have c0 : wrap64 ((l0.length : Int) - 0) = l0.length := by rw [Int.sub_zero]; unfold wrap64; omega
  have c1 : decide ((l0.length : Int) ≤ 12) = true := decide_eq_true (by omega)
  go_enter Try.func53, Try.ntmps53
  go_wp2
  go_loopg [1, 2, 3] 1 (fun kq v1 v2 v3 w' => kq = 1 ∧ v1 = .int .i64 0 ∧ v2 = .int .i64 l0.length ∧ v3 = .int .i64 lim ∧ w' = w)
  case atStart => exact ⟨rfl, rfl, rfl, rfl, rfl⟩
  case round =>
    obtain ⟨rfl, rfl, rfl, rfl, rfl⟩ := hrel
    go_wp2_with (first | (rw [c0]) | (go_at_call 55; (with_reducible refine (slices_insertionSortOrdered_int.calls k P0_ u9000_ l0 0 l0.length r w0 _ hB ho0 h).mono ?_); rintro e w' ⟨rfl, h1, h2, h3⟩))
    first | go_end0 | ((try simp only [Exit.inBlock, Exit.then]); refine bodyPost_ret (results_none rfl _ _ _) rfl ?_)
    exact ⟨rfl, h1, h2, h3⟩
def slices_Sort_int_int.f (k : Nat) (l0 : List Int) : Option (List Int) := if l0.length ≤ 12 then slices_insertionSortOrdered_int.f k l0 0 l0.length else none
theorem slices_Sort_int_int.mono : ∀ l0 k, LeO (slices_Sort_int_int.f k l0) (slices_Sort_int_int.f (k + 1) l0) := by
  intro l0 k
  unfold slices_Sort_int_int.f
  exact LeO.ite (slices_insertionSortOrdered_int.mono _ _ _ _) (LeO.none _)
set_option maxHeartbeats 8000000 in
set_option maxRecDepth 100000 in
theorem slices_Sort_int_int.calls0 (k : Nat) (P0_ : Nat → Prop) (u9000_ : Value) (l0 : List Int) (r : List Int) (w0 w : World) (hB : Below w0.heap.size w0 w) (ho0 : Kd.R (Kd.int .i64) 3 w w0.heap.size P0_ u9000_ l0) (hl : l0.length ≤ 12) (h : slices_insertionSortOrdered_int.f k l0 0 l0.length = some r) :
  Calls Try.prog 49 #[u9000_] w fun e w' => e = .returned (.tuple #[]) ∧ Kd.R (Kd.int .i64) 3 w' w0.heap.size (fun k_ => (P0_ k_ ∨ w.heap.size ≤ k_)) u9000_ r ∧ Below w0.heap.size w0 w' ∧ Kept w w' (fun k_ => P0_ k_) := by
  obtain ⟨A, c, rfl⟩ := Kd.R_slice ho0
  go_enter Try.func49, Try.ntmps49
  go_wp2_with (first | (go_at_call 54; (with_reducible refine (Srt.len _ _ (by first | (go_simp; omega) | omega) (by first | (go_simp; omega) | omega)).mono ?_); rintro e w' ⟨n, rfl, rfl⟩) | (go_at_call 53; (with_reducible refine (Srt.pdq k P0_ _ l0 _ r w0 _ hB ho0 hl h).mono ?_); rintro e w' ⟨rfl, h1, h2, h3⟩))
  first | go_end0 | ((try simp only [Exit.inBlock, Exit.then]); refine bodyPost_ret (results_none rfl _ _ _) rfl ?_)
  exact ⟨rfl, h1, h2, h3⟩
theorem slices_Sort_int_int.calls (k : Nat) (P0_ : Nat → Prop) (u9000_ : Value) (l0 : List Int) (r : List Int) (w0 w : World) (hB : Below w0.heap.size w0 w) (ho0 : Kd.R (Kd.int .i64) 3 w w0.heap.size P0_ u9000_ l0) (h : slices_Sort_int_int.f k l0 = some r) :
  Calls Try.prog 49 #[u9000_] w fun e w' => e = .returned (.tuple #[]) ∧ Kd.R (Kd.int .i64) 3 w' w0.heap.size (fun k_ => (P0_ k_ ∨ w.heap.size ≤ k_)) u9000_ r ∧ Below w0.heap.size w0 w' ∧ Kept w w' (fun k_ => P0_ k_) := by
  unfold slices_Sort_int_int.f at h
  split at h
  · rename_i hl
    exact slices_Sort_int_int.calls0 k P0_ u9000_ l0 r w0 w hB ho0 hl h
  · cases h


/-! ### impl_Marker_live: function 39 -/
def impl_Marker_live.l0 : Nat → List Int → List Int → List (S44) → List Int → Bool → Option (List Int)
 | 0, _, _, _, _, _ => none
 | k + 1, x3, x4, x1000, x1001, x1002 => if (x4.length : Int) > 0 then (if 0 < (x4.length : Int) then (if 1 ≤ (x4.length : Int) then ((some (x4.drop (1 : Int).toNat : List Int)).bind fun y389 => (if (rd x4 0) ≥ 0 then ((slices_Contains_int_int.f k x3 (rd x4 0)).bind fun t392 => (if t392 = true then (impl_Marker_live.l0 k x3 y389 x1000 x1001 x1002) else (if x3.length < 17592186044416 then (if 0 ≤ (rd x4 0) then (if (rd x4 0) < (x1000.length : Int) then (if y389.length + ((rd_T44 x1000 (rd x4 0)).f0).length < 17592186044416 then (impl_Marker_live.l0 k (x3 ++ [rd x4 0]) (y389 ++ ((rd_T44 x1000 (rd x4 0)).f0)) x1000 x1001 x1002) else (none)) else (none)) else (none)) else (none)))) else (impl_Marker_live.l0 k x3 y389 x1000 x1001 x1002))) else (none)) else (none)) else ((slices_Sort_int_int.f k x3).bind fun t400 => (some t400))
def impl_Marker_live.f (k : Nat) (l0_0 : List (S44)) (l0_1 : List Int) (a0_2 : Bool) : Option (List Int) := (some (([] : List Int) : List Int)).bind fun y382 => (if y382.length + l0_1.length < 17592186044416 then (impl_Marker_live.l0 k (([] : List Int)) (y382 ++ l0_1) l0_0 l0_1 a0_2) else (none))
theorem impl_Marker_live.mono_l : ∀ k, (∀ y0 y1 y2 y3 y4, LeO (impl_Marker_live.l0 k y0 y1 y2 y3 y4) (impl_Marker_live.l0 (k + 1) y0 y1 y2 y3 y4))
 | 0 => fun _ _ _ _ _ r h => by simp [impl_Marker_live.l0] at h
 | k + 1 => by
  have ih0 := impl_Marker_live.mono_l k
  ·intro y0 y1 y2 y3 y4
   unfold impl_Marker_live.l0
   repeat' first
   | with_reducible apply ih0
   | with_reducible apply slices_Contains_int_int.mono
   | with_reducible apply slices_Sort_int_int.mono
   | (with_reducible exact LeO.refl _)
   | (with_reducible exact LeO.none _)
   | (with_reducible refine LeO.ite ?_ ?_)
   | (with_reducible refine LeO.bind ?_ (fun _ => ?_))
   | apply ih0
   | apply slices_Contains_int_int.mono
   | apply slices_Sort_int_int.mono
   | exact LeO.none _
   | refine LeO.ite ?_ ?_
   | refine LeO.bind ?_ (fun _ => ?_)
theorem impl_Marker_live.mono : ∀ a0 a1 a2 k, LeO (impl_Marker_live.f k a0 a1 a2) (impl_Marker_live.f (k + 1) a0 a1 a2) := by
 intro a0 a1 a2 k
 have ih0 := impl_Marker_live.mono_l k
 unfold impl_Marker_live.f
 repeat' first
   | with_reducible apply ih0
   | with_reducible apply slices_Contains_int_int.mono
   | with_reducible apply slices_Sort_int_int.mono
   | (with_reducible exact LeO.refl _)
   | (with_reducible exact LeO.none _)
   | (with_reducible refine LeO.ite ?_ ?_)
   | (with_reducible refine LeO.bind ?_ (fun _ => ?_))
   | apply ih0
   | apply slices_Contains_int_int.mono
   | apply slices_Sort_int_int.mono
   | exact LeO.none _
   | refine LeO.ite ?_ ?_
   | refine LeO.bind ?_ (fun _ => ?_)
set_option maxHeartbeats 8000000 in
set_option maxRecDepth 100000 in
theorem impl_Marker_live.calls (k : Nat) (g0 : Nat) (A0_0 : Option Addr) (c0_0 : Nat) (l0_0 : List (S44)) (A0_1 : Option Addr) (c0_1 : Nat) (l0_1 : List Int) (a0_2 : Bool) (r : List Int) (w : World) (hb0 : w.heap[g0]? = some (.cells #[.slice A0_0 l0_0.length c0_0, .slice A0_1 l0_1.length c0_1, .bool a0_2] 25 (0, 0))) (hr0_0 : Kd.C k44 w A0_0 l0_0.length l0_0) (hc0_0 : l0_0.length ≤ c0_0) (hr0_1 : Kd.C (Kd.int .i64) w A0_1 l0_1.length l0_1) (hc0_1 : l0_1.length ≤ c0_1) (h : impl_Marker_live.f k l0_0 l0_1 a0_2 = some r) :
  Calls Try.prog 39 #[.pointer (some ⟨g0, 0, none⟩)] w fun e w' => ∃ v0_ : Value, e = .returned (v0_) ∧ Kd.R (Kd.int .i64) 3 w' w.heap.size (fun _ => True) v0_ r ∧ Below w.heap.size w w' := by
 have HR0_0 := Aside0.mk hr0_0
 have HC0_0 := Aside0.mk hc0_0
 clear hr0_0 hc0_0
 have HR0_1 := Aside0.mk hr0_1
 have HC0_1 := Aside0.mk hc0_1
 clear hr0_1 hc0_1
 have BK0 := Aside0.mk hb0
 clear hb0
 have HB := Aside0.mk (Below.refl w.heap.size w)
 have H : ((some (([] : List Int) : List Int)).bind fun y382 => (if y382.length + l0_1.length < 17592186044416 then (impl_Marker_live.l0 k (([] : List Int)) (y382 ++ l0_1) l0_0 l0_1 a0_2) else (none))) = some r := h
 clear h
 obtain ⟨y379, hy379⟩ : ∃ y_ : List Int, y_ = (([] : List Int)) := ⟨_, rfl⟩
 replace H : ((some (([] : List Int) : List Int)).bind fun y382 => (if y382.length + l0_1.length < 17592186044416 then (impl_Marker_live.l0 k y379 (y382 ++ l0_1) l0_0 l0_1 a0_2) else (none))) = some r := by first | (rw [hy379]; with_reducible exact H) | (have H2_ := (Option.bind_some _ _).symm.trans H; rw [hy379]; with_reducible exact H2_) | (have H2_ := (Option.bind_some _ _).symm.trans H; with_reducible exact H2_) | with_reducible exact H | (rw [hy379]; exact H) | exact H
 have Ny379 := Aside0.mk hy379
 clear hy379
 obtain ⟨y382, hy382⟩ : ∃ y_ : List Int, y_ = (([] : List Int)) := ⟨_, rfl⟩
 replace H : (if y382.length + l0_1.length < 17592186044416 then (impl_Marker_live.l0 k y379 (y382 ++ l0_1) l0_0 l0_1 a0_2) else (none)) = some r := by first | (rw [hy382]; with_reducible exact H) | (have H2_ := (Option.bind_some _ _).symm.trans H; rw [hy382]; with_reducible exact H2_) | (have H2_ := (Option.bind_some _ _).symm.trans H; with_reducible exact H2_) | with_reducible exact H | (rw [hy382]; exact H) | exact H
 have Ny382 := Aside0.mk hy382
 clear hy382
 by_cases c2 : y382.length + l0_1.length < 17592186044416
 ·rw [if_pos c2] at H
  have LMc2 := Aside0.mk c2
  clear c2
  obtain ⟨y385, hy385⟩ : ∃ y_ : List Int, y_ = (y382 ++ l0_1) := ⟨_, rfl⟩
  replace H : (impl_Marker_live.l0 k y379 y385 l0_0 l0_1 a0_2) = some r := by first | (rw [hy385]; with_reducible exact H) | (have H2_ := (Option.bind_some _ _).symm.trans H; rw [hy385]; with_reducible exact H2_) | (have H2_ := (Option.bind_some _ _).symm.trans H; with_reducible exact H2_) | with_reducible exact H | (rw [hy385]; exact H) | exact H
  have Ny385 := Aside0.mk hy385
  clear hy385
  have H' := Aside0.mk H
  clear H
  go_enter Try.func39, Try.ntmps39
  go_wp2_with (first | ((with_reducible refine gate_dst (N := 6) rfl ?_); refine Kd.R_lit (Kd.int .i64) _ 3 ?hg (N := 6) ?hd (xs := ([] : List Int)) (inner := []) (ok := fun _ => True) (okp := fun _ => True) ?hr ?hp (fun _ hk => hk) trivial (Below.refl _ _) (Nat.le_refl _) (by simp) ?_; (case hd => rfl); (case hg => rfl); (case hr => first | (go_simp; done) | (go_simp; rfl)); (case hp => exact (Reps.none _ _)); intro v380 w3 ho4 hb hg_ hnew_; clear hg_ hnew_; (first | rw [← Ny379.out] at ho4 | (simp only [Int.reduceToNat] at ho4; rw [← Ny379.out] at ho4)); have n0_ := Aside0.mk (Kd.R_lower ho4 (below_size lB)); have n1_ := Aside0.mk (blk_below (lK BK0.out) hb); have n2_ := Aside0.mk (below_step lB hb); clear BK0; clear HB; have HO381 := n0_; have BK0 := n1_; have HB := n2_; clear n0_ n1_ n2_; clear hb ho4) | ((with_reducible refine gate_dst (N := 7) rfl ?_); refine Kd.R_lit (Kd.int .i64) _ 3 ?hg (N := 7) ?hd (xs := ([] : List Int)) (inner := []) (ok := fun _ => True) (okp := fun _ => True) ?hr ?hp (fun _ hk => hk) trivial (Below.refl _ _) (Nat.le_refl _) (by simp) ?_; (case hd => rfl); (case hg => rfl); (case hr => first | (go_simp; done) | (go_simp; rfl)); (case hp => exact (Reps.none _ _)); intro v383 w5 ho6 hb hg_ hnew_; clear hg_ hnew_; (first | rw [← Ny382.out] at ho6 | (simp only [Int.reduceToNat] at ho6; rw [← Ny382.out] at ho6)); have n0_ := Aside0.mk (Kd.R_elder' (lR HO381.out) (Kd.R_base ho6) hb); have n1_ := Aside0.mk (Kd.R_lower (Kd.R_new' ho6 (Kd.R_lt (lR HO381.out))) (below_size lB)); have n2_ := Aside0.mk (blk_below (lK BK0.out) hb); have n3_ := Aside0.mk (below_step lB hb); clear HO381; clear BK0; clear HB; have HO381 := n0_; have HO384 := n1_; have BK0 := n2_; have HB := n3_; clear n0_ n1_ n2_ n3_; clear hb ho6; obtain ⟨hcz7_0, hfz7_0, hcz7_1, hfz7_1, hcz7_2, hfz7_2⟩ := bk3 BK0.out) | ((with_reducible refine gate_builtin (b := .append) (xs := #[.tmp 7, .tmp 11]) rfl ?_); at_builtin; refine Kd.R_append_rows (Kd.int .i64) (w0 := w) w.heap.size rfl (.tmp 7) (.tmp 11) 23 3 (.int .i64 0) 8 rfl Try.underlying23 info3 rfl (by decide) (by omega) v383 y382 l0_1 _ _ _ (fun k_ => some k_ ≠ (v380 : Value).ownBlock) (fun _ => False) rfl rfl ?aO ?aR (fun _ _ h => h) (fun _ h => h.elim) ?aF ?aB ?aS ?aL ?_; (case aR => exact lC (Kd.C_below HR0_1.out HB.out)); (case aB => exact lB); (case aF => exact (fun k_ hk => Kd.fresh' (Kd.R_lt (lR HO381.out)) k_ hk)); (case aO => exact (by (with_reducible repeat (first | apply Kd.R_alloc | apply Kd.R_drewN | apply Kd.R_drew)); exact Kd.R_mono HO384.out (fun _ hk => hk.2))); (case aS => exact (below_size lB)); (case aL => have := LMc2.out; omega); intro v386 w8 ho hb hg hat; rw [← Ny385.out] at ho; have n0_ := Aside0.mk (blk_grown (lK BK0.out) hg (Kd.R_ne HO384.out BK0.out (by decide))); have n1_ := Aside0.mk (Kd.R_after (ok := (fun _ => True)) (lR HO381.out) hg hat); have n2_ := Aside0.mk (hb); have n3_ := Aside0.mk (ho); clear BK0; clear HO381; clear HB; clear HO384; have BK0 := n0_; have HO381 := n1_; have HB := n2_; have HO387 := n3_; clear n0_ n1_ n2_ n3_; clear ho hb hg hat))
  go_loopg [3, 4] k (fun kq v3 v4 w' => ∃ (x3_1 : List Int) (x4_1 : List Int), Aside0 (impl_Marker_live.l0 kq x3_1 x4_1 l0_0 l0_1 a0_2 = some r) ∧ Aside0 (kq ≤ k) ∧ Aside0 (Kd.R (Kd.int .i64) 3 w' w.heap.size (fun k_ => some k_ ≠ (v4 : Value).ownBlock) v3 x3_1) ∧ Aside0 (Kd.Q (Kd.int .i64) 3 w' w.heap.size (fun k_ => some k_ ≠ (v3 : Value).ownBlock) v4 x4_1) ∧ Aside0 (w'.heap[g0]? = some (.cells #[(.slice A0_0 l0_0.length c0_0), (.slice A0_1 l0_1.length c0_1), .bool a0_2] 25 (0, 0))) ∧ Aside0 (Below w.heap.size w w'))
  case atStart => exact ⟨(y379), (y385), H', ⟨Nat.le_refl _⟩, ⟨by (with_reducible repeat (first | apply Kd.R_alloc | apply Kd.R_drewN | apply Kd.R_drew)); exact Kd.R_mono HO381.out (fun _ hk => hk.2)⟩, ⟨Kd.Q_of_R (lR HO387.out)⟩, ⟨lK BK0.out⟩, ⟨lB⟩⟩
  case round =>
   clear H'
   try clear c2
   try clear p2
   try clear c3
   try clear hcz7_0 hcz7_1 hcz7_2 hfz7_0 hfz7_1 hfz7_2
   obtain ⟨x3_1, x4_1, HA, HK1, HO_3, HO_4, BK0, HB⟩ := hrel
   cases gk with
   | zero => exact absurd HA.out (by simp [impl_Marker_live.l0])
   | succ k1 =>
    have H := HA.out
    clear HA
    simp only [impl_Marker_live.l0] at H
    by_cases c9 : (x4_1.length : Int) > 0
    ·rw [if_pos c9] at H
     have c9b0 : decide (0 < (x4_1.length : Int)) = true := decide_eq_true c9
     have c9b1 : decide (0 < x4_1.length) = true := decide_eq_true (by omega)
     clear c9
     by_cases c10 : 0 < (x4_1.length : Int)
     ·rw [if_pos c10] at H
      have c10b0 : decide (0 < (x4_1.length : Int)) = true := decide_eq_true c10
      have c10b1 : decide (0 < x4_1.length) = true := decide_eq_true (by omega)
      clear c10
      by_cases c11 : 1 ≤ (x4_1.length : Int)
      ·rw [if_pos c11] at H
       have c11b0 := eq_true c11
       have c11b1 : decide (1 ≤ (x4_1.length : Int)) = true := decide_eq_true c11
       clear c11
       obtain ⟨y389, hy389⟩ : ∃ y_ : List Int, y_ = (x4_1.drop (1 : Int).toNat) := ⟨_, rfl⟩
       replace H : (if (rd x4_1 0) ≥ 0 then ((slices_Contains_int_int.f k1 x3_1 (rd x4_1 0)).bind fun t392 => (if t392 = true then (impl_Marker_live.l0 k1 x3_1 y389 l0_0 l0_1 a0_2) else (if x3_1.length < 17592186044416 then (if 0 ≤ (rd x4_1 0) then (if (rd x4_1 0) < (l0_0.length : Int) then (if y389.length + ((rd_T44 l0_0 (rd x4_1 0)).f0).length < 17592186044416 then (impl_Marker_live.l0 k1 (x3_1 ++ [rd x4_1 0]) (y389 ++ ((rd_T44 l0_0 (rd x4_1 0)).f0)) l0_0 l0_1 a0_2) else (none)) else (none)) else (none)) else (none)))) else (impl_Marker_live.l0 k1 x3_1 y389 l0_0 l0_1 a0_2)) = some r := by first | (rw [hy389]; with_reducible exact H) | (have H2_ := (Option.bind_some _ _).symm.trans H; rw [hy389]; with_reducible exact H2_) | (have H2_ := (Option.bind_some _ _).symm.trans H; with_reducible exact H2_) | with_reducible exact H | (rw [hy389]; exact H) | exact H
       have Ny389 := Aside0.mk hy389
       clear hy389
       by_cases c12 : (rd x4_1 0) ≥ 0
       ·rw [if_pos c12] at H
        have c12b0 : decide (0 ≤ (rd x4_1 0)) = true := decide_eq_true c12
        clear c12
        replace H := lO H
        obtain ⟨t392, A13, H⟩ := H
        by_cases c14 : t392 = true
        ·subst c14
         rw [if_pos rfl] at H
         have H' := Aside0.mk H
         clear H
         obtain ⟨Ao15, co15, eo15, _⟩ := Kd.Q_slice HO_4.out
         subst eo15
         have p388 : 0 ≤ (0 : Int) := (by omega)
         have q388 : 0 < (x4_1.length : Int) := lD
         obtain ⟨ad388, e388, hx388_0⟩ := Kd.at_int (Kd.Q_reads' HO_4.out).2.2 0 p388 q388
         cases e388
         have qi388 : (0 < x4_1.length) = True := eq_true (by omega)
         (try rw [show ((0 : Int)).toNat = 0 from rfl] at hx388_0)
         (try rw [Addr.add_zero'] at hx388_0)
         replace p388 := eq_true p388
         replace q388 := eq_true q388
         have q16 : (1 : Int) ≤ ((x4_1.length : Int) : Int) := lD
         obtain ⟨i016, hi016, _, hsz16, _⟩ := info_parts info3
         have hcut16 := cut_from (P := Try.prog) 23 3 .i64 Try.underlying23 hi016 1 hsz16 (some ad388) x4_1.length co15 1 (by omega) q16
         have hr16 := Kd.Q_drop (k := (1 : Int).toNat) HO_4.out (by omega)
         obtain ⟨A16, hA16⟩ : ∃ A1, A1 = (if co15 = (1 : Int).toNat then (some ad388) else ((some ad388) : Option Addr).map (·.add ((1 : Int).toNat * 1))) := ⟨_, rfl⟩
         obtain ⟨c16, hc16⟩ : ∃ c1, c1 = co15 - (1 : Int).toNat := ⟨_, rfl⟩
         have hy16 : y389.length = x4_1.length - (1 : Int).toNat := (by rw [Ny389.out, List.length_drop])
         rw [← Ny389.out] at hr16
         rw [← hy16, ← hA16, ← hc16] at hcut16
         replace hr16 : Kd.Q (Kd.int .i64) 3 wr w.heap.size (fun k_ => some k_ ≠ (u3 : Value).ownBlock) (.slice A16 y389.length c16) y389 := (by rw [hA16, hc16, hy16]; exact hr16)
         have HE16 : Aside0 ((Value.slice A16 y389.length c16).ownBlock = (.slice (some ad388) x4_1.length co15 : Value).ownBlock) := ⟨by rw [hA16]; split <;> (cases ((some ad388) : Option Addr) <;> rfl)⟩
         clear hy16 hi016 hsz16 HO_4 hA16 hc16
         have HO391 := Aside0.mk hr16
         clear hr16
         replace q16 := eq_true q16
         have n_ := Aside0.mk (Kd.R_mono (ok' := fun k_ => some k_ ≠ (.slice A16 y389.length c16 : Value).ownBlock) HO_3.out (fun k_ hk => (by rw [HE16.out]; exact hk)))
         clear HO_3
         have HO_3 := n_
         clear n_
         obtain ⟨Ao17, co17, eo17⟩ := Kd.R_slice HO_3.out
         subst eo17
         go_wp2_with (first | (go_at_call 48; (with_reducible refine (slices_Contains_int_int.calls k1 _ _ x3_1 (rd x4_1 0) true _ ?side1 ?side2 A13.out).mono ?_); (case side1 => repeat (first | exact (Kd.R_reads' HO_3.out).2.2 | (with_reducible refine Kd.C_alloc ?_ _) | (with_reducible refine Kd.C_drewN ?_ _) | (with_reducible refine Kd.C_drew ?_))); (case side2 => exact (Kd.R_reads' HO_3.out).2.1); rintro e w' ⟨rfl, ⟨nd, rfl⟩⟩))
         go_roundg k1
         case measure => have := HK1.out; omega
         case rel => exact ⟨(x3_1), (y389), H', ⟨by have := HK1.out; omega⟩, ⟨lR HO_3.out⟩, ⟨by (with_reducible repeat (first | apply Kd.Q_alloc | apply Kd.Q_drewN | apply Kd.Q_drew)); exact HO391.out⟩, ⟨lK BK0.out⟩, ⟨lB⟩⟩
        ·replace c14 := Bool.eq_false_iff.mpr c14
         subst c14
         rw [if_neg (show ¬ (false = true) by decide)] at H
         by_cases c18 : x3_1.length < 17592186044416
         ·rw [if_pos c18] at H
          have LMc18 := Aside0.mk c18
          clear c18
          obtain ⟨y393, hy393⟩ : ∃ y_ : List Int, y_ = (x3_1 ++ [rd x4_1 0]) := ⟨_, rfl⟩
          replace H : (if 0 ≤ (rd x4_1 0) then (if (rd x4_1 0) < (l0_0.length : Int) then (if y389.length + ((rd_T44 l0_0 (rd x4_1 0)).f0).length < 17592186044416 then (impl_Marker_live.l0 k1 y393 (y389 ++ ((rd_T44 l0_0 (rd x4_1 0)).f0)) l0_0 l0_1 a0_2) else (none)) else (none)) else (none)) = some r := by first | (rw [hy393]; with_reducible exact H) | (have H2_ := (Option.bind_some _ _).symm.trans H; rw [hy393]; with_reducible exact H2_) | (have H2_ := (Option.bind_some _ _).symm.trans H; with_reducible exact H2_) | with_reducible exact H | (rw [hy393]; exact H) | exact H
          have Ny393 := Aside0.mk hy393
          clear hy393
          by_cases c19 : 0 ≤ (rd x4_1 0)
          ·rw [if_pos c19] at H
           have c19b0 : decide (0 ≤ (rd x4_1 0)) = true := decide_eq_true c19
           clear c19
           by_cases c20 : (rd x4_1 0) < (l0_0.length : Int)
           ·rw [if_pos c20] at H
            have c20b0 : decide ((rd x4_1 0) < (l0_0.length : Int)) = true := decide_eq_true c20
            clear c20
            by_cases c21 : y389.length + ((rd_T44 l0_0 (rd x4_1 0)).f0).length < 17592186044416
            ·rw [if_pos c21] at H
             have LMc21 := Aside0.mk c21
             clear c21
             obtain ⟨y397, hy397⟩ : ∃ y_ : List Int, y_ = (y389 ++ ((rd_T44 l0_0 (rd x4_1 0)).f0)) := ⟨_, rfl⟩
             replace H : (impl_Marker_live.l0 k1 y393 y397 l0_0 l0_1 a0_2) = some r := by first | (rw [hy397]; with_reducible exact H) | (have H2_ := (Option.bind_some _ _).symm.trans H; rw [hy397]; with_reducible exact H2_) | (have H2_ := (Option.bind_some _ _).symm.trans H; with_reducible exact H2_) | with_reducible exact H | (rw [hy397]; exact H) | exact H
             have Ny397 := Aside0.mk hy397
             clear hy397
             have H' := Aside0.mk H
             clear H
             obtain ⟨Ao22, co22, eo22, _⟩ := Kd.Q_slice HO_4.out
             subst eo22
             have p388 : 0 ≤ (0 : Int) := (by omega)
             have q388 : 0 < (x4_1.length : Int) := lD
             obtain ⟨ad388, e388, hx388_0⟩ := Kd.at_int (Kd.Q_reads' HO_4.out).2.2 0 p388 q388
             cases e388
             have qi388 : (0 < x4_1.length) = True := eq_true (by omega)
             (try rw [show ((0 : Int)).toNat = 0 from rfl] at hx388_0)
             (try rw [Addr.add_zero'] at hx388_0)
             replace p388 := eq_true p388
             replace q388 := eq_true q388
             have q23 : (1 : Int) ≤ ((x4_1.length : Int) : Int) := lD
             obtain ⟨i023, hi023, _, hsz23, _⟩ := info_parts info3
             have hcut23 := cut_from (P := Try.prog) 23 3 .i64 Try.underlying23 hi023 1 hsz23 (some ad388) x4_1.length co22 1 (by omega) q23
             have hr23 := Kd.Q_drop (k := (1 : Int).toNat) HO_4.out (by omega)
             obtain ⟨A23, hA23⟩ : ∃ A1, A1 = (if co22 = (1 : Int).toNat then (some ad388) else ((some ad388) : Option Addr).map (·.add ((1 : Int).toNat * 1))) := ⟨_, rfl⟩
             obtain ⟨c23, hc23⟩ : ∃ c1, c1 = co22 - (1 : Int).toNat := ⟨_, rfl⟩
             have hy23 : y389.length = x4_1.length - (1 : Int).toNat := (by rw [Ny389.out, List.length_drop])
             rw [← Ny389.out] at hr23
             rw [← hy23, ← hA23, ← hc23] at hcut23
             replace hr23 : Kd.Q (Kd.int .i64) 3 wr w.heap.size (fun k_ => some k_ ≠ (u3 : Value).ownBlock) (.slice A23 y389.length c23) y389 := (by rw [hA23, hc23, hy23]; exact hr23)
             have HE23 : Aside0 ((Value.slice A23 y389.length c23).ownBlock = (.slice (some ad388) x4_1.length co22 : Value).ownBlock) := ⟨by rw [hA23]; split <;> (cases ((some ad388) : Option Addr) <;> rfl)⟩
             clear hy23 hi023 hsz23 HO_4 hA23 hc23
             have HO391 := Aside0.mk hr23
             clear hr23
             replace q23 := eq_true q23
             have n_ := Aside0.mk (Kd.R_mono (ok' := fun k_ => some k_ ≠ (.slice A23 y389.length c23 : Value).ownBlock) HO_3.out (fun k_ hk => (by rw [HE23.out]; exact hk)))
             clear HO_3
             have HO_3 := n_
             clear n_
             obtain ⟨Ao24, co24, eo24⟩ := Kd.R_slice HO_3.out
             subst eo24
             go_wp2_with (first | (go_at_call 48; (with_reducible refine (slices_Contains_int_int.calls k1 _ _ x3_1 (rd x4_1 0) false _ ?side1 ?side2 A13.out).mono ?_); (case side1 => repeat (first | exact (Kd.R_reads' HO_3.out).2.2 | (with_reducible refine Kd.C_alloc ?_ _) | (with_reducible refine Kd.C_drewN ?_ _) | (with_reducible refine Kd.C_drew ?_))); (case side2 => exact (Kd.R_reads' HO_3.out).2.1); rintro e w' ⟨rfl, ⟨nd, rfl⟩⟩) | ((with_reducible refine gate_builtin (b := .append) (xs := #[.tmp 29, .tmp 31]) rfl ?_); at_builtin; refine Kd.R_append (Kd.int .i64) (w0 := w) w.heap.size rfl (.tmp 29) (.tmp 31) 23 3 (.int .i64 0) 8 rfl Try.underlying23 info3 rfl (by decide) (by omega) (.slice Ao24 x3_1.length co24) x3_1 (rd x4_1 0) [.int .i64 (rd x4_1 0)] (fun k_ => some k_ ≠ (.slice A23 y389.length c23 : Value).ownBlock) (fun _ => False) rfl rfl ?aP (fun _ hk => hk.elim) ?aF ?aO ?aB ?aS ?aL ?_; (case aP => exact rfl); (case aB => exact lB); (case aF => exact (fun k_ hk => Kd.fresh' (Kd.Q_lt (by (with_reducible repeat (first | apply Kd.Q_alloc | apply Kd.Q_drewN | apply Kd.Q_drew)); exact HO391.out)) k_ hk)); (case aO => exact (lR HO_3.out)); (case aS => exact (below_size lB)); (case aL => have := LMc18.out; omega); intro v394 w25 ho hb hg hat; rw [← Ny393.out] at ho; have n0_ := Aside0.mk (Kd.Q_after (ok := (fun _ => True)) (by (with_reducible repeat (first | apply Kd.Q_alloc | apply Kd.Q_drewN | apply Kd.Q_drew)); exact Kd.Q_mono HO391.out (fun _ hk => ⟨trivial, hk⟩)) hg hat); have n1_ := Aside0.mk (blk_grown (lK BK0.out) hg (Kd.R_ne HO_3.out BK0.out (by decide))); have n2_ := Aside0.mk (hb); have n3_ := Aside0.mk (ho); clear HO391; clear BK0; clear HB; clear HO_3; have HO391 := n0_; have BK0 := n1_; have HB := n2_; have HO395 := n3_; clear n0_ n1_ n2_ n3_; clear ho hb hg hat; obtain ⟨hcz26_0, hfz26_0, hcz26_1, hfz26_1, hcz26_2, hfz26_2⟩ := bk3 BK0.out; have p396 : 0 ≤ ((rd x4_1 0) : Int) := lD; have q396 : (rd x4_1 0) < (l0_0.length : Int) := lD; obtain ⟨ad396, A396_0, c396_0, e396, hx396_0, hx396_1, hx396_2, hl396_0, hi396_0⟩ := at_T44 HR0_0.out (rd x4_1 0) p396 q396; cases e396; replace hx396_0 := pw_cell_below HB.out hx396_0; replace hx396_1 := pw_cell_below HB.out hx396_1; replace hx396_2 := pw_cell_below HB.out hx396_2; have HR396_0 := Aside0.mk hi396_0; have HC396_0 := Aside0.mk hl396_0; clear hi396_0 hl396_0; replace p396 := eq_true p396; replace q396 := eq_true q396) | ((with_reducible refine gate_builtin (b := .append) (xs := #[.tmp 33, .tmp 41]) rfl ?_); at_builtin; refine kdQ_append_rows (Kd.int .i64) (w0 := w) w.heap.size rfl (.tmp 33) (.tmp 41) 23 3 (.int .i64 0) 8 rfl Try.underlying23 info3 rfl (by decide) (by omega) (.slice A23 y389.length c23) y389 ((rd_T44 l0_0 (rd x4_1 0)).f0) _ _ _ (fun k_ => some k_ ≠ (v394 : Value).ownBlock) (fun _ => False) rfl rfl ?aO ?aR (fun _ _ h => h) (fun _ h => h.elim) ?aF ?aB ?aS ?aL ?_; (case aR => exact lC (Kd.C_below HR396_0.out HB.out)); (case aB => exact lB); (case aF => exact (fun k_ hk => Kd.fresh' (Kd.R_lt (lR HO395.out)) k_ hk)); (case aO => exact (by (with_reducible repeat (first | apply Kd.Q_alloc | apply Kd.Q_drewN | apply Kd.Q_drew)); exact Kd.Q_mono HO391.out (fun _ hk => hk.2))); (case aS => exact (below_size lB)); (case aL => have := LMc21.out; omega); intro v398 w27 ho hb hg hat; rw [← Ny397.out] at ho; have n0_ := Aside0.mk (blk_grown (lK BK0.out) hg (Kd.Q_ne HO391.out BK0.out (by decide))); have n1_ := Aside0.mk (Kd.R_after (ok := (fun _ => True)) (by (with_reducible repeat (first | apply Kd.R_alloc | apply Kd.R_drewN | apply Kd.R_drew)); exact Kd.R_mono HO395.out (fun _ hk => ⟨trivial, hk⟩)) hg hat); have n2_ := Aside0.mk (hb); have n3_ := Aside0.mk (ho); clear BK0; clear HO395; clear HB; clear HO391; have BK0 := n0_; have HO395 := n1_; have HB := n2_; have HO399 := n3_; clear n0_ n1_ n2_ n3_; clear ho hb hg hat))
             go_roundg k1
             case measure => have := HK1.out; omega
             case rel => exact ⟨(y393), (y397), H', ⟨by have := HK1.out; omega⟩, ⟨by (with_reducible repeat (first | apply Kd.R_alloc | apply Kd.R_drewN | apply Kd.R_drew)); exact Kd.R_mono HO395.out (fun _ hk => hk.2)⟩, ⟨by (with_reducible repeat (first | apply Kd.Q_alloc | apply Kd.Q_drewN | apply Kd.Q_drew)); exact HO399.out⟩, ⟨lK BK0.out⟩, ⟨lB⟩⟩
            ·rw [if_neg c21] at H
             exact absurd H (by simp)
           ·rw [if_neg c20] at H
            exact absurd H (by simp)
          ·rw [if_neg c19] at H
           exact absurd H (by simp)
         ·rw [if_neg c18] at H
          exact absurd H (by simp)
       ·rw [if_neg c12] at H
        have c12b0 : decide (0 ≤ (rd x4_1 0)) = false := decide_eq_false c12
        clear c12
        have H' := Aside0.mk H
        clear H
        obtain ⟨Ao28, co28, eo28, _⟩ := Kd.Q_slice HO_4.out
        subst eo28
        have p388 : 0 ≤ (0 : Int) := (by omega)
        have q388 : 0 < (x4_1.length : Int) := lD
        obtain ⟨ad388, e388, hx388_0⟩ := Kd.at_int (Kd.Q_reads' HO_4.out).2.2 0 p388 q388
        cases e388
        have qi388 : (0 < x4_1.length) = True := eq_true (by omega)
        (try rw [show ((0 : Int)).toNat = 0 from rfl] at hx388_0)
        (try rw [Addr.add_zero'] at hx388_0)
        replace p388 := eq_true p388
        replace q388 := eq_true q388
        have q29 : (1 : Int) ≤ ((x4_1.length : Int) : Int) := lD
        obtain ⟨i029, hi029, _, hsz29, _⟩ := info_parts info3
        have hcut29 := cut_from (P := Try.prog) 23 3 .i64 Try.underlying23 hi029 1 hsz29 (some ad388) x4_1.length co28 1 (by omega) q29
        have hr29 := Kd.Q_drop (k := (1 : Int).toNat) HO_4.out (by omega)
        obtain ⟨A29, hA29⟩ : ∃ A1, A1 = (if co28 = (1 : Int).toNat then (some ad388) else ((some ad388) : Option Addr).map (·.add ((1 : Int).toNat * 1))) := ⟨_, rfl⟩
        obtain ⟨c29, hc29⟩ : ∃ c1, c1 = co28 - (1 : Int).toNat := ⟨_, rfl⟩
        have hy29 : y389.length = x4_1.length - (1 : Int).toNat := (by rw [Ny389.out, List.length_drop])
        rw [← Ny389.out] at hr29
        rw [← hy29, ← hA29, ← hc29] at hcut29
        replace hr29 : Kd.Q (Kd.int .i64) 3 wr w.heap.size (fun k_ => some k_ ≠ (u3 : Value).ownBlock) (.slice A29 y389.length c29) y389 := (by rw [hA29, hc29, hy29]; exact hr29)
        have HE29 : Aside0 ((Value.slice A29 y389.length c29).ownBlock = (.slice (some ad388) x4_1.length co28 : Value).ownBlock) := ⟨by rw [hA29]; split <;> (cases ((some ad388) : Option Addr) <;> rfl)⟩
        clear hy29 hi029 hsz29 HO_4 hA29 hc29
        have HO391 := Aside0.mk hr29
        clear hr29
        replace q29 := eq_true q29
        have n_ := Aside0.mk (Kd.R_mono (ok' := fun k_ => some k_ ≠ (.slice A29 y389.length c29 : Value).ownBlock) HO_3.out (fun k_ hk => (by rw [HE29.out]; exact hk)))
        clear HO_3
        have HO_3 := n_
        clear n_
        go_wp2
        go_roundg k1
        case measure => have := HK1.out; omega
        case rel => exact ⟨(x3_1), (y389), H', ⟨by have := HK1.out; omega⟩, ⟨lR HO_3.out⟩, ⟨by (with_reducible repeat (first | apply Kd.Q_alloc | apply Kd.Q_drewN | apply Kd.Q_drew)); exact HO391.out⟩, ⟨lK BK0.out⟩, ⟨lB⟩⟩
      ·rw [if_neg c11] at H
       exact absurd H (by simp)
     ·rw [if_neg c10] at H
      exact absurd H (by simp)
    ·rw [if_neg c9] at H
     have c9b0 : decide (0 < (x4_1.length : Int)) = false := decide_eq_false c9
     have c9b1 : decide (0 < x4_1.length) = false := decide_eq_false (by omega)
     clear c9
     replace H := lO H
     obtain ⟨t400, A30, H⟩ := H
     obtain rfl := Option.some.inj H
     obtain ⟨Ao31, co31, eo31, _⟩ := Kd.Q_slice HO_4.out
     subst eo31
     obtain ⟨Ao32, co32, eo32⟩ := Kd.R_slice HO_3.out
     subst eo32
     go_wp2_with (first | ((with_reducible refine gate_callee (f := 49) rfl ?_); refine gl_ (some 44) (Try.func49) #[.slice Ao32 x3_1.length co32] ?_; (with_reducible refine (slices_Sort_int_int.calls k1 (fun k_ => some k_ = (.slice Ao32 x3_1.length co32 : Value).ownBlock) (.slice Ao32 x3_1.length co32) x3_1 t400 w _ ?side1 ?side2 A30.out).mono ?_); (case side1 => repeat (first | (with_reducible first | exact HB.out | apply below_alloc | apply pw_below_drewN | apply below_drew1 | refine below_set ?_ GE0.out) | exact HB.out)); (case side2 => exact Kd.R_tight rfl HO_3.out); rintro e w33 ⟨rfl, hy0, hb, hkp⟩; refine ⟨_, rfl, ?_⟩; have n0_ := Aside0.mk (Kd.R_reok rfl hy0 (fun k_ e_ => HO_3.out.1 k_ e_)); have n1_ := Aside0.mk (Kd.Q_mono (ok' := fun k_ => some k_ ≠ (.slice Ao32 x3_1.length co32 : Value).ownBlock) (Kd.Q_keptB (HO_4.out) hkp (fun k_ hk_ hs_ => (hk_) hs_)) (fun k_ hk_ => hk_.1)); have n2_ := Aside0.mk (blk_kept (lK BK0.out) hkp (fun hs_ => (fun e_ => (Kd.R_ne HO_3.out BK0.out (by decide)) e_) hs_)); have n3_ := Aside0.mk (hb); clear HO_3; clear HO_4; clear BK0; clear HB; have HO_3 := n0_; have HO_4 := n1_; have BK0 := n2_; have HB := n3_; clear n0_ n1_ n2_ n3_; (try clear hb); (try clear hkp); (try clear hy0)))
     go_ret
     exact ⟨_, lE, by (with_reducible repeat (first | apply Kd.R_alloc | apply Kd.R_drewN | apply Kd.R_drew)); exact Kd.R_mono HO_3.out (fun _ hk => trivial), lB⟩
 ·rw [if_neg c2] at H
  exact absurd H (by simp)

/-! ### impl_LiveIn: function 22 -/
def impl_LiveIn.f (k : Nat) (l0_0 : List (S44)) (l0_1 : List Int) (a0_2 : Bool) : Option (List Int × Bool) := (impl_isMarker.f k l0_0 l0_1 a0_2).bind fun t402 => (if t402 = true then ((impl_Marker_live.f k l0_0 l0_1 a0_2).bind fun t403 => (some (t403, true))) else (some (([] : List Int), false)))
theorem impl_LiveIn.mono : ∀ a0 a1 a2 k, LeO (impl_LiveIn.f k a0 a1 a2) (impl_LiveIn.f (k + 1) a0 a1 a2) := by
 intro a0 a1 a2 k
 unfold impl_LiveIn.f
 repeat' first
   | with_reducible apply impl_Marker_live.mono
   | with_reducible apply impl_isMarker.mono
   | (with_reducible exact LeO.refl _)
   | (with_reducible exact LeO.none _)
   | (with_reducible refine LeO.ite ?_ ?_)
   | (with_reducible refine LeO.bind ?_ (fun _ => ?_))
   | apply impl_Marker_live.mono
   | apply impl_isMarker.mono
   | exact LeO.none _
   | refine LeO.ite ?_ ?_
   | refine LeO.bind ?_ (fun _ => ?_)
set_option maxHeartbeats 8000000 in
set_option maxRecDepth 100000 in
theorem impl_LiveIn.calls (k : Nat) (A0_0 : Option Addr) (c0_0 : Nat) (l0_0 : List (S44)) (A0_1 : Option Addr) (c0_1 : Nat) (l0_1 : List Int) (a0_2 : Bool) (r1 : List Int) (r2 : Bool) (w : World) (hr0_0 : Kd.C k44 w A0_0 l0_0.length l0_0) (hc0_0 : l0_0.length ≤ c0_0) (hr0_1 : Kd.C (Kd.int .i64) w A0_1 l0_1.length l0_1) (hc0_1 : l0_1.length ≤ c0_1) (h : impl_LiveIn.f k l0_0 l0_1 a0_2 = some (r1, r2)) :
  Calls Try.prog 22 #[.agg #[.slice A0_0 l0_0.length c0_0, .slice A0_1 l0_1.length c0_1, .bool a0_2]] w fun e w' => ∃ v0_ : Value, e = .returned (.tuple #[v0_, .bool r2]) ∧ Kd.R (Kd.int .i64) 3 w' w.heap.size (fun _ => True) v0_ r1 ∧ Below w.heap.size w w' := by
 have hu25 := Try.underlying25
 have HR0_0 := Aside0.mk hr0_0
 have HC0_0 := Aside0.mk hc0_0
 clear hr0_0 hc0_0
 have HR0_1 := Aside0.mk hr0_1
 have HC0_1 := Aside0.mk hc0_1
 clear hr0_1 hc0_1
 have HB := Aside0.mk (Below.refl w.heap.size w)
 have H : ((impl_isMarker.f k l0_0 l0_1 a0_2).bind fun t402 => (if t402 = true then ((impl_Marker_live.f k l0_0 l0_1 a0_2).bind fun t403 => (some (t403, true))) else (some (([] : List Int), false)))) = some (r1, r2) := h
 clear h
 replace H := lO H
 obtain ⟨t402, A2, H⟩ := H
 by_cases c3 : t402 = true
 ·subst c3
  rw [if_pos rfl] at H
  replace H := lO H
  obtain ⟨t403, A4, H⟩ := H
  simp only [Option.some.injEq, Prod.mk.injEq] at H
  obtain ⟨rfl, rfl⟩ := H
  go_enter Try.func22, Try.ntmps22
  go_wp2_with (first | ((with_reducible refine gate_dst (N := 1) rfl ?_); refine bxe 1 #[.slice A0_0 l0_0.length c0_0, .slice A0_1 l0_1.length c0_1, .bool a0_2] 25 ?_; intro gb401 hg w5 hbox hb; have n0_ := Aside0.mk (below_step lB hb); have n1_ := Aside0.mk (hbox); have n2_ := lG w hg; have n3_ := lG w hg; clear HB; have HB := n0_; have BK401 := n1_; have GW401 := n2_; have GE401 := n3_; clear n0_ n1_ n2_ n3_; clear hb hbox hg; obtain ⟨hcz6_0, hfz6_0, hcz6_1, hfz6_1, hcz6_2, hfz6_2⟩ := bk3 BK401.out) | ((with_reducible refine gate_callee (f := 35) rfl ?_); refine gl_ (some 5) (Try.func35) #[.agg #[.slice A0_0 l0_0.length c0_0, .slice A0_1 l0_1.length c0_1, .bool a0_2]] ?_; (with_reducible refine (impl_isMarker.calls k _ _ l0_0 _ _ l0_1 a0_2 true _ ?side1 ?side2 ?side3 ?side4 A2.out).mono ?_); (case side1 => exact lC (Kd.C_below HR0_0.out HB.out)); (case side2 => exact HC0_0.out); (case side3 => exact lC (Kd.C_below HR0_1.out HB.out)); (case side4 => exact HC0_1.out); rintro e w7 ⟨rfl, hb⟩; refine ⟨_, rfl, ?_⟩; have n0_ := Aside0.mk (blk_below (lK BK401.out) hb); have n1_ := Aside0.mk (below_step lB hb); clear BK401; clear HB; have BK401 := n0_; have HB := n1_; clear n0_ n1_; (try clear hb); (try clear hb2); (try clear hk); (try clear hi)) | ((with_reducible refine gate_callee (f := 39) rfl ?_); refine gl_ (some 7) (Try.func39) #[.pointer (some ⟨gb401, 0, none⟩)] ?_; (with_reducible refine (impl_Marker_live.calls k gb401 A0_0 c0_0 l0_0 A0_1 c0_1 l0_1 a0_2 t403 _ ?side1 ?side2 ?side3 ?side4 ?side5 A4.out).mono ?_); (case side1 => exact (lK BK401.out)); (case side2 => exact lC (Kd.C_below HR0_0.out HB.out)); (case side3 => exact HC0_0.out); (case side4 => exact lC (Kd.C_below HR0_1.out HB.out)); (case side5 => exact HC0_1.out); rintro e w8 ⟨v404, rfl, ho0, hb⟩; refine ⟨_, rfl, ?_⟩; have n0_ := Aside0.mk (Kd.R_lower ho0 (below_size lB)); have n1_ := Aside0.mk (blk_below (lK BK401.out) hb); have n2_ := Aside0.mk (below_step lB hb); clear BK401; clear HB; have HO405 := n0_; have BK401 := n1_; have HB := n2_; clear n0_ n1_ n2_; (try clear hb); (try clear hb2); (try clear hk); (try clear hi); (try clear ho0)))
  go_ret2
  exact ⟨_, lE, lR HO405.out, lB⟩
 ·replace c3 := Bool.eq_false_iff.mpr c3
  subst c3
  rw [if_neg (show ¬ (false = true) by decide)] at H
  simp only [Option.some.injEq, Prod.mk.injEq] at H
  obtain ⟨rfl, rfl⟩ := H
  go_enter Try.func22, Try.ntmps22
  go_wp2_with (first | ((with_reducible refine gate_dst (N := 1) rfl ?_); refine bxe 1 #[.slice A0_0 l0_0.length c0_0, .slice A0_1 l0_1.length c0_1, .bool a0_2] 25 ?_; intro gb401 hg w9 hbox hb; have n0_ := Aside0.mk (below_step lB hb); have n1_ := Aside0.mk (hbox); have n2_ := lG w hg; have n3_ := lG w hg; clear HB; have HB := n0_; have BK401 := n1_; have GW401 := n2_; have GE401 := n3_; clear n0_ n1_ n2_ n3_; clear hb hbox hg; obtain ⟨hcz10_0, hfz10_0, hcz10_1, hfz10_1, hcz10_2, hfz10_2⟩ := bk3 BK401.out) | ((with_reducible refine gate_callee (f := 35) rfl ?_); refine gl_ (some 5) (Try.func35) #[.agg #[.slice A0_0 l0_0.length c0_0, .slice A0_1 l0_1.length c0_1, .bool a0_2]] ?_; (with_reducible refine (impl_isMarker.calls k _ _ l0_0 _ _ l0_1 a0_2 false _ ?side1 ?side2 ?side3 ?side4 A2.out).mono ?_); (case side1 => exact lC (Kd.C_below HR0_0.out HB.out)); (case side2 => exact HC0_0.out); (case side3 => exact lC (Kd.C_below HR0_1.out HB.out)); (case side4 => exact HC0_1.out); rintro e w11 ⟨rfl, hb⟩; refine ⟨_, rfl, ?_⟩; have n0_ := Aside0.mk (blk_below (lK BK401.out) hb); have n1_ := Aside0.mk (below_step lB hb); clear BK401; clear HB; have BK401 := n0_; have HB := n1_; clear n0_ n1_; (try clear hb); (try clear hb2); (try clear hk); (try clear hi)))
  go_ret2
  exact ⟨_, lE, by first | exact Kd.R_nil _ _ _ _ _ | exact Kd.N_nil _ _ _ _ _ | exact Kd.V_nil _ _ _ _ _ | exact Kd.Q_nil _ _ _ _ _ | exact Kd.S_nil _ _ _ _ _, lB⟩

-- NOT PRINTED: function 6 (laws_FnExactLiveIn)

end Go.Proofs.Ytmgnnegmohmbhaa.Q
