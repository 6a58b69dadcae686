-- Written by the program wip/tools/pr.py of this claim's session, over the kit's print.py.
import Derived.Test.YtnocadhibajaoaaQx0
import Derived.Test.YtnocadhibajaoaaQx6
import Derived.Test.YtnocadhibajaoaaQx7
import Derived.Test.YtnocadhibajaoaaQx8
namespace Go.Proofs.Ytnocadhibajaoaa.Q
open Go.RowKit Go.Proofs.YtnocadhibajaoaaW.PrintWords Go.Proofs.YtnocadhibajaoaaW.PrintLast Go.Proofs.YtnocadhibajaoaaW.PrintMore
attribute [local go_sem] max2_int min2_int max_two min_two max_three min_three max_four min_four   -- for this text's walks alone
set_option linter.unusedVariables false
set_option linter.unusedSimpArgs false

-- NOT PRINTED: function 71 (slices_pdqsortOrdered_int)

/-! ### slices_Sort_int_int: function 70 -/
section
open Go.Shelf
shelf_lay Lays.n189 Nm 189 at Try as Srt.lays189
theorem Srt.sort (blk off cap : Nat) (zs : List Int) (w : World) (hH : Go.Sort.Holds (Value.int .i64) w blk off zs.toArray) (hblk : blk < w.heap.size) (hsz : zs.length < 4611686018427387904) :
    Calls Try.prog 70 #[.slice (some ⟨blk, off, none⟩) zs.length cap] w fun e w' =>
      e = .returned (.tuple #[]) ∧ ∃ n os, w' = Go.Sort.grow (Go.Sort.putRow (Value.int .i64) (Go.Sort.ahead w n) blk off (zs.mergeSort fun x y => decide (x ≤ y)).toArray) os := Go.Proofs.Any.slices_Sort_int Srt.lays189 blk off cap zs w hH hblk hsz
theorem Srt.none (p : Option Addr) (cap : Nat) (w : World) :
    Calls Try.prog 70 #[.slice p 0 cap] w fun e w' => e = .returned (.tuple #[]) ∧ w' = w := Go.Proofs.Any.slices_Sort_int_none Srt.lays189 p cap w
end
def slices_Sort_int_int.f (l0 : List Int) : Option (List Int) := if l0.length < 4611686018427387904 then some (l0.mergeSort fun x y => decide (x ≤ y)) else none
theorem slices_Sort_int_int.calls (P0_ : Nat → Prop) (u9000_ : Value) (l0 : List Int) (r : List Int) (w0 w : World) (hB : Below w0.heap.size w0 w) (ho0 : Kd.R (Kd.int .i64) 3 w w0.heap.size P0_ u9000_ l0) (h : slices_Sort_int_int.f l0 = some r) :
  Calls Try.prog 70 #[u9000_] w fun e w' => e = .returned (.tuple #[]) ∧ Kd.R (Kd.int .i64) 3 w' w0.heap.size (fun k_ => (P0_ k_ ∨ w.heap.size ≤ k_)) u9000_ r ∧ Below w0.heap.size w0 w' ∧ Kept w w' (fun k_ => P0_ k_) := by
  unfold slices_Sort_int_int.f at h
  split at h
  · rename_i hl
    obtain rfl := Option.some.inj h
    have hown := Kd.own_of_R ho0
    have hbs := hB.size
    rcases hown.2 with ⟨hv, h0⟩ | ⟨g, cap, cur, hv, hg, hc, hn, hcm, hcs, ht⟩
    · obtain rfl : l0 = [] := List.eq_nil_of_length_eq_zero h0
      obtain ⟨A, c, rfl⟩ := Kd.R_slice ho0
      refine (Srt.none A c w).mono ?_
      rintro e w' ⟨rfl, rfl⟩
      exact ⟨rfl, by rw [List.mergeSort_nil]; exact Kd.R_mono ho0 (fun k_ hk => .inl hk), hB, Kept.refl _ _⟩
    · have hP : P0_ g := ho0.1 g (by rw [hv]; simp [Value.ownBlock])
      have hH : Go.Sort.Holds (Value.int .i64) w g 0 l0.toArray := Go.holds_of_blockI hc (by simpa [encs] using ht)
      have hlt : g < w.heap.size := (Array.getElem?_eq_some_iff.1 hc).1
      subst hv
      refine (Srt.sort g 0 cap l0 w hH hlt hl).mono ?_
      rintro e w' ⟨rfl, n, os, rfl⟩
      have hgr : w.grownBy _ (some g) := Go.grownBy_sortedI (w := w) (g := g) (n := n) (os := os) (l0.mergeSort fun x y => decide (x ≤ y)).toArray
      have ho := Go.ownsRow_sortedI (w := w) (base := w0.heap.size) (g := g) (cap := cap) (n := n) (e := 3) (os := os) (cur := cur) (ss := l0) (ts := l0.mergeSort fun x y => decide (x ≤ y)) (by simp) hg hc hn hcm hcs
      rw [show l0.length = (l0.mergeSort fun x y => decide (x ≤ y)).length by simp] at ho
      refine ⟨rfl, ?_, hB.grown hgr hbs (fun k hk => by injection hk with hk; subst hk; exact hg), ?_⟩
      · have h2 := Kd.R_of_own (enc := Value.int .i64) (h1 := fun _ => rfl) (ok := fun k_ => (P0_ k_ ∨ w.heap.size ≤ k_)) ho (fun k hk => by simp [Value.ownBlock] at hk; subst hk; exact .inl hP)
        rw [show l0.length = (l0.mergeSort fun x y => decide (x ≤ y)).length by simp]
        exact h2
      · exact Kept.of_grown hgr (Kept.refl _ _) (fun k hk => by injection hk with hk; subst hk; exact .inl hP)
  · cases h


/-! ### fn_67: what is asked by a value of function type -/
def fn_67.f (a9 : Nat) (a0_0 : Int) (a0_1 : Bool) (l0_2 : List Int) : Option (Bool) := if a9 = 65 then impl_Heap_reach_1.f a0_0 a0_1 l0_2 else if a9 = 66 then impl_Heap_keeps_1.f a0_0 a0_1 l0_2 else none
theorem fn_67.calls (a9 : Nat) (a0_0 : Int) (a0_1 : Bool) (A0_2 : Option Addr) (c0_2 : Nat) (l0_2 : List Int) (r : Bool) (w : World) (hr0_2 : Kd.C (Kd.int .i64) w A0_2 l0_2.length l0_2) (hc0_2 : l0_2.length ≤ c0_2) (h : fn_67.f a9 a0_0 a0_1 l0_2 = some r) :
  Calls Try.prog a9 #[.agg #[.int .i64 a0_0, .bool a0_1, .slice A0_2 l0_2.length c0_2]] w fun e w' => e = .returned (.bool r) ∧ Below w.heap.size w w' := by
  unfold fn_67.f at h
  by_cases e65_ : a9 = 65
  · subst e65_; rw [if_pos rfl] at h; exact impl_Heap_reach_1.calls a0_0 a0_1 A0_2 c0_2 l0_2 r w hr0_2 hc0_2 h
  rw [if_neg e65_] at h
  by_cases e66_ : a9 = 66
  · subst e66_; rw [if_pos rfl] at h; exact impl_Heap_keeps_1.calls a0_0 a0_1 A0_2 c0_2 l0_2 r w hr0_2 hc0_2 h
  rw [if_neg e66_] at h
  exact absurd h (by simp)
theorem fn_67.enters {a9 : Nat} {a0_0 : Int} {a0_1 : Bool} {l0_2 : List Int} {r : Bool} (h : fn_67.f a9 a0_0 a0_1 l0_2 = some r) : ∀ args w, (callFunc a9 args).run Try.prog w = .ok (.enter a9 args) w := by
  unfold fn_67.f at h
  by_cases e65_ : a9 = 65
  · subst e65_; exact enters_of Try.func65 (by kernel_rfl) rfl
  rw [if_neg e65_] at h
  by_cases e66_ : a9 = 66
  · subst e66_; exact enters_of Try.func66 (by kernel_rfl) rfl
  rw [if_neg e66_] at h
  exact absurd h (by simp)
/-! ### impl_Heap_from: function 64 -/
def impl_Heap_from.l0 : Nat → Nat → List Int → List Int → List (S45) → List Int → List Int → Int → Option (List Int)
 | 0, _, _, _, _, _, _, _ => none
 | k + 1, x2, x7, x8, x1000, x1001, x1002, x1003 => if (x8.length : Int) > 0 then (if 0 < (x8.length : Int) then (if 1 ≤ (x8.length : Int) then ((some (x8.drop (1 : Int).toNat : List Int)).bind fun y437 => ((impl_Heap_at.f x1000 x1001 x1002 x1003 (rd x8 0)).bind fun t440 => (if t440 ≥ 0 then (if 0 ≤ t440 then (if t440 < (x1000.length : Int) then ((fn_67.f x2 ((rd_T45 x1000 t440).f0) ((rd_T45 x1000 t440).f1) ((rd_T45 x1000 t440).f2)).bind fun t442 => (if t442 = true then ((slices_Contains_int_int.f k x7 (rd x8 0)).bind fun t443 => (if t443 = true then (impl_Heap_from.l0 k x2 x7 y437 x1000 x1001 x1002 x1003) else (if x7.length < 17592186044416 then (if y437.length + ((rd_T45 x1000 t440).f2).length < 17592186044416 then (impl_Heap_from.l0 k x2 (x7 ++ [rd x8 0]) (y437 ++ ((rd_T45 x1000 t440).f2)) x1000 x1001 x1002 x1003) else (none)) else (none)))) else (impl_Heap_from.l0 k x2 x7 y437 x1000 x1001 x1002 x1003))) else (none)) else (none)) else (impl_Heap_from.l0 k x2 x7 y437 x1000 x1001 x1002 x1003)))) else (none)) else (none)) else ((slices_Sort_int_int.f x7).bind fun t435 => (some t435))
def impl_Heap_from.f (k : Nat) (l0_0 : List (S45)) (l0_1 : List Int) (l0_2 : List Int) (a0_3 : Int) (l1 : List Int) (a2 : Nat) : Option (List Int) := (some (([] : List Int) : List Int)).bind fun y429 => (if y429.length + l1.length < 17592186044416 then (impl_Heap_from.l0 k a2 (([] : List Int)) (y429 ++ l1) l0_0 l0_1 l0_2 a0_3) else (none))
theorem impl_Heap_from.mono_l : ∀ k, (∀ y0 y1 y2 y3 y4 y5 y6, LeO (impl_Heap_from.l0 k y0 y1 y2 y3 y4 y5 y6) (impl_Heap_from.l0 (k + 1) y0 y1 y2 y3 y4 y5 y6))
 | 0 => fun _ _ _ _ _ _ _ r h => by simp [impl_Heap_from.l0] at h
 | k + 1 => by
  have ih0 := impl_Heap_from.mono_l k
  ·intro y0 y1 y2 y3 y4 y5 y6
   unfold impl_Heap_from.l0
   repeat' first
   | with_reducible apply ih0
   | with_reducible apply slices_Contains_int_int.mono
   | (with_reducible exact LeO.refl _)
   | (with_reducible exact LeO.none _)
   | (with_reducible refine LeO.ite ?_ ?_)
   | (with_reducible refine LeO.bind ?_ (fun _ => ?_))
   | apply ih0
   | apply slices_Contains_int_int.mono
   | exact LeO.none _
   | refine LeO.ite ?_ ?_
   | refine LeO.bind ?_ (fun _ => ?_)
theorem impl_Heap_from.mono : ∀ a0 a1 a2 a3 a4 a5 k, LeO (impl_Heap_from.f k a0 a1 a2 a3 a4 a5) (impl_Heap_from.f (k + 1) a0 a1 a2 a3 a4 a5) := by
 intro a0 a1 a2 a3 a4 a5 k
 have ih0 := impl_Heap_from.mono_l k
 unfold impl_Heap_from.f
 repeat' first
   | with_reducible apply ih0
   | with_reducible apply slices_Contains_int_int.mono
   | (with_reducible exact LeO.refl _)
   | (with_reducible exact LeO.none _)
   | (with_reducible refine LeO.ite ?_ ?_)
   | (with_reducible refine LeO.bind ?_ (fun _ => ?_))
   | apply ih0
   | apply slices_Contains_int_int.mono
   | exact LeO.none _
   | refine LeO.ite ?_ ?_
   | refine LeO.bind ?_ (fun _ => ?_)
set_option maxHeartbeats 8000000 in
set_option maxRecDepth 100000 in
theorem impl_Heap_from.calls (k : Nat) (g0 : Nat) (A0_0 : Option Addr) (c0_0 : Nat) (l0_0 : List (S45)) (A0_1 : Option Addr) (c0_1 : Nat) (l0_1 : List Int) (A0_2 : Option Addr) (c0_2 : Nat) (l0_2 : List Int) (a0_3 : Int) (A1 : Option Addr) (c1 : Nat) (l1 : List Int) (a2 : Nat) (r : List Int) (w : World) (hb0 : w.heap[g0]? = some (.cells #[.slice A0_0 l0_0.length c0_0, .slice A0_1 l0_1.length c0_1, .slice A0_2 l0_2.length c0_2, .int .i64 a0_3] 25 (0, 0))) (hr0_0 : Kd.C k45 w A0_0 l0_0.length l0_0) (hc0_0 : l0_0.length ≤ c0_0) (hr0_1 : Kd.C (Kd.int .i64) w A0_1 l0_1.length l0_1) (hc0_1 : l0_1.length ≤ c0_1) (hr0_2 : Kd.C (Kd.int .i64) w A0_2 l0_2.length l0_2) (hc0_2 : l0_2.length ≤ c0_2) (hr1 : Kd.C (Kd.int .i64) w A1 l1.length l1) (hc1 : l1.length ≤ c1) (h : impl_Heap_from.f k l0_0 l0_1 l0_2 a0_3 l1 a2 = some r) :
  Calls Try.prog 64 #[.pointer (some ⟨g0, 0, none⟩), .slice A1 l1.length c1, .func (.func a2) #[] #[]] w fun e w' => ∃ v0_ : Value, e = .returned (v0_) ∧ Kd.R (Kd.int .i64) 3 w' w.heap.size (fun _ => True) v0_ r ∧ Below w.heap.size w w' := by
 have hu45 := Try.underlying45
 have HR0_0 := Aside0.mk hr0_0
 have HC0_0 := Aside0.mk hc0_0
 clear hr0_0 hc0_0
 have HR0_1 := Aside0.mk hr0_1
 have HC0_1 := Aside0.mk hc0_1
 clear hr0_1 hc0_1
 have HR0_2 := Aside0.mk hr0_2
 have HC0_2 := Aside0.mk hc0_2
 clear hr0_2 hc0_2
 have HR1 := Aside0.mk hr1
 have HC1 := Aside0.mk hc1
 clear hr1 hc1
 have BK0 := Aside0.mk hb0
 clear hb0
 have HB := Aside0.mk (Below.refl w.heap.size w)
 have H : ((some (([] : List Int) : List Int)).bind fun y429 => (if y429.length + l1.length < 17592186044416 then (impl_Heap_from.l0 k a2 (([] : List Int)) (y429 ++ l1) l0_0 l0_1 l0_2 a0_3) else (none))) = some r := h
 clear h
 obtain ⟨y426, hy426⟩ : ∃ y_ : List Int, y_ = (([] : List Int)) := ⟨_, rfl⟩
 replace H : ((some (([] : List Int) : List Int)).bind fun y429 => (if y429.length + l1.length < 17592186044416 then (impl_Heap_from.l0 k a2 y426 (y429 ++ l1) l0_0 l0_1 l0_2 a0_3) else (none))) = some r := by first | (rw [hy426]; with_reducible exact H) | (have H2_ := (Option.bind_some _ _).symm.trans H; rw [hy426]; with_reducible exact H2_) | (have H2_ := (Option.bind_some _ _).symm.trans H; with_reducible exact H2_) | with_reducible exact H | (rw [hy426]; exact H) | exact H
 have Ny426 := Aside0.mk hy426
 clear hy426
 obtain ⟨y429, hy429⟩ : ∃ y_ : List Int, y_ = (([] : List Int)) := ⟨_, rfl⟩
 replace H : (if y429.length + l1.length < 17592186044416 then (impl_Heap_from.l0 k a2 y426 (y429 ++ l1) l0_0 l0_1 l0_2 a0_3) else (none)) = some r := by first | (rw [hy429]; with_reducible exact H) | (have H2_ := (Option.bind_some _ _).symm.trans H; rw [hy429]; with_reducible exact H2_) | (have H2_ := (Option.bind_some _ _).symm.trans H; with_reducible exact H2_) | with_reducible exact H | (rw [hy429]; exact H) | exact H
 have Ny429 := Aside0.mk hy429
 clear hy429
 by_cases c4 : y429.length + l1.length < 17592186044416
 ·rw [if_pos c4] at H
  have LMc4 := Aside0.mk c4
  clear c4
  obtain ⟨y432, hy432⟩ : ∃ y_ : List Int, y_ = (y429 ++ l1) := ⟨_, rfl⟩
  replace H : (impl_Heap_from.l0 k a2 y426 y432 l0_0 l0_1 l0_2 a0_3) = some r := by first | (rw [hy432]; with_reducible exact H) | (have H2_ := (Option.bind_some _ _).symm.trans H; rw [hy432]; with_reducible exact H2_) | (have H2_ := (Option.bind_some _ _).symm.trans H; with_reducible exact H2_) | with_reducible exact H | (rw [hy432]; exact H) | exact H
  have Ny432 := Aside0.mk hy432
  clear hy432
  have H' := Aside0.mk H
  clear H
  go_enter Try.func64, Try.ntmps64
  go_wp2_with (first | ((with_reducible refine gate_dst (N := 11) rfl ?_); refine Kd.R_lit (Kd.int .i64) _ 3 ?hg (N := 11) ?hd (xs := ([] : List Int)) (inner := []) (ok := fun _ => True) (okp := fun _ => True) ?hr ?hp (fun _ hk => hk) trivial (Below.refl _ _) (Nat.le_refl _) (by simp) ?_; (case hd => rfl); (case hg => rfl); (case hr => first | (go_simp; done) | (go_simp; rfl)); (case hp => exact (Reps.none _ _)); intro v427 w5 ho6 hb hg_ hnew_; clear hg_ hnew_; (first | rw [← Ny426.out] at ho6 | (simp only [Int.reduceToNat] at ho6; rw [← Ny426.out] at ho6)); have n0_ := Aside0.mk (Kd.R_lower ho6 (below_size lB)); have n1_ := Aside0.mk (blk_below (lK BK0.out) hb); have n2_ := Aside0.mk (below_step lB hb); clear BK0; clear HB; have HO428 := n0_; have BK0 := n1_; have HB := n2_; clear n0_ n1_ n2_; clear hb ho6) | ((with_reducible refine gate_dst (N := 12) rfl ?_); refine Kd.R_lit (Kd.int .i64) _ 3 ?hg (N := 12) ?hd (xs := ([] : List Int)) (inner := []) (ok := fun _ => True) (okp := fun _ => True) ?hr ?hp (fun _ hk => hk) trivial (Below.refl _ _) (Nat.le_refl _) (by simp) ?_; (case hd => rfl); (case hg => rfl); (case hr => first | (go_simp; done) | (go_simp; rfl)); (case hp => exact (Reps.none _ _)); intro v430 w7 ho8 hb hg_ hnew_; clear hg_ hnew_; (first | rw [← Ny429.out] at ho8 | (simp only [Int.reduceToNat] at ho8; rw [← Ny429.out] at ho8)); have n0_ := Aside0.mk (Kd.R_elder' (lR HO428.out) (Kd.R_base ho8) hb); have n1_ := Aside0.mk (Kd.R_lower (Kd.R_new' ho8 (Kd.R_lt (lR HO428.out))) (below_size lB)); have n2_ := Aside0.mk (blk_below (lK BK0.out) hb); have n3_ := Aside0.mk (below_step lB hb); clear HO428; clear BK0; clear HB; have HO428 := n0_; have HO431 := n1_; have BK0 := n2_; have HB := n3_; clear n0_ n1_ n2_ n3_; clear hb ho8) | ((with_reducible refine gate_builtin (b := .append) (xs := #[.tmp 12, .tmp 13]) rfl ?_); at_builtin; refine Kd.R_append_rows (Kd.int .i64) (w0 := w) w.heap.size rfl (.tmp 12) (.tmp 13) 23 3 (.int .i64 0) 8 rfl Try.underlying23 info3 rfl (by decide) (by omega) v430 y429 l1 _ _ _ (fun k_ => some k_ ≠ (v427 : Value).ownBlock) (fun _ => False) rfl rfl ?aO ?aR (fun _ _ h => h) (fun _ h => h.elim) ?aF ?aB ?aS ?aL ?_; (case aR => exact lC (Kd.C_below HR1.out HB.out)); (case aB => exact lB); (case aF => exact (fun k_ hk => Kd.fresh' (Kd.R_lt (lR HO428.out)) k_ hk)); (case aO => exact (by (with_reducible repeat (first | apply Kd.R_alloc | apply Kd.R_drewN | apply Kd.R_drew)); exact Kd.R_mono HO431.out (fun _ hk => hk.2))); (case aS => exact (below_size lB)); (case aL => have := LMc4.out; omega); intro v433 w9 ho hb hg hat; rw [← Ny432.out] at ho; have n0_ := Aside0.mk (blk_grown (lK BK0.out) hg (Kd.R_ne HO431.out BK0.out (by decide))); have n1_ := Aside0.mk (Kd.R_after (ok := (fun _ => True)) (lR HO428.out) hg hat); have n2_ := Aside0.mk (hb); have n3_ := Aside0.mk (ho); clear BK0; clear HO428; clear HB; clear HO431; have BK0 := n0_; have HO428 := n1_; have HB := n2_; have HO434 := n3_; clear n0_ n1_ n2_ n3_; clear ho hb hg hat))
  go_loopg [7, 8] k (fun kq v7 v8 w' => ∃ (x7_1 : List Int) (x8_1 : List Int), Aside0 (impl_Heap_from.l0 kq a2 x7_1 x8_1 l0_0 l0_1 l0_2 a0_3 = some r) ∧ Aside0 (kq ≤ k) ∧ Aside0 (Kd.R (Kd.int .i64) 3 w' w.heap.size (fun k_ => some k_ ≠ (v8 : Value).ownBlock) v7 x7_1) ∧ Aside0 (Kd.Q (Kd.int .i64) 3 w' w.heap.size (fun k_ => some k_ ≠ (v7 : Value).ownBlock) v8 x8_1) ∧ Aside0 (w'.heap[g0]? = some (.cells #[(.slice A0_0 l0_0.length c0_0), (.slice A0_1 l0_1.length c0_1), (.slice A0_2 l0_2.length c0_2), .int .i64 a0_3] 25 (0, 0))) ∧ Aside0 (Below w.heap.size w w'))
  case atStart => exact ⟨(y426), (y432), H', ⟨Nat.le_refl _⟩, ⟨by (with_reducible repeat (first | apply Kd.R_alloc | apply Kd.R_drewN | apply Kd.R_drew)); exact Kd.R_mono HO428.out (fun _ hk => hk.2)⟩, ⟨Kd.Q_of_R (lR HO434.out)⟩, ⟨lK BK0.out⟩, ⟨lB⟩⟩
  case round =>
   clear H'
   try clear c1
   try clear p2
   try clear c4
   try clear c6
   obtain ⟨x7_1, x8_1, HA, HK1, HO_7, HO_8, BK0, HB⟩ := hrel
   cases gk with
   | zero => exact absurd HA.out (by simp [impl_Heap_from.l0])
   | succ k1 =>
    have H := HA.out
    clear HA
    simp only [impl_Heap_from.l0] at H
    by_cases c10 : (x8_1.length : Int) > 0
    ·rw [if_pos c10] at H
     have c10b0 : decide (0 < (x8_1.length : Int)) = true := decide_eq_true c10
     have c10b1 : decide (0 < x8_1.length) = true := decide_eq_true (by omega)
     clear c10
     by_cases c11 : 0 < (x8_1.length : Int)
     ·rw [if_pos c11] at H
      have c11b0 : decide (0 < (x8_1.length : Int)) = true := decide_eq_true c11
      have c11b1 : decide (0 < x8_1.length) = true := decide_eq_true (by omega)
      clear c11
      by_cases c12 : 1 ≤ (x8_1.length : Int)
      ·rw [if_pos c12] at H
       have c12b0 := eq_true c12
       have c12b1 : decide (1 ≤ (x8_1.length : Int)) = true := decide_eq_true c12
       clear c12
       obtain ⟨y437, hy437⟩ : ∃ y_ : List Int, y_ = (x8_1.drop (1 : Int).toNat) := ⟨_, rfl⟩
       replace H : ((impl_Heap_at.f l0_0 l0_1 l0_2 a0_3 (rd x8_1 0)).bind fun t440 => (if t440 ≥ 0 then (if 0 ≤ t440 then (if t440 < (l0_0.length : Int) then ((fn_67.f a2 ((rd_T45 l0_0 t440).f0) ((rd_T45 l0_0 t440).f1) ((rd_T45 l0_0 t440).f2)).bind fun t442 => (if t442 = true then ((slices_Contains_int_int.f k1 x7_1 (rd x8_1 0)).bind fun t443 => (if t443 = true then (impl_Heap_from.l0 k1 a2 x7_1 y437 l0_0 l0_1 l0_2 a0_3) else (if x7_1.length < 17592186044416 then (if y437.length + ((rd_T45 l0_0 t440).f2).length < 17592186044416 then (impl_Heap_from.l0 k1 a2 (x7_1 ++ [rd x8_1 0]) (y437 ++ ((rd_T45 l0_0 t440).f2)) l0_0 l0_1 l0_2 a0_3) else (none)) else (none)))) else (impl_Heap_from.l0 k1 a2 x7_1 y437 l0_0 l0_1 l0_2 a0_3))) else (none)) else (none)) else (impl_Heap_from.l0 k1 a2 x7_1 y437 l0_0 l0_1 l0_2 a0_3))) = some r := by first | (rw [hy437]; with_reducible exact H) | (have H2_ := (Option.bind_some _ _).symm.trans H; rw [hy437]; with_reducible exact H2_) | (have H2_ := (Option.bind_some _ _).symm.trans H; with_reducible exact H2_) | with_reducible exact H | (rw [hy437]; exact H) | exact H
       have Ny437 := Aside0.mk hy437
       clear hy437
       replace H := lO H
       obtain ⟨t440, A13, H⟩ := H
       by_cases c14 : t440 ≥ 0
       ·rw [if_pos c14] at H
        have c14b0 : decide (0 ≤ t440) = true := decide_eq_true c14
        clear c14
        by_cases c15 : 0 ≤ t440
        ·rw [if_pos c15] at H
         have c15b0 : decide (0 ≤ t440) = true := decide_eq_true c15
         clear c15
         by_cases c16 : t440 < (l0_0.length : Int)
         ·rw [if_pos c16] at H
          have c16b0 : decide (t440 < (l0_0.length : Int)) = true := decide_eq_true c16
          clear c16
          replace H := lO H
          obtain ⟨t442, A17, H⟩ := H
          by_cases c18 : t442 = true
          ·subst c18
           rw [if_pos rfl] at H
           replace H := lO H
           obtain ⟨t443, A19, H⟩ := H
           by_cases c20 : t443 = true
           ·subst c20
            rw [if_pos rfl] at H
            have H' := Aside0.mk H
            clear H
            obtain ⟨Ao21, co21, eo21, _⟩ := Kd.Q_slice HO_8.out
            subst eo21
            have p436 : 0 ≤ (0 : Int) := (by omega)
            have q436 : 0 < (x8_1.length : Int) := lD
            obtain ⟨ad436, e436, hx436_0⟩ := Kd.at_int (Kd.Q_reads' HO_8.out).2.2 0 p436 q436
            cases e436
            have qi436 : (0 < x8_1.length) = True := eq_true (by omega)
            (try rw [show ((0 : Int)).toNat = 0 from rfl] at hx436_0)
            (try rw [Addr.add_zero'] at hx436_0)
            replace p436 := eq_true p436
            replace q436 := eq_true q436
            have q22 : (1 : Int) ≤ ((x8_1.length : Int) : Int) := lD
            obtain ⟨i022, hi022, _, hsz22, _⟩ := info_parts info3
            have hcut22 := cut_from (P := Try.prog) 23 3 .i64 Try.underlying23 hi022 1 hsz22 (some ad436) x8_1.length co21 1 (by omega) q22
            have hr22 := Kd.Q_drop (k := (1 : Int).toNat) HO_8.out (by omega)
            obtain ⟨A22, hA22⟩ : ∃ A1, A1 = (if co21 = (1 : Int).toNat then (some ad436) else ((some ad436) : Option Addr).map (·.add ((1 : Int).toNat * 1))) := ⟨_, rfl⟩
            obtain ⟨c22, hc22⟩ : ∃ c1, c1 = co21 - (1 : Int).toNat := ⟨_, rfl⟩
            have hy22 : y437.length = x8_1.length - (1 : Int).toNat := (by rw [Ny437.out, List.length_drop])
            rw [← Ny437.out] at hr22
            rw [← hy22, ← hA22, ← hc22] at hcut22
            replace hr22 : Kd.Q (Kd.int .i64) 3 wr w.heap.size (fun k_ => some k_ ≠ (u7 : Value).ownBlock) (.slice A22 y437.length c22) y437 := (by rw [hA22, hc22, hy22]; exact hr22)
            have HE22 : Aside0 ((Value.slice A22 y437.length c22).ownBlock = (.slice (some ad436) x8_1.length co21 : Value).ownBlock) := ⟨by rw [hA22]; split <;> (cases ((some ad436) : Option Addr) <;> rfl)⟩
            clear hy22 hi022 hsz22 HO_8 hA22 hc22
            have HO439 := Aside0.mk hr22
            clear hr22
            replace q22 := eq_true q22
            have n_ := Aside0.mk (Kd.R_mono (ok' := fun k_ => some k_ ≠ (.slice A22 y437.length c22 : Value).ownBlock) HO_7.out (fun k_ hk => (by rw [HE22.out]; exact hk)))
            clear HO_7
            have HO_7 := n_
            clear n_
            have eg_ := fn_67.enters A17.out
            go_wp2_with (first | ((with_reducible refine gate_callee (f := 58) rfl ?_); refine gl_ (some 25) (Try.func58) #[.pointer (some ⟨g0, 0, none⟩), .int .i64 (rd x8_1 0)] ?_; (with_reducible refine (impl_Heap_at.calls g0 A0_0 c0_0 l0_0 A0_1 c0_1 l0_1 A0_2 c0_2 l0_2 a0_3 (rd x8_1 0) t440 _ ?side1 ?side2 ?side3 ?side4 ?side5 ?side6 ?side7 A13.out).mono ?_); (case side1 => exact (lK BK0.out)); (case side2 => exact lC (Kd.C_below HR0_0.out HB.out)); (case side3 => exact HC0_0.out); (case side4 => exact lC (Kd.C_below HR0_1.out HB.out)); (case side5 => exact HC0_1.out); (case side6 => exact lC (Kd.C_below HR0_2.out HB.out)); (case side7 => exact HC0_2.out); rintro e w23 ⟨rfl, hb⟩; refine ⟨_, rfl, ?_⟩; have n0_ := Aside0.mk (Kd.R_below (lR HO_7.out) hb); have n1_ := Aside0.mk (Kd.Q_below (by (with_reducible repeat (first | apply Kd.Q_alloc | apply Kd.Q_drewN | apply Kd.Q_drew)); exact HO439.out) hb); have n2_ := Aside0.mk (blk_below (lK BK0.out) hb); have n3_ := Aside0.mk (below_step lB hb); clear HO_7; clear HO439; clear BK0; clear HB; have HO_7 := n0_; have HO439 := n1_; have BK0 := n2_; have HB := n3_; clear n0_ n1_ n2_ n3_; (try clear hb); (try clear hb2); (try clear hk); (try clear hi); obtain ⟨hcz24_0, hfz24_0, hcz24_1, hfz24_1, hcz24_2, hfz24_2, hcz24_3, hfz24_3⟩ := bk4 BK0.out; have p441 : 0 ≤ (t440 : Int) := lD; have q441 : t440 < (l0_0.length : Int) := lD; obtain ⟨ad441, A441_2, c441_2, e441, hx441_0, hx441_1, hx441_2, hl441_2, hi441_2⟩ := at_T45 HR0_0.out t440 p441 q441; cases e441; replace hx441_0 := pw_cell_below HB.out hx441_0; replace hx441_1 := pw_cell_below HB.out hx441_1; replace hx441_2 := pw_cell_below HB.out hx441_2; have HR441_2 := Aside0.mk hi441_2; have HC441_2 := Aside0.mk hl441_2; clear hi441_2 hl441_2; replace p441 := eq_true p441; replace q441 := eq_true q441) | ((with_reducible refine (fn_67.calls a2 ((rd_T45 l0_0 t440).f0) ((rd_T45 l0_0 t440).f1) _ _ ((rd_T45 l0_0 t440).f2) true _ ?side1 ?side2 A17.out).mono ?_); (case side1 => exact lC (Kd.C_below HR441_2.out HB.out)); (case side2 => exact HC441_2.out); rintro e w25 ⟨rfl, hb⟩; have n0_ := Aside0.mk (Kd.R_below (lR HO_7.out) hb); have n1_ := Aside0.mk (Kd.Q_below (by (with_reducible repeat (first | apply Kd.Q_alloc | apply Kd.Q_drewN | apply Kd.Q_drew)); exact HO439.out) hb); have n2_ := Aside0.mk (blk_below (lK BK0.out) hb); have n3_ := Aside0.mk (below_step lB hb); clear HO_7; clear HO439; clear BK0; clear HB; have HO_7 := n0_; have HO439 := n1_; have BK0 := n2_; have HB := n3_; clear n0_ n1_ n2_ n3_; (try clear hb); (try clear hb2); (try clear hk); (try clear hi); obtain ⟨Ao26, co26, eo26⟩ := Kd.R_slice HO_7.out; subst eo26) | (go_at_call 57; (with_reducible refine (slices_Contains_int_int.calls k1 _ _ x7_1 (rd x8_1 0) true _ ?side1 ?side2 A19.out).mono ?_); (case side1 => repeat (first | exact (Kd.R_reads' HO_7.out).2.2 | (with_reducible refine Kd.C_alloc ?_ _) | (with_reducible refine Kd.C_drewN ?_ _) | (with_reducible refine Kd.C_drew ?_))); (case side2 => exact (Kd.R_reads' HO_7.out).2.1); rintro e w' ⟨rfl, ⟨nd, rfl⟩⟩))
            go_roundg k1
            case measure => have := HK1.out; omega
            case rel => exact ⟨(x7_1), (y437), H', ⟨by have := HK1.out; omega⟩, ⟨lR HO_7.out⟩, ⟨by (with_reducible repeat (first | apply Kd.Q_alloc | apply Kd.Q_drewN | apply Kd.Q_drew)); exact HO439.out⟩, ⟨lK BK0.out⟩, ⟨lB⟩⟩
           ·replace c20 := Bool.eq_false_iff.mpr c20
            subst c20
            rw [if_neg (show ¬ (false = true) by decide)] at H
            by_cases c27 : x7_1.length < 17592186044416
            ·rw [if_pos c27] at H
             have LMc27 := Aside0.mk c27
             clear c27
             obtain ⟨y444, hy444⟩ : ∃ y_ : List Int, y_ = (x7_1 ++ [rd x8_1 0]) := ⟨_, rfl⟩
             replace H : (if y437.length + ((rd_T45 l0_0 t440).f2).length < 17592186044416 then (impl_Heap_from.l0 k1 a2 y444 (y437 ++ ((rd_T45 l0_0 t440).f2)) l0_0 l0_1 l0_2 a0_3) else (none)) = some r := by first | (rw [hy444]; with_reducible exact H) | (have H2_ := (Option.bind_some _ _).symm.trans H; rw [hy444]; with_reducible exact H2_) | (have H2_ := (Option.bind_some _ _).symm.trans H; with_reducible exact H2_) | with_reducible exact H | (rw [hy444]; exact H) | exact H
             have Ny444 := Aside0.mk hy444
             clear hy444
             by_cases c28 : y437.length + ((rd_T45 l0_0 t440).f2).length < 17592186044416
             ·rw [if_pos c28] at H
              have LMc28 := Aside0.mk c28
              clear c28
              obtain ⟨y448, hy448⟩ : ∃ y_ : List Int, y_ = (y437 ++ ((rd_T45 l0_0 t440).f2)) := ⟨_, rfl⟩
              replace H : (impl_Heap_from.l0 k1 a2 y444 y448 l0_0 l0_1 l0_2 a0_3) = some r := by first | (rw [hy448]; with_reducible exact H) | (have H2_ := (Option.bind_some _ _).symm.trans H; rw [hy448]; with_reducible exact H2_) | (have H2_ := (Option.bind_some _ _).symm.trans H; with_reducible exact H2_) | with_reducible exact H | (rw [hy448]; exact H) | exact H
              have Ny448 := Aside0.mk hy448
              clear hy448
              have H' := Aside0.mk H
              clear H
              obtain ⟨Ao29, co29, eo29, _⟩ := Kd.Q_slice HO_8.out
              subst eo29
              have p436 : 0 ≤ (0 : Int) := (by omega)
              have q436 : 0 < (x8_1.length : Int) := lD
              obtain ⟨ad436, e436, hx436_0⟩ := Kd.at_int (Kd.Q_reads' HO_8.out).2.2 0 p436 q436
              cases e436
              have qi436 : (0 < x8_1.length) = True := eq_true (by omega)
              (try rw [show ((0 : Int)).toNat = 0 from rfl] at hx436_0)
              (try rw [Addr.add_zero'] at hx436_0)
              replace p436 := eq_true p436
              replace q436 := eq_true q436
              have q30 : (1 : Int) ≤ ((x8_1.length : Int) : Int) := lD
              obtain ⟨i030, hi030, _, hsz30, _⟩ := info_parts info3
              have hcut30 := cut_from (P := Try.prog) 23 3 .i64 Try.underlying23 hi030 1 hsz30 (some ad436) x8_1.length co29 1 (by omega) q30
              have hr30 := Kd.Q_drop (k := (1 : Int).toNat) HO_8.out (by omega)
              obtain ⟨A30, hA30⟩ : ∃ A1, A1 = (if co29 = (1 : Int).toNat then (some ad436) else ((some ad436) : Option Addr).map (·.add ((1 : Int).toNat * 1))) := ⟨_, rfl⟩
              obtain ⟨c30, hc30⟩ : ∃ c1, c1 = co29 - (1 : Int).toNat := ⟨_, rfl⟩
              have hy30 : y437.length = x8_1.length - (1 : Int).toNat := (by rw [Ny437.out, List.length_drop])
              rw [← Ny437.out] at hr30
              rw [← hy30, ← hA30, ← hc30] at hcut30
              replace hr30 : Kd.Q (Kd.int .i64) 3 wr w.heap.size (fun k_ => some k_ ≠ (u7 : Value).ownBlock) (.slice A30 y437.length c30) y437 := (by rw [hA30, hc30, hy30]; exact hr30)
              have HE30 : Aside0 ((Value.slice A30 y437.length c30).ownBlock = (.slice (some ad436) x8_1.length co29 : Value).ownBlock) := ⟨by rw [hA30]; split <;> (cases ((some ad436) : Option Addr) <;> rfl)⟩
              clear hy30 hi030 hsz30 HO_8 hA30 hc30
              have HO439 := Aside0.mk hr30
              clear hr30
              replace q30 := eq_true q30
              have n_ := Aside0.mk (Kd.R_mono (ok' := fun k_ => some k_ ≠ (.slice A30 y437.length c30 : Value).ownBlock) HO_7.out (fun k_ hk => (by rw [HE30.out]; exact hk)))
              clear HO_7
              have HO_7 := n_
              clear n_
              have eg_ := fn_67.enters A17.out
              go_wp2_with (first | ((with_reducible refine gate_callee (f := 58) rfl ?_); refine gl_ (some 25) (Try.func58) #[.pointer (some ⟨g0, 0, none⟩), .int .i64 (rd x8_1 0)] ?_; (with_reducible refine (impl_Heap_at.calls g0 A0_0 c0_0 l0_0 A0_1 c0_1 l0_1 A0_2 c0_2 l0_2 a0_3 (rd x8_1 0) t440 _ ?side1 ?side2 ?side3 ?side4 ?side5 ?side6 ?side7 A13.out).mono ?_); (case side1 => exact (lK BK0.out)); (case side2 => exact lC (Kd.C_below HR0_0.out HB.out)); (case side3 => exact HC0_0.out); (case side4 => exact lC (Kd.C_below HR0_1.out HB.out)); (case side5 => exact HC0_1.out); (case side6 => exact lC (Kd.C_below HR0_2.out HB.out)); (case side7 => exact HC0_2.out); rintro e w31 ⟨rfl, hb⟩; refine ⟨_, rfl, ?_⟩; have n0_ := Aside0.mk (Kd.R_below (lR HO_7.out) hb); have n1_ := Aside0.mk (Kd.Q_below (by (with_reducible repeat (first | apply Kd.Q_alloc | apply Kd.Q_drewN | apply Kd.Q_drew)); exact HO439.out) hb); have n2_ := Aside0.mk (blk_below (lK BK0.out) hb); have n3_ := Aside0.mk (below_step lB hb); clear HO_7; clear HO439; clear BK0; clear HB; have HO_7 := n0_; have HO439 := n1_; have BK0 := n2_; have HB := n3_; clear n0_ n1_ n2_ n3_; (try clear hb); (try clear hb2); (try clear hk); (try clear hi); obtain ⟨hcz32_0, hfz32_0, hcz32_1, hfz32_1, hcz32_2, hfz32_2, hcz32_3, hfz32_3⟩ := bk4 BK0.out; have p441 : 0 ≤ (t440 : Int) := lD; have q441 : t440 < (l0_0.length : Int) := lD; obtain ⟨ad441, A441_2, c441_2, e441, hx441_0, hx441_1, hx441_2, hl441_2, hi441_2⟩ := at_T45 HR0_0.out t440 p441 q441; cases e441; replace hx441_0 := pw_cell_below HB.out hx441_0; replace hx441_1 := pw_cell_below HB.out hx441_1; replace hx441_2 := pw_cell_below HB.out hx441_2; have HR441_2 := Aside0.mk hi441_2; have HC441_2 := Aside0.mk hl441_2; clear hi441_2 hl441_2; replace p441 := eq_true p441; replace q441 := eq_true q441) | ((with_reducible refine (fn_67.calls a2 ((rd_T45 l0_0 t440).f0) ((rd_T45 l0_0 t440).f1) _ _ ((rd_T45 l0_0 t440).f2) true _ ?side1 ?side2 A17.out).mono ?_); (case side1 => exact lC (Kd.C_below HR441_2.out HB.out)); (case side2 => exact HC441_2.out); rintro e w33 ⟨rfl, hb⟩; have n0_ := Aside0.mk (Kd.R_below (lR HO_7.out) hb); have n1_ := Aside0.mk (Kd.Q_below (by (with_reducible repeat (first | apply Kd.Q_alloc | apply Kd.Q_drewN | apply Kd.Q_drew)); exact HO439.out) hb); have n2_ := Aside0.mk (blk_below (lK BK0.out) hb); have n3_ := Aside0.mk (below_step lB hb); clear HO_7; clear HO439; clear BK0; clear HB; have HO_7 := n0_; have HO439 := n1_; have BK0 := n2_; have HB := n3_; clear n0_ n1_ n2_ n3_; (try clear hb); (try clear hb2); (try clear hk); (try clear hi); obtain ⟨Ao34, co34, eo34⟩ := Kd.R_slice HO_7.out; subst eo34) | (go_at_call 57; (with_reducible refine (slices_Contains_int_int.calls k1 _ _ x7_1 (rd x8_1 0) false _ ?side1 ?side2 A19.out).mono ?_); (case side1 => repeat (first | exact (Kd.R_reads' HO_7.out).2.2 | (with_reducible refine Kd.C_alloc ?_ _) | (with_reducible refine Kd.C_drewN ?_ _) | (with_reducible refine Kd.C_drew ?_))); (case side2 => exact (Kd.R_reads' HO_7.out).2.1); rintro e w' ⟨rfl, ⟨nd, rfl⟩⟩) | ((with_reducible refine gate_builtin (b := .append) (xs := #[.tmp 45, .tmp 47]) rfl ?_); at_builtin; refine Kd.R_append (Kd.int .i64) (w0 := w) w.heap.size rfl (.tmp 45) (.tmp 47) 23 3 (.int .i64 0) 8 rfl Try.underlying23 info3 rfl (by decide) (by omega) (.slice Ao34 x7_1.length co34) x7_1 (rd x8_1 0) [.int .i64 (rd x8_1 0)] (fun k_ => some k_ ≠ (.slice A30 y437.length c30 : Value).ownBlock) (fun _ => False) rfl rfl ?aP (fun _ hk => hk.elim) ?aF ?aO ?aB ?aS ?aL ?_; (case aP => exact rfl); (case aB => exact lB); (case aF => exact (fun k_ hk => Kd.fresh' (Kd.Q_lt (by (with_reducible repeat (first | apply Kd.Q_alloc | apply Kd.Q_drewN | apply Kd.Q_drew)); exact HO439.out)) k_ hk)); (case aO => exact (lR HO_7.out)); (case aS => exact (below_size lB)); (case aL => have := LMc27.out; omega); intro v445 w35 ho hb hg hat; rw [← Ny444.out] at ho; have n0_ := Aside0.mk (Kd.Q_after (ok := (fun _ => True)) (by (with_reducible repeat (first | apply Kd.Q_alloc | apply Kd.Q_drewN | apply Kd.Q_drew)); exact Kd.Q_mono HO439.out (fun _ hk => ⟨trivial, hk⟩)) hg hat); have n1_ := Aside0.mk (blk_grown (lK BK0.out) hg (Kd.R_ne HO_7.out BK0.out (by decide))); have n2_ := Aside0.mk (hb); have n3_ := Aside0.mk (ho); clear HO439; clear BK0; clear HB; clear HO_7; have HO439 := n0_; have BK0 := n1_; have HB := n2_; have HO446 := n3_; clear n0_ n1_ n2_ n3_; clear ho hb hg hat; obtain ⟨hcz36_0, hfz36_0, hcz36_1, hfz36_1, hcz36_2, hfz36_2, hcz36_3, hfz36_3⟩ := bk4 BK0.out; have p447 : 0 ≤ (t440 : Int) := lD; have q447 : t440 < (l0_0.length : Int) := lD; obtain ⟨ad447, A447_2, c447_2, e447, hx447_0, hx447_1, hx447_2, hl447_2, hi447_2⟩ := at_T45 HR0_0.out t440 p447 q447; obtain rfl : ad441 = ad447 := (by injection e447); replace hx447_0 := pw_cell_below HB.out hx447_0; replace hx447_1 := pw_cell_below HB.out hx447_1; replace hx447_2 := pw_cell_below HB.out hx447_2; have HR447_2 := Aside0.mk hi447_2; have HC447_2 := Aside0.mk hl447_2; clear hi447_2 hl447_2; replace p447 := eq_true p447; replace q447 := eq_true q447) | ((with_reducible refine gate_builtin (b := .append) (xs := #[.tmp 49, .tmp 57]) rfl ?_); at_builtin; refine kdQ_append_rows (Kd.int .i64) (w0 := w) w.heap.size rfl (.tmp 49) (.tmp 57) 23 3 (.int .i64 0) 8 rfl Try.underlying23 info3 rfl (by decide) (by omega) (.slice A30 y437.length c30) y437 ((rd_T45 l0_0 t440).f2) _ _ _ (fun k_ => some k_ ≠ (v445 : Value).ownBlock) (fun _ => False) rfl rfl ?aO ?aR (fun _ _ h => h) (fun _ h => h.elim) ?aF ?aB ?aS ?aL ?_; (case aR => exact lC (Kd.C_below HR447_2.out HB.out)); (case aB => exact lB); (case aF => exact (fun k_ hk => Kd.fresh' (Kd.R_lt (lR HO446.out)) k_ hk)); (case aO => exact (by (with_reducible repeat (first | apply Kd.Q_alloc | apply Kd.Q_drewN | apply Kd.Q_drew)); exact Kd.Q_mono HO439.out (fun _ hk => hk.2))); (case aS => exact (below_size lB)); (case aL => have := LMc28.out; omega); intro v449 w37 ho hb hg hat; rw [← Ny448.out] at ho; have n0_ := Aside0.mk (blk_grown (lK BK0.out) hg (Kd.Q_ne HO439.out BK0.out (by decide))); have n1_ := Aside0.mk (Kd.R_after (ok := (fun _ => True)) (by (with_reducible repeat (first | apply Kd.R_alloc | apply Kd.R_drewN | apply Kd.R_drew)); exact Kd.R_mono HO446.out (fun _ hk => ⟨trivial, hk⟩)) hg hat); have n2_ := Aside0.mk (hb); have n3_ := Aside0.mk (ho); clear BK0; clear HO446; clear HB; clear HO439; have BK0 := n0_; have HO446 := n1_; have HB := n2_; have HO450 := n3_; clear n0_ n1_ n2_ n3_; clear ho hb hg hat))
              go_roundg k1
              case measure => have := HK1.out; omega
              case rel => exact ⟨(y444), (y448), H', ⟨by have := HK1.out; omega⟩, ⟨by (with_reducible repeat (first | apply Kd.R_alloc | apply Kd.R_drewN | apply Kd.R_drew)); exact Kd.R_mono HO446.out (fun _ hk => hk.2)⟩, ⟨by (with_reducible repeat (first | apply Kd.Q_alloc | apply Kd.Q_drewN | apply Kd.Q_drew)); exact HO450.out⟩, ⟨lK BK0.out⟩, ⟨lB⟩⟩
             ·rw [if_neg c28] at H
              exact absurd H (by simp)
            ·rw [if_neg c27] at H
             exact absurd H (by simp)
          ·replace c18 := Bool.eq_false_iff.mpr c18
           subst c18
           rw [if_neg (show ¬ (false = true) by decide)] at H
           have H' := Aside0.mk H
           clear H
           obtain ⟨Ao38, co38, eo38, _⟩ := Kd.Q_slice HO_8.out
           subst eo38
           have p436 : 0 ≤ (0 : Int) := (by omega)
           have q436 : 0 < (x8_1.length : Int) := lD
           obtain ⟨ad436, e436, hx436_0⟩ := Kd.at_int (Kd.Q_reads' HO_8.out).2.2 0 p436 q436
           cases e436
           have qi436 : (0 < x8_1.length) = True := eq_true (by omega)
           (try rw [show ((0 : Int)).toNat = 0 from rfl] at hx436_0)
           (try rw [Addr.add_zero'] at hx436_0)
           replace p436 := eq_true p436
           replace q436 := eq_true q436
           have q39 : (1 : Int) ≤ ((x8_1.length : Int) : Int) := lD
           obtain ⟨i039, hi039, _, hsz39, _⟩ := info_parts info3
           have hcut39 := cut_from (P := Try.prog) 23 3 .i64 Try.underlying23 hi039 1 hsz39 (some ad436) x8_1.length co38 1 (by omega) q39
           have hr39 := Kd.Q_drop (k := (1 : Int).toNat) HO_8.out (by omega)
           obtain ⟨A39, hA39⟩ : ∃ A1, A1 = (if co38 = (1 : Int).toNat then (some ad436) else ((some ad436) : Option Addr).map (·.add ((1 : Int).toNat * 1))) := ⟨_, rfl⟩
           obtain ⟨c39, hc39⟩ : ∃ c1, c1 = co38 - (1 : Int).toNat := ⟨_, rfl⟩
           have hy39 : y437.length = x8_1.length - (1 : Int).toNat := (by rw [Ny437.out, List.length_drop])
           rw [← Ny437.out] at hr39
           rw [← hy39, ← hA39, ← hc39] at hcut39
           replace hr39 : Kd.Q (Kd.int .i64) 3 wr w.heap.size (fun k_ => some k_ ≠ (u7 : Value).ownBlock) (.slice A39 y437.length c39) y437 := (by rw [hA39, hc39, hy39]; exact hr39)
           have HE39 : Aside0 ((Value.slice A39 y437.length c39).ownBlock = (.slice (some ad436) x8_1.length co38 : Value).ownBlock) := ⟨by rw [hA39]; split <;> (cases ((some ad436) : Option Addr) <;> rfl)⟩
           clear hy39 hi039 hsz39 HO_8 hA39 hc39
           have HO439 := Aside0.mk hr39
           clear hr39
           replace q39 := eq_true q39
           have n_ := Aside0.mk (Kd.R_mono (ok' := fun k_ => some k_ ≠ (.slice A39 y437.length c39 : Value).ownBlock) HO_7.out (fun k_ hk => (by rw [HE39.out]; exact hk)))
           clear HO_7
           have HO_7 := n_
           clear n_
           have eg_ := fn_67.enters A17.out
           go_wp2_with (first | ((with_reducible refine gate_callee (f := 58) rfl ?_); refine gl_ (some 25) (Try.func58) #[.pointer (some ⟨g0, 0, none⟩), .int .i64 (rd x8_1 0)] ?_; (with_reducible refine (impl_Heap_at.calls g0 A0_0 c0_0 l0_0 A0_1 c0_1 l0_1 A0_2 c0_2 l0_2 a0_3 (rd x8_1 0) t440 _ ?side1 ?side2 ?side3 ?side4 ?side5 ?side6 ?side7 A13.out).mono ?_); (case side1 => exact (lK BK0.out)); (case side2 => exact lC (Kd.C_below HR0_0.out HB.out)); (case side3 => exact HC0_0.out); (case side4 => exact lC (Kd.C_below HR0_1.out HB.out)); (case side5 => exact HC0_1.out); (case side6 => exact lC (Kd.C_below HR0_2.out HB.out)); (case side7 => exact HC0_2.out); rintro e w40 ⟨rfl, hb⟩; refine ⟨_, rfl, ?_⟩; have n0_ := Aside0.mk (Kd.R_below (lR HO_7.out) hb); have n1_ := Aside0.mk (Kd.Q_below (by (with_reducible repeat (first | apply Kd.Q_alloc | apply Kd.Q_drewN | apply Kd.Q_drew)); exact HO439.out) hb); have n2_ := Aside0.mk (blk_below (lK BK0.out) hb); have n3_ := Aside0.mk (below_step lB hb); clear HO_7; clear HO439; clear BK0; clear HB; have HO_7 := n0_; have HO439 := n1_; have BK0 := n2_; have HB := n3_; clear n0_ n1_ n2_ n3_; (try clear hb); (try clear hb2); (try clear hk); (try clear hi); obtain ⟨hcz41_0, hfz41_0, hcz41_1, hfz41_1, hcz41_2, hfz41_2, hcz41_3, hfz41_3⟩ := bk4 BK0.out; have p441 : 0 ≤ (t440 : Int) := lD; have q441 : t440 < (l0_0.length : Int) := lD; obtain ⟨ad441, A441_2, c441_2, e441, hx441_0, hx441_1, hx441_2, hl441_2, hi441_2⟩ := at_T45 HR0_0.out t440 p441 q441; cases e441; replace hx441_0 := pw_cell_below HB.out hx441_0; replace hx441_1 := pw_cell_below HB.out hx441_1; replace hx441_2 := pw_cell_below HB.out hx441_2; have HR441_2 := Aside0.mk hi441_2; have HC441_2 := Aside0.mk hl441_2; clear hi441_2 hl441_2; replace p441 := eq_true p441; replace q441 := eq_true q441) | ((with_reducible refine (fn_67.calls a2 ((rd_T45 l0_0 t440).f0) ((rd_T45 l0_0 t440).f1) _ _ ((rd_T45 l0_0 t440).f2) false _ ?side1 ?side2 A17.out).mono ?_); (case side1 => exact lC (Kd.C_below HR441_2.out HB.out)); (case side2 => exact HC441_2.out); rintro e w42 ⟨rfl, hb⟩; have n0_ := Aside0.mk (Kd.R_below (lR HO_7.out) hb); have n1_ := Aside0.mk (Kd.Q_below (by (with_reducible repeat (first | apply Kd.Q_alloc | apply Kd.Q_drewN | apply Kd.Q_drew)); exact HO439.out) hb); have n2_ := Aside0.mk (blk_below (lK BK0.out) hb); have n3_ := Aside0.mk (below_step lB hb); clear HO_7; clear HO439; clear BK0; clear HB; have HO_7 := n0_; have HO439 := n1_; have BK0 := n2_; have HB := n3_; clear n0_ n1_ n2_ n3_; (try clear hb); (try clear hb2); (try clear hk); (try clear hi)))
           go_roundg k1
           case measure => have := HK1.out; omega
           case rel => exact ⟨(x7_1), (y437), H', ⟨by have := HK1.out; omega⟩, ⟨lR HO_7.out⟩, ⟨by (with_reducible repeat (first | apply Kd.Q_alloc | apply Kd.Q_drewN | apply Kd.Q_drew)); exact HO439.out⟩, ⟨lK BK0.out⟩, ⟨lB⟩⟩
         ·rw [if_neg c16] at H
          exact absurd H (by simp)
        ·rw [if_neg c15] at H
         exact absurd H (by simp)
       ·rw [if_neg c14] at H
        have c14b0 : decide (0 ≤ t440) = false := decide_eq_false c14
        clear c14
        have H' := Aside0.mk H
        clear H
        obtain ⟨Ao43, co43, eo43, _⟩ := Kd.Q_slice HO_8.out
        subst eo43
        have p436 : 0 ≤ (0 : Int) := (by omega)
        have q436 : 0 < (x8_1.length : Int) := lD
        obtain ⟨ad436, e436, hx436_0⟩ := Kd.at_int (Kd.Q_reads' HO_8.out).2.2 0 p436 q436
        cases e436
        have qi436 : (0 < x8_1.length) = True := eq_true (by omega)
        (try rw [show ((0 : Int)).toNat = 0 from rfl] at hx436_0)
        (try rw [Addr.add_zero'] at hx436_0)
        replace p436 := eq_true p436
        replace q436 := eq_true q436
        have q44 : (1 : Int) ≤ ((x8_1.length : Int) : Int) := lD
        obtain ⟨i044, hi044, _, hsz44, _⟩ := info_parts info3
        have hcut44 := cut_from (P := Try.prog) 23 3 .i64 Try.underlying23 hi044 1 hsz44 (some ad436) x8_1.length co43 1 (by omega) q44
        have hr44 := Kd.Q_drop (k := (1 : Int).toNat) HO_8.out (by omega)
        obtain ⟨A44, hA44⟩ : ∃ A1, A1 = (if co43 = (1 : Int).toNat then (some ad436) else ((some ad436) : Option Addr).map (·.add ((1 : Int).toNat * 1))) := ⟨_, rfl⟩
        obtain ⟨c44, hc44⟩ : ∃ c1, c1 = co43 - (1 : Int).toNat := ⟨_, rfl⟩
        have hy44 : y437.length = x8_1.length - (1 : Int).toNat := (by rw [Ny437.out, List.length_drop])
        rw [← Ny437.out] at hr44
        rw [← hy44, ← hA44, ← hc44] at hcut44
        replace hr44 : Kd.Q (Kd.int .i64) 3 wr w.heap.size (fun k_ => some k_ ≠ (u7 : Value).ownBlock) (.slice A44 y437.length c44) y437 := (by rw [hA44, hc44, hy44]; exact hr44)
        have HE44 : Aside0 ((Value.slice A44 y437.length c44).ownBlock = (.slice (some ad436) x8_1.length co43 : Value).ownBlock) := ⟨by rw [hA44]; split <;> (cases ((some ad436) : Option Addr) <;> rfl)⟩
        clear hy44 hi044 hsz44 HO_8 hA44 hc44
        have HO439 := Aside0.mk hr44
        clear hr44
        replace q44 := eq_true q44
        have n_ := Aside0.mk (Kd.R_mono (ok' := fun k_ => some k_ ≠ (.slice A44 y437.length c44 : Value).ownBlock) HO_7.out (fun k_ hk => (by rw [HE44.out]; exact hk)))
        clear HO_7
        have HO_7 := n_
        clear n_
        go_wp2_with (first | ((with_reducible refine gate_callee (f := 58) rfl ?_); refine gl_ (some 25) (Try.func58) #[.pointer (some ⟨g0, 0, none⟩), .int .i64 (rd x8_1 0)] ?_; (with_reducible refine (impl_Heap_at.calls g0 A0_0 c0_0 l0_0 A0_1 c0_1 l0_1 A0_2 c0_2 l0_2 a0_3 (rd x8_1 0) t440 _ ?side1 ?side2 ?side3 ?side4 ?side5 ?side6 ?side7 A13.out).mono ?_); (case side1 => exact (lK BK0.out)); (case side2 => exact lC (Kd.C_below HR0_0.out HB.out)); (case side3 => exact HC0_0.out); (case side4 => exact lC (Kd.C_below HR0_1.out HB.out)); (case side5 => exact HC0_1.out); (case side6 => exact lC (Kd.C_below HR0_2.out HB.out)); (case side7 => exact HC0_2.out); rintro e w45 ⟨rfl, hb⟩; refine ⟨_, rfl, ?_⟩; have n0_ := Aside0.mk (Kd.R_below (lR HO_7.out) hb); have n1_ := Aside0.mk (Kd.Q_below (by (with_reducible repeat (first | apply Kd.Q_alloc | apply Kd.Q_drewN | apply Kd.Q_drew)); exact HO439.out) hb); have n2_ := Aside0.mk (blk_below (lK BK0.out) hb); have n3_ := Aside0.mk (below_step lB hb); clear HO_7; clear HO439; clear BK0; clear HB; have HO_7 := n0_; have HO439 := n1_; have BK0 := n2_; have HB := n3_; clear n0_ n1_ n2_ n3_; (try clear hb); (try clear hb2); (try clear hk); (try clear hi)))
        go_roundg k1
        case measure => have := HK1.out; omega
        case rel => exact ⟨(x7_1), (y437), H', ⟨by have := HK1.out; omega⟩, ⟨lR HO_7.out⟩, ⟨by (with_reducible repeat (first | apply Kd.Q_alloc | apply Kd.Q_drewN | apply Kd.Q_drew)); exact HO439.out⟩, ⟨lK BK0.out⟩, ⟨lB⟩⟩
      ·rw [if_neg c12] at H
       exact absurd H (by simp)
     ·rw [if_neg c11] at H
      exact absurd H (by simp)
    ·rw [if_neg c10] at H
     have c10b0 : decide (0 < (x8_1.length : Int)) = false := decide_eq_false c10
     have c10b1 : decide (0 < x8_1.length) = false := decide_eq_false (by omega)
     clear c10
     replace H := lO H
     obtain ⟨t435, A46, H⟩ := H
     obtain rfl := Option.some.inj H
     obtain ⟨Ao47, co47, eo47, _⟩ := Kd.Q_slice HO_8.out
     subst eo47
     obtain ⟨Ao48, co48, eo48⟩ := Kd.R_slice HO_7.out
     subst eo48
     go_wp2_with (first | ((with_reducible refine gate_callee (f := 70) rfl ?_); refine gl_ (some 60) (Try.func70) #[.slice Ao48 x7_1.length co48] ?_; (with_reducible refine (slices_Sort_int_int.calls (fun k_ => some k_ = (.slice Ao48 x7_1.length co48 : Value).ownBlock) (.slice Ao48 x7_1.length co48) x7_1 t435 w _ ?side1 ?side2 A46.out).mono ?_); (case side1 => repeat (first | (with_reducible first | exact HB.out | apply below_alloc | apply pw_below_drewN | apply below_drew1 | refine below_set ?_ GE0.out) | exact HB.out)); (case side2 => exact Kd.R_tight rfl HO_7.out); rintro e w49 ⟨rfl, hy0, hb, hkp⟩; refine ⟨_, rfl, ?_⟩; have n0_ := Aside0.mk (Kd.R_reok rfl hy0 (fun k_ e_ => HO_7.out.1 k_ e_)); have n1_ := Aside0.mk (Kd.Q_mono (ok' := fun k_ => some k_ ≠ (.slice Ao48 x7_1.length co48 : Value).ownBlock) (Kd.Q_keptB (HO_8.out) hkp (fun k_ hk_ hs_ => (hk_) hs_)) (fun k_ hk_ => hk_.1)); have n2_ := Aside0.mk (blk_kept (lK BK0.out) hkp (fun hs_ => (fun e_ => (Kd.R_ne HO_7.out BK0.out (by decide)) e_) hs_)); have n3_ := Aside0.mk (hb); clear HO_7; clear HO_8; clear BK0; clear HB; have HO_7 := n0_; have HO_8 := n1_; have BK0 := n2_; have HB := n3_; clear n0_ n1_ n2_ n3_; (try clear hb); (try clear hkp); (try clear hy0)))
     go_ret
     exact ⟨_, lE, by (with_reducible repeat (first | apply Kd.R_alloc | apply Kd.R_drewN | apply Kd.R_drew)); exact Kd.R_mono HO_7.out (fun _ hk => trivial), lB⟩
 ·rw [if_neg c4] at H
  exact absurd H (by simp)

/-! ### impl_Heap_keeps: function 50 -/
def impl_Heap_keeps.l0 : Nat → List Int → List Int → Int → Int → List (S45) → List Int → List Int → Int → Option (List Int)
 | 0, _, _, _, _, _, _, _, _ => none
 | k + 1, x3, x15, x16, x17, x1000, x1001, x1002, x1003 => if x17 < x16 then (if 0 ≤ x17 then (if x17 < (x15.length : Int) then ((impl_Heap_at.f x1000 x1001 x1002 x1003 (rd x15 x17)).bind fun t458 => (if 0 ≤ t458 then (if t458 < (x1000.length : Int) then (if x3.length + ((rd_T45 x1000 t458).f2).length < 17592186044416 then (impl_Heap_keeps.l0 k (x3 ++ ((rd_T45 x1000 t458).f2)) x15 x16 (wrap64 (x17 + 1)) x1000 x1001 x1002 x1003) else (none)) else (none)) else (none))) else (none)) else (none)) else ((impl_Heap_from.f k x1000 x1001 x1002 x1003 x3 66).bind fun t463 => (some t463))
def impl_Heap_keeps.f (k : Nat) (l0_0 : List (S45)) (l0_1 : List Int) (l0_2 : List Int) (a0_3 : Int) : Option (List Int) := (some (([] : List Int) : List Int)).bind fun y451 => (if y451.length + l0_1.length < 17592186044416 then (impl_Heap_keeps.l0 k (y451 ++ l0_1) l0_2 (l0_2.length : Int) 0 l0_0 l0_1 l0_2 a0_3) else (none))
theorem impl_Heap_keeps.mono_l : ∀ k, (∀ y0 y1 y2 y3 y4 y5 y6 y7, LeO (impl_Heap_keeps.l0 k y0 y1 y2 y3 y4 y5 y6 y7) (impl_Heap_keeps.l0 (k + 1) y0 y1 y2 y3 y4 y5 y6 y7))
 | 0 => fun _ _ _ _ _ _ _ _ r h => by simp [impl_Heap_keeps.l0] at h
 | k + 1 => by
  have ih0 := impl_Heap_keeps.mono_l k
  ·intro y0 y1 y2 y3 y4 y5 y6 y7
   unfold impl_Heap_keeps.l0
   repeat' first
   | with_reducible apply ih0
   | with_reducible apply impl_Heap_from.mono
   | (with_reducible exact LeO.refl _)
   | (with_reducible exact LeO.none _)
   | (with_reducible refine LeO.ite ?_ ?_)
   | (with_reducible refine LeO.bind ?_ (fun _ => ?_))
   | apply ih0
   | apply impl_Heap_from.mono
   | exact LeO.none _
   | refine LeO.ite ?_ ?_
   | refine LeO.bind ?_ (fun _ => ?_)
theorem impl_Heap_keeps.mono : ∀ a0 a1 a2 a3 k, LeO (impl_Heap_keeps.f k a0 a1 a2 a3) (impl_Heap_keeps.f (k + 1) a0 a1 a2 a3) := by
 intro a0 a1 a2 a3 k
 have ih0 := impl_Heap_keeps.mono_l k
 unfold impl_Heap_keeps.f
 repeat' first
   | with_reducible apply ih0
   | with_reducible apply impl_Heap_from.mono
   | (with_reducible exact LeO.refl _)
   | (with_reducible exact LeO.none _)
   | (with_reducible refine LeO.ite ?_ ?_)
   | (with_reducible refine LeO.bind ?_ (fun _ => ?_))
   | apply ih0
   | apply impl_Heap_from.mono
   | exact LeO.none _
   | refine LeO.ite ?_ ?_
   | refine LeO.bind ?_ (fun _ => ?_)
def impl_Heap_keeps.T5 : Bool × List (List Nat × List Nat) := (true, [([], []), ([], []), ([1], [1]), ([2], [2]), ([3], [3]), ([], []), ([], []), ([5, 6], [5, 6]), ([4, 7], [4, 7]), ([8], [8]), ([9], [9]), ([0, 10, 7], [0, 10]), ([11, 11, 0, 1, 2, 3, 4, 5, 6, 7, 8, 9, 10, 11], [0, 11])])
def impl_Heap_keeps.B5 : List Nat := [0, 0, 2, 6, 14, 0, 0, 96, 254, 510, 1022, 2047, 4095]
theorem impl_Heap_keeps.tab5 : rtab .any (opsOf Try.f50 5) = impl_Heap_keeps.T5 := by kernel_rfl
theorem impl_Heap_keeps.bits5 : waitsOk impl_Heap_keeps.T5.2 impl_Heap_keeps.B5 = true := by kernel_rfl
set_option maxHeartbeats 8000000 in
set_option maxRecDepth 100000 in
theorem impl_Heap_keeps.calls (k : Nat) (g0 : Nat) (A0_0 : Option Addr) (c0_0 : Nat) (l0_0 : List (S45)) (A0_1 : Option Addr) (c0_1 : Nat) (l0_1 : List Int) (A0_2 : Option Addr) (c0_2 : Nat) (l0_2 : List Int) (a0_3 : Int) (r : List Int) (w : World) (hb0 : w.heap[g0]? = some (.cells #[.slice A0_0 l0_0.length c0_0, .slice A0_1 l0_1.length c0_1, .slice A0_2 l0_2.length c0_2, .int .i64 a0_3] 25 (0, 0))) (hr0_0 : Kd.C k45 w A0_0 l0_0.length l0_0) (hc0_0 : l0_0.length ≤ c0_0) (hr0_1 : Kd.C (Kd.int .i64) w A0_1 l0_1.length l0_1) (hc0_1 : l0_1.length ≤ c0_1) (hr0_2 : Kd.C (Kd.int .i64) w A0_2 l0_2.length l0_2) (hc0_2 : l0_2.length ≤ c0_2) (h : impl_Heap_keeps.f k l0_0 l0_1 l0_2 a0_3 = some r) :
  Calls Try.prog 50 #[.pointer (some ⟨g0, 0, none⟩)] w fun e w' => ∃ v0_ : Value, e = .returned (v0_) ∧ Kd.R (Kd.int .i64) 3 w' w.heap.size (fun _ => True) v0_ r ∧ Below w.heap.size w w' := by
 have HR0_0 := Aside0.mk hr0_0
 have HC0_0 := Aside0.mk hc0_0
 clear hr0_0 hc0_0
 have HR0_1 := Aside0.mk hr0_1
 have HC0_1 := Aside0.mk hc0_1
 clear hr0_1 hc0_1
 have HR0_2 := Aside0.mk hr0_2
 have HC0_2 := Aside0.mk hc0_2
 clear hr0_2 hc0_2
 have BK0 := Aside0.mk hb0
 clear hb0
 have HB := Aside0.mk (Below.refl w.heap.size w)
 have H : ((some (([] : List Int) : List Int)).bind fun y451 => (if y451.length + l0_1.length < 17592186044416 then (impl_Heap_keeps.l0 k (y451 ++ l0_1) l0_2 (l0_2.length : Int) 0 l0_0 l0_1 l0_2 a0_3) else (none))) = some r := h
 clear h
 obtain ⟨y451, hy451⟩ : ∃ y_ : List Int, y_ = (([] : List Int)) := ⟨_, rfl⟩
 replace H : (if y451.length + l0_1.length < 17592186044416 then (impl_Heap_keeps.l0 k (y451 ++ l0_1) l0_2 (l0_2.length : Int) 0 l0_0 l0_1 l0_2 a0_3) else (none)) = some r := by first | (rw [hy451]; with_reducible exact H) | (have H2_ := (Option.bind_some _ _).symm.trans H; rw [hy451]; with_reducible exact H2_) | (have H2_ := (Option.bind_some _ _).symm.trans H; with_reducible exact H2_) | with_reducible exact H | (rw [hy451]; exact H) | exact H
 have Ny451 := Aside0.mk hy451
 clear hy451
 by_cases c2 : y451.length + l0_1.length < 17592186044416
 ·rw [if_pos c2] at H
  have LMc2 := Aside0.mk c2
  clear c2
  obtain ⟨y454, hy454⟩ : ∃ y_ : List Int, y_ = (y451 ++ l0_1) := ⟨_, rfl⟩
  replace H : (impl_Heap_keeps.l0 k y454 l0_2 (l0_2.length : Int) 0 l0_0 l0_1 l0_2 a0_3) = some r := by first | (rw [hy454]; with_reducible exact H) | (have H2_ := (Option.bind_some _ _).symm.trans H; rw [hy454]; with_reducible exact H2_) | (have H2_ := (Option.bind_some _ _).symm.trans H; with_reducible exact H2_) | with_reducible exact H | (rw [hy454]; exact H) | exact H
  have Ny454 := Aside0.mk hy454
  clear hy454
  have H' := Aside0.mk H
  clear H
  go_enter Try.func50, Try.ntmps50
  go_wp2_with (first | ((with_reducible refine gate_dst (N := 6) rfl ?_); refine Kd.R_lit (Kd.int .i64) _ 3 ?hg (N := 6) ?hd (xs := ([] : List Int)) (inner := []) (ok := fun _ => True) (okp := fun _ => True) ?hr ?hp (fun _ hk => hk) trivial (Below.refl _ _) (Nat.le_refl _) (by simp) ?_; (case hd => rfl); (case hg => rfl); (case hr => first | (go_simp; done) | (go_simp; rfl)); (case hp => exact (Reps.none _ _)); intro v452 w3 ho4 hb hg_ hnew_; clear hg_ hnew_; (first | rw [← Ny451.out] at ho4 | (simp only [Int.reduceToNat] at ho4; rw [← Ny451.out] at ho4)); have n0_ := Aside0.mk (Kd.R_lower ho4 (below_size lB)); have n1_ := Aside0.mk (blk_below (lK BK0.out) hb); have n2_ := Aside0.mk (below_step lB hb); clear BK0; clear HB; have HO453 := n0_; have BK0 := n1_; have HB := n2_; clear n0_ n1_ n2_; clear hb ho4; obtain ⟨hcz5_0, hfz5_0, hcz5_1, hfz5_1, hcz5_2, hfz5_2, hcz5_3, hfz5_3⟩ := bk4 BK0.out) | ((with_reducible refine gate_builtin (b := .append) (xs := #[.tmp 6, .tmp 10]) rfl ?_); at_builtin; refine Kd.R_append_rows (Kd.int .i64) (w0 := w) w.heap.size rfl (.tmp 6) (.tmp 10) 23 3 (.int .i64 0) 8 rfl Try.underlying23 info3 rfl (by decide) (by omega) v452 y451 l0_1 _ _ _ (fun _ => True) (fun _ => False) rfl rfl ?aO ?aR (fun _ _ h => h) (fun _ h => h.elim) ?aF ?aB ?aS ?aL ?_; (case aR => exact lC (Kd.C_below HR0_1.out HB.out)); (case aB => exact lB); (case aF => exact (fun _ _ => trivial)); (case aO => exact (lR HO453.out)); (case aS => exact (below_size lB)); (case aL => have := LMc2.out; omega); intro v455 w6 ho hb hg hat; rw [← Ny454.out] at ho; have n0_ := Aside0.mk (blk_grown (lK BK0.out) hg (Kd.R_ne HO453.out BK0.out (by decide))); have n1_ := Aside0.mk (hb); have n2_ := Aside0.mk (ho); clear BK0; clear HB; clear HO453; have BK0 := n0_; have HB := n1_; have HO456 := n2_; clear n0_ n1_ n2_; clear ho hb hg hat; obtain ⟨hcz7_0, hfz7_0, hcz7_1, hfz7_1, hcz7_2, hfz7_2, hcz7_3, hfz7_3⟩ := bk4 BK0.out))
  go_loopg [3, 17] k (fun kq v3 v17 w' => ∃ (x3_1 : List Int) (x17_1 : Int), v17 = .int .i64 x17_1 ∧ Aside0 (impl_Heap_keeps.l0 kq x3_1 l0_2 (l0_2.length : Int) x17_1 l0_0 l0_1 l0_2 a0_3 = some r) ∧ Aside0 (kq ≤ k) ∧ Aside0 (Kd.R (Kd.int .i64) 3 w' w.heap.size (fun _ => True) v3 x3_1) ∧ Aside0 (w'.heap[g0]? = some (.cells #[(.slice A0_0 l0_0.length c0_0), (.slice A0_1 l0_1.length c0_1), (.slice A0_2 l0_2.length c0_2), .int .i64 a0_3] 25 (0, 0))) ∧ Aside0 (Below w.heap.size w w'))
  case atStart => exact ⟨(y454), (0), lF, H', ⟨Nat.le_refl _⟩, ⟨lR HO456.out⟩, ⟨lK BK0.out⟩, ⟨lB⟩⟩
  case round =>
   clear H'
   try clear c2
   try clear p2
   try clear c5
   try clear hcz5_0 hcz5_1 hcz5_2 hcz5_3
   try clear hcz7_0 hcz7_1 hcz7_2 hcz7_3
   try clear hfz5_0 hfz5_1 hfz5_2 hfz5_3
   try clear hfz7_0 hfz7_1 hfz7_2 hfz7_3
   obtain ⟨x3_1, x17_1, rfl, HA, HK1, HO_3, BK0, HB⟩ := hrel
   cases gk with
   | zero => exact absurd HA.out (by simp [impl_Heap_keeps.l0])
   | succ k1 =>
    have H := HA.out
    clear HA
    simp only [impl_Heap_keeps.l0] at H
    by_cases c8 : x17_1 < (l0_2.length : Int)
    ·rw [if_pos c8] at H
     have c8b0 : decide (x17_1 < (l0_2.length : Int)) = true := decide_eq_true c8
     clear c8
     by_cases c9 : 0 ≤ x17_1
     ·rw [if_pos c9] at H
      have c9b0 : decide (0 ≤ x17_1) = true := decide_eq_true c9
      clear c9
      by_cases c10 : x17_1 < (l0_2.length : Int)
      ·rw [if_pos c10] at H
       have c10b0 : decide (x17_1 < (l0_2.length : Int)) = true := decide_eq_true c10
       clear c10
       replace H := lO H
       obtain ⟨t458, A11, H⟩ := H
       by_cases c12 : 0 ≤ t458
       ·rw [if_pos c12] at H
        have c12b0 : decide (0 ≤ t458) = true := decide_eq_true c12
        clear c12
        by_cases c13 : t458 < (l0_0.length : Int)
        ·rw [if_pos c13] at H
         have c13b0 : decide (t458 < (l0_0.length : Int)) = true := decide_eq_true c13
         clear c13
         by_cases c14 : x3_1.length + ((rd_T45 l0_0 t458).f2).length < 17592186044416
         ·rw [if_pos c14] at H
          have LMc14 := Aside0.mk c14
          clear c14
          obtain ⟨y460, hy460⟩ : ∃ y_ : List Int, y_ = (x3_1 ++ ((rd_T45 l0_0 t458).f2)) := ⟨_, rfl⟩
          replace H : (impl_Heap_keeps.l0 k1 y460 l0_2 (l0_2.length : Int) (wrap64 (x17_1 + 1)) l0_0 l0_1 l0_2 a0_3) = some r := by first | (rw [hy460]; with_reducible exact H) | (have H2_ := (Option.bind_some _ _).symm.trans H; rw [hy460]; with_reducible exact H2_) | (have H2_ := (Option.bind_some _ _).symm.trans H; with_reducible exact H2_) | with_reducible exact H | (rw [hy460]; exact H) | exact H
          have Ny460 := Aside0.mk hy460
          clear hy460
          have H' := Aside0.mk H
          clear H
          have p457 : 0 ≤ (x17_1 : Int) := lD
          have q457 : x17_1 < (l0_2.length : Int) := lD
          obtain ⟨ad457, e457, hx457_0⟩ := Kd.at_int HR0_2.out x17_1 p457 q457
          cases e457
          replace hx457_0 := pw_cell_below HB.out hx457_0
          replace p457 := eq_true p457
          replace q457 := eq_true q457
          try go_wp2
          have n0_ := Aside0.mk (Kd.R_drew HO_3.out)
          have n1_ := Aside0.mk (blk_drew BK0.out)
          have n2_ := Aside0.mk (below_drew1 HB.out)
          clear HO_3
          clear BK0
          clear HB
          have HO_3 := n0_
          have BK0 := n1_
          have HB := n2_
          clear n0_ n1_ n2_
          have p459 : 0 ≤ (t458 : Int) := lD
          have q459 : t458 < (l0_0.length : Int) := lD
          obtain ⟨ad459, A459_2, c459_2, e459, hx459_0, hx459_1, hx459_2, hl459_2, hi459_2⟩ := at_T45 HR0_0.out t458 p459 q459
          have hw459_2 := hx459_2
          have hw459_1 := hx459_1
          have hw459_0 := hx459_0
          cases e459
          replace hx459_0 := pw_cell_below HB.out hx459_0
          replace hx459_1 := pw_cell_below HB.out hx459_1
          replace hx459_2 := pw_cell_below HB.out hx459_2
          have HR459_2 := Aside0.mk hi459_2
          have HC459_2 := Aside0.mk hl459_2
          clear hi459_2 hl459_2
          replace p459 := eq_true p459
          replace q459 := eq_true q459
          refine start_ (n := 13) (S := fun w' => w'.cell? ⟨g0, 0, none⟩ = some (.slice (some ad459) l0_0.length c0_0) ∧ w'.cell? ⟨g0, 1, none⟩ = some (.slice A0_1 l0_1.length c0_1) ∧ w'.cell? ⟨g0, 2, none⟩ = some (.slice (some ad457) l0_2.length c0_2) ∧ w'.cell? ⟨g0, 3, none⟩ = some (.int .i64 a0_3) ∧ w'.cell? (ad459.add ((t458).toNat * 3)) = some (.int .i64 ((rd_T45 l0_0 t458).f0)) ∧ w'.cell? ⟨(ad459.add ((t458).toNat * 3)).block, (ad459.add ((t458).toNat * 3)).off + 1, none⟩ = some (.bool ((rd_T45 l0_0 t458).f1)) ∧ w'.cell? ⟨(ad459.add ((t458).toNat * 3)).block, (ad459.add ((t458).toNat * 3)).off + 2, none⟩ = some (.slice A459_2 ((rd_T45 l0_0 t458).f2).length c459_2)) (ds := []) (bs 13 0) kR rfl kR ⟨bZ BK0.out 0, bZ BK0.out 1, bZ BK0.out 2, bZ BK0.out 3, ((HB.out.cell (World.block_lt_of_cell? w _ hw459_0)).trans hw459_0), ((HB.out.cell (World.block_lt_of_cell? w _ hw459_1)).trans hw459_1), ((HB.out.cell (World.block_lt_of_cell? w _ hw459_2)).trans hw459_2)⟩ (fun hHeld => ?_); refine with_tabW impl_Heap_keeps.tab5 impl_Heap_keeps.bits5 (fun HT_ HW_ => ?_)
          generalize wr.drew = w15 at HO_3 BK0 HB HR459_2 hx459_0 hx459_1 hx459_2 hHeld ⊢
          refine pur_ 0 21 (bs 13 1) (any_of HT_.out kR) ?_
          refine pur_ 1 22 (bs 13 3) (any_of HT_.out kR) ?_
          refine pur_ 2 23 (bs 13 7) (any_of HT_.out kR) ?_
          refine pur_ 3 24 (bs 13 15) (any_of HT_.out kR) ?_
          refine pur_ 5 26 (bs 13 47) (any_of HT_.out kR) ?_
          refine pur_ 6 27 (bs 13 111) (any_of HT_.out kR) ?_
          refine tak_ 4 25 (bs 13 127) (take_ofW HT_.out HW_.out kR) hHeld ?_
          refine one_ (i := 7) (N := some 28) (bs 13 255) rfl rfl (one_of HT_.out (by kernel_rfl)) (by decide) (fun K hK => ?_)
          refine goes_ Try.func58 (by kernel_rfl) rfl #[.pointer (some ⟨g0, 0, none⟩), .int .i64 (rd l0_2 x17_1)] (by rfl) rfl rfl (by (try simp only [List.map_toArray, List.map_cons, List.map_nil]); first | done | rfl | (simp only [List.length_drop, List.length_take]; rfl)) ?_
          with_reducible refine (impl_Heap_at.calls g0 (some ad459) c0_0 l0_0 A0_1 c0_1 l0_1 (some ad457) c0_2 l0_2 a0_3 (rd l0_2 x17_1) t458 _ ?side1 ?side2 ?side3 ?side4 ?side5 ?side6 ?side7 A11.out).mono ?_
          (case side1 => exact (lK BK0.out))
          (case side2 => exact lC (Kd.C_below HR0_0.out HB.out))
          (case side3 => exact HC0_0.out)
          (case side4 => exact lC (Kd.C_below HR0_1.out HB.out))
          (case side5 => exact HC0_1.out)
          (case side6 => exact lC (Kd.C_below HR0_2.out HB.out))
          (case side7 => exact HC0_2.out)
          rintro e w16 ⟨rfl, hb⟩
          refine ⟨_, rfl, ?_⟩
          have n0_ := Aside0.mk (Kd.R_below (lR HO_3.out) hb)
          have n1_ := Aside0.mk (blk_below (lK BK0.out) hb)
          have n2_ := Aside0.mk (below_step lB hb)
          clear HO_3
          clear BK0
          clear HB
          have HO_3 := n0_
          have BK0 := n1_
          have HB := n2_
          clear n0_ n1_ n2_
          (try clear hb)
          (try clear hb2)
          (try clear hk)
          (try clear hi)
          refine hK.out _ _ ⟨bZ BK0.out 0, bZ BK0.out 1, bZ BK0.out 2, bZ BK0.out 3, ((HB.out.cell (World.block_lt_of_cell? w _ hw459_0)).trans hw459_0), ((HB.out.cell (World.block_lt_of_cell? w _ hw459_1)).trans hw459_1), ((HB.out.cell (World.block_lt_of_cell? w _ hw459_2)).trans hw459_2)⟩ (fun hHeld => ?_)
          clear hK K
          refine norm_ (a' := ?_) ?_ ?_
          rotate_left
          ·show Act.put _ (some 28) _ = _
           simp only [Act.put, List.setIfInBounds_toArray, List.set_cons_zero, List.set_cons_succ, i64_w, i32_w]
           rfl
          refine pur_ 8 29 (bs 13 511) (any_of HT_.out kR) ?_
          refine pur_ 9 30 (bs 13 1023) (any_of HT_.out kR) ?_
          refine tak_ 10 31 (bs 13 2047) (take_ofW HT_.out HW_.out kR) hHeld ?_
          refine one_ (i := 11) (N := some 32) (bs 13 4095) rfl rfl (one_of HT_.out (by kernel_rfl)) (by decide) (fun K hK => ?_)
          refine Kd.R_append_rows_step (Kd.int .i64) (w0 := w) w.heap.size (by rfl) (.tmp 21) (.tmp 31) 23 3 (.int .i64 0) 8 rfl Try.underlying23 info3 rfl (by decide) (by omega) u3 x3_1 ((rd_T45 l0_0 t458).f2) _ _ _ (fun _ => True) (fun _ => False) rfl rfl ?aO ?aR (fun _ _ h => h) (fun _ h => h.elim) ?aF ?aB ?aS ?aL ?_
          (case aR => exact lC (Kd.C_below HR459_2.out HB.out))
          (case aB => exact lB)
          (case aF => exact (fun _ _ => trivial))
          (case aO => exact (lR HO_3.out))
          (case aS => exact (below_size lB))
          (case aL => have := LMc14.out; omega)
          intro v461 w17 ho hb hg hat
          rw [← Ny460.out] at ho
          have n0_ := Aside0.mk (blk_grown (lK BK0.out) hg (Kd.R_ne HO_3.out BK0.out (by decide)))
          have n1_ := Aside0.mk (hb)
          have n2_ := Aside0.mk (ho)
          clear BK0
          clear HB
          clear HO_3
          have BK0 := n0_
          have HB := n1_
          have HO462 := n2_
          clear n0_ n1_ n2_
          clear ho hb hg hat
          refine hK.out _ _ ⟨bZ BK0.out 0, bZ BK0.out 1, bZ BK0.out 2, bZ BK0.out 3, ((HB.out.cell (World.block_lt_of_cell? w _ hw459_0)).trans hw459_0), ((HB.out.cell (World.block_lt_of_cell? w _ hw459_1)).trans hw459_1), ((HB.out.cell (World.block_lt_of_cell? w _ hw459_2)).trans hw459_2)⟩ (fun hHeld => ?_)
          clear hK K
          refine norm_ (a' := ?_) ?_ ?_
          rotate_left
          ·show Act.put _ (some 32) _ = _
           simp only [Act.put, List.setIfInBounds_toArray, List.set_cons_zero, List.set_cons_succ, i64_w, i32_w]
           rfl
          refine pur_ 12 3 (bs 13 8191) (any_of HT_.out kR) ?_
          refine done_ (done_of HT_.out (by kernel_rfl)) ?_
          try go_wp2
          go_roundg k1
          case measure => have := HK1.out; omega
          case rel => exact ⟨(y460), (wrap64 (x17_1 + 1)), lF, H', ⟨by have := HK1.out; omega⟩, ⟨lR HO462.out⟩, ⟨lK BK0.out⟩, ⟨lB⟩⟩
         ·rw [if_neg c14] at H
          exact absurd H (by simp)
        ·rw [if_neg c13] at H
         exact absurd H (by simp)
       ·rw [if_neg c12] at H
        exact absurd H (by simp)
      ·rw [if_neg c10] at H
       exact absurd H (by simp)
     ·rw [if_neg c9] at H
      exact absurd H (by simp)
    ·rw [if_neg c8] at H
     have c8b0 : decide (x17_1 < (l0_2.length : Int)) = false := decide_eq_false c8
     clear c8
     replace H := lO H
     obtain ⟨t463, A18, H⟩ := H
     obtain rfl := Option.some.inj H
     obtain ⟨Ao19, co19, eo19⟩ := Kd.R_slice HO_3.out
     subst eo19
     go_wp2_with (first | ((with_reducible refine gate_callee (f := 64) rfl ?_); refine gl_ (some 36) (Try.func64) #[.pointer (some ⟨g0, 0, none⟩), .slice Ao19 x3_1.length co19, .func (.func 66) #[] #[]] ?_; (with_reducible refine (impl_Heap_from.calls k1 g0 A0_0 c0_0 l0_0 A0_1 c0_1 l0_1 A0_2 c0_2 l0_2 a0_3 _ _ x3_1 66 t463 _ ?side1 ?side2 ?side3 ?side4 ?side5 ?side6 ?side7 ?side8 ?side9 A18.out).mono ?_); (case side1 => exact (lK BK0.out)); (case side2 => exact lC (Kd.C_below HR0_0.out HB.out)); (case side3 => exact HC0_0.out); (case side4 => exact lC (Kd.C_below HR0_1.out HB.out)); (case side5 => exact HC0_1.out); (case side6 => exact lC (Kd.C_below HR0_2.out HB.out)); (case side7 => exact HC0_2.out); (case side8 => repeat (first | exact (Kd.R_reads' HO_3.out).2.2 | (with_reducible refine Kd.C_alloc ?_ _) | (with_reducible refine Kd.C_drewN ?_ _) | (with_reducible refine Kd.C_drew ?_))); (case side9 => exact (Kd.R_reads' HO_3.out).2.1); rintro e w20 ⟨v464, rfl, ho0, hb⟩; refine ⟨_, rfl, ?_⟩; have n0_ := Aside0.mk (Kd.R_elder' (lR HO_3.out) (Kd.R_base ho0) hb); have n1_ := Aside0.mk (Kd.R_lower (Kd.R_new' ho0 (Kd.R_lt (lR HO_3.out))) (below_size lB)); have n2_ := Aside0.mk (blk_below (lK BK0.out) hb); have n3_ := Aside0.mk (below_step lB hb); clear HO_3; clear BK0; clear HB; have HO_3 := n0_; have HO465 := n1_; have BK0 := n2_; have HB := n3_; clear n0_ n1_ n2_ n3_; (try clear hb); (try clear hb2); (try clear hk); (try clear hi); (try clear ho0)))
     go_ret
     exact ⟨_, lE, by (with_reducible repeat (first | apply Kd.R_alloc | apply Kd.R_drewN | apply Kd.R_drew)); exact Kd.R_mono HO465.out (fun _ hk => trivial), lB⟩
 ·rw [if_neg c2] at H
  exact absurd H (by simp)

/-! ### impl_MinorKeeps: function 28 -/
def impl_MinorKeeps.f (k : Nat) (l0_0 : List (S45)) (l0_1 : List Int) (l0_2 : List Int) (a0_3 : Int) : Option (List Int × Bool) := (impl_isHeap.f k l0_0 l0_1 l0_2 a0_3).bind fun t467 => (if t467 = true then ((impl_Heap_keeps.f k l0_0 l0_1 l0_2 a0_3).bind fun t468 => (some (t468, true))) else (some (([] : List Int), false)))
theorem impl_MinorKeeps.mono : ∀ a0 a1 a2 a3 k, LeO (impl_MinorKeeps.f k a0 a1 a2 a3) (impl_MinorKeeps.f (k + 1) a0 a1 a2 a3) := by
 intro a0 a1 a2 a3 k
 unfold impl_MinorKeeps.f
 repeat' first
   | with_reducible apply impl_Heap_keeps.mono
   | with_reducible apply impl_isHeap.mono
   | (with_reducible exact LeO.refl _)
   | (with_reducible exact LeO.none _)
   | (with_reducible refine LeO.ite ?_ ?_)
   | (with_reducible refine LeO.bind ?_ (fun _ => ?_))
   | apply impl_Heap_keeps.mono
   | apply impl_isHeap.mono
   | exact LeO.none _
   | refine LeO.ite ?_ ?_
   | refine LeO.bind ?_ (fun _ => ?_)
set_option maxHeartbeats 8000000 in
set_option maxRecDepth 100000 in
theorem impl_MinorKeeps.calls (k : Nat) (A0_0 : Option Addr) (c0_0 : Nat) (l0_0 : List (S45)) (A0_1 : Option Addr) (c0_1 : Nat) (l0_1 : List Int) (A0_2 : Option Addr) (c0_2 : Nat) (l0_2 : List Int) (a0_3 : Int) (r1 : List Int) (r2 : Bool) (w : World) (hr0_0 : Kd.C k45 w A0_0 l0_0.length l0_0) (hc0_0 : l0_0.length ≤ c0_0) (hr0_1 : Kd.C (Kd.int .i64) w A0_1 l0_1.length l0_1) (hc0_1 : l0_1.length ≤ c0_1) (hr0_2 : Kd.C (Kd.int .i64) w A0_2 l0_2.length l0_2) (hc0_2 : l0_2.length ≤ c0_2) (h : impl_MinorKeeps.f k l0_0 l0_1 l0_2 a0_3 = some (r1, r2)) :
  Calls Try.prog 28 #[.agg #[.slice A0_0 l0_0.length c0_0, .slice A0_1 l0_1.length c0_1, .slice A0_2 l0_2.length c0_2, .int .i64 a0_3]] w fun e w' => ∃ v0_ : Value, e = .returned (.tuple #[v0_, .bool r2]) ∧ Kd.R (Kd.int .i64) 3 w' w.heap.size (fun _ => True) v0_ r1 ∧ Below w.heap.size w w' := by
 have hu25 := Try.underlying25
 have HR0_0 := Aside0.mk hr0_0
 have HC0_0 := Aside0.mk hc0_0
 clear hr0_0 hc0_0
 have HR0_1 := Aside0.mk hr0_1
 have HC0_1 := Aside0.mk hc0_1
 clear hr0_1 hc0_1
 have HR0_2 := Aside0.mk hr0_2
 have HC0_2 := Aside0.mk hc0_2
 clear hr0_2 hc0_2
 have HB := Aside0.mk (Below.refl w.heap.size w)
 have H : ((impl_isHeap.f k l0_0 l0_1 l0_2 a0_3).bind fun t467 => (if t467 = true then ((impl_Heap_keeps.f k l0_0 l0_1 l0_2 a0_3).bind fun t468 => (some (t468, true))) else (some (([] : List Int), false)))) = some (r1, r2) := h
 clear h
 replace H := lO H
 obtain ⟨t467, A2, H⟩ := H
 by_cases c3 : t467 = true
 ·subst c3
  rw [if_pos rfl] at H
  replace H := lO H
  obtain ⟨t468, A4, H⟩ := H
  simp only [Option.some.injEq, Prod.mk.injEq] at H
  obtain ⟨rfl, rfl⟩ := H
  go_enter Try.func28, Try.ntmps28
  go_wp2_with (first | ((with_reducible refine gate_dst (N := 1) rfl ?_); refine bxe 1 #[.slice A0_0 l0_0.length c0_0, .slice A0_1 l0_1.length c0_1, .slice A0_2 l0_2.length c0_2, .int .i64 a0_3] 25 ?_; intro gb466 hg w5 hbox hb; have n0_ := Aside0.mk (below_step lB hb); have n1_ := Aside0.mk (hbox); have n2_ := lG w hg; have n3_ := lG w hg; clear HB; have HB := n0_; have BK466 := n1_; have GW466 := n2_; have GE466 := n3_; clear n0_ n1_ n2_ n3_; clear hb hbox hg; obtain ⟨hcz6_0, hfz6_0, hcz6_1, hfz6_1, hcz6_2, hfz6_2, hcz6_3, hfz6_3⟩ := bk4 BK466.out) | ((with_reducible refine gate_callee (f := 42) rfl ?_); refine gl_ (some 5) (Try.func42) #[.agg #[.slice A0_0 l0_0.length c0_0, .slice A0_1 l0_1.length c0_1, .slice A0_2 l0_2.length c0_2, .int .i64 a0_3]] ?_; (with_reducible refine (impl_isHeap.calls k _ _ l0_0 _ _ l0_1 _ _ l0_2 a0_3 true _ ?side1 ?side2 ?side3 ?side4 ?side5 ?side6 A2.out).mono ?_); (case side1 => exact lC (Kd.C_below HR0_0.out HB.out)); (case side2 => exact HC0_0.out); (case side3 => exact lC (Kd.C_below HR0_1.out HB.out)); (case side4 => exact HC0_1.out); (case side5 => exact lC (Kd.C_below HR0_2.out HB.out)); (case side6 => exact HC0_2.out); rintro e w7 ⟨rfl, hb⟩; refine ⟨_, rfl, ?_⟩; have n0_ := Aside0.mk (blk_below (lK BK466.out) hb); have n1_ := Aside0.mk (below_step lB hb); clear BK466; clear HB; have BK466 := n0_; have HB := n1_; clear n0_ n1_; (try clear hb); (try clear hb2); (try clear hk); (try clear hi)) | ((with_reducible refine gate_callee (f := 50) rfl ?_); refine gl_ (some 7) (Try.func50) #[.pointer (some ⟨gb466, 0, none⟩)] ?_; (with_reducible refine (impl_Heap_keeps.calls k gb466 A0_0 c0_0 l0_0 A0_1 c0_1 l0_1 A0_2 c0_2 l0_2 a0_3 t468 _ ?side1 ?side2 ?side3 ?side4 ?side5 ?side6 ?side7 A4.out).mono ?_); (case side1 => exact (lK BK466.out)); (case side2 => exact lC (Kd.C_below HR0_0.out HB.out)); (case side3 => exact HC0_0.out); (case side4 => exact lC (Kd.C_below HR0_1.out HB.out)); (case side5 => exact HC0_1.out); (case side6 => exact lC (Kd.C_below HR0_2.out HB.out)); (case side7 => exact HC0_2.out); rintro e w8 ⟨v469, rfl, ho0, hb⟩; refine ⟨_, rfl, ?_⟩; have n0_ := Aside0.mk (Kd.R_lower ho0 (below_size lB)); have n1_ := Aside0.mk (blk_below (lK BK466.out) hb); have n2_ := Aside0.mk (below_step lB hb); clear BK466; clear HB; have HO470 := n0_; have BK466 := n1_; have HB := n2_; clear n0_ n1_ n2_; (try clear hb); (try clear hb2); (try clear hk); (try clear hi); (try clear ho0)))
  go_ret2
  exact ⟨_, lE, lR HO470.out, lB⟩
 ·replace c3 := Bool.eq_false_iff.mpr c3
  subst c3
  rw [if_neg (show ¬ (false = true) by decide)] at H
  simp only [Option.some.injEq, Prod.mk.injEq] at H
  obtain ⟨rfl, rfl⟩ := H
  go_enter Try.func28, Try.ntmps28
  go_wp2_with (first | ((with_reducible refine gate_dst (N := 1) rfl ?_); refine bxe 1 #[.slice A0_0 l0_0.length c0_0, .slice A0_1 l0_1.length c0_1, .slice A0_2 l0_2.length c0_2, .int .i64 a0_3] 25 ?_; intro gb466 hg w9 hbox hb; have n0_ := Aside0.mk (below_step lB hb); have n1_ := Aside0.mk (hbox); have n2_ := lG w hg; have n3_ := lG w hg; clear HB; have HB := n0_; have BK466 := n1_; have GW466 := n2_; have GE466 := n3_; clear n0_ n1_ n2_ n3_; clear hb hbox hg; obtain ⟨hcz10_0, hfz10_0, hcz10_1, hfz10_1, hcz10_2, hfz10_2, hcz10_3, hfz10_3⟩ := bk4 BK466.out) | ((with_reducible refine gate_callee (f := 42) rfl ?_); refine gl_ (some 5) (Try.func42) #[.agg #[.slice A0_0 l0_0.length c0_0, .slice A0_1 l0_1.length c0_1, .slice A0_2 l0_2.length c0_2, .int .i64 a0_3]] ?_; (with_reducible refine (impl_isHeap.calls k _ _ l0_0 _ _ l0_1 _ _ l0_2 a0_3 false _ ?side1 ?side2 ?side3 ?side4 ?side5 ?side6 A2.out).mono ?_); (case side1 => exact lC (Kd.C_below HR0_0.out HB.out)); (case side2 => exact HC0_0.out); (case side3 => exact lC (Kd.C_below HR0_1.out HB.out)); (case side4 => exact HC0_1.out); (case side5 => exact lC (Kd.C_below HR0_2.out HB.out)); (case side6 => exact HC0_2.out); rintro e w11 ⟨rfl, hb⟩; refine ⟨_, rfl, ?_⟩; have n0_ := Aside0.mk (blk_below (lK BK466.out) hb); have n1_ := Aside0.mk (below_step lB hb); clear BK466; clear HB; have BK466 := n0_; have HB := n1_; clear n0_ n1_; (try clear hb); (try clear hb2); (try clear hk); (try clear hi)))
  go_ret2
  exact ⟨_, lE, by first | exact Kd.R_nil _ _ _ _ _ | exact Kd.N_nil _ _ _ _ _ | exact Kd.V_nil _ _ _ _ _ | exact Kd.Q_nil _ _ _ _ _ | exact Kd.S_nil _ _ _ _ _, lB⟩

-- NOT PRINTED: function 8 (laws_FnExactMinorKeeps)

end Go.Proofs.Ytnocadhibajaoaa.Q
