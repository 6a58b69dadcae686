-- Written by the program wip/tools/pr.py of this claim's session, over the kit's print.py.
import Derived.Test.YtpnhlccdhflogaaQx0
import Derived.Test.YtpnhlccdhflogaaQx5
import Derived.Test.YtpnhlccdhflogaaQx6
namespace Go.Proofs.Ytpnhlccdhflogaa.Q
open Go.RowKit Go.Proofs.YtpnhlccdhflogaaW.PrintWords Go.Proofs.YtpnhlccdhflogaaW.PrintLast Go.Proofs.YtpnhlccdhflogaaW.PrintMore
attribute [local go_sem] max2_int min2_int max_two min_two max_three min_three max_four min_four   -- for this text's walks alone
set_option linter.unusedVariables false
set_option linter.unusedSimpArgs false

/-! ### slices_Index_int_int: function 79 -/
def slices_Index_int_int.l0 : Nat → List Int → Int → Int → Int → Option (Int)
 | 0, _, _, _, _ => none
 | k + 1, x0, x1, x7, x8 => if x8 < x7 then (if 0 ≤ x8 then (if x8 < (x0.length : Int) then (if x1 = (rd x0 x8) then (some x8) else (slices_Index_int_int.l0 k x0 x1 x7 (wrap64 (x8 + 1)))) else (none)) else (none)) else (some (-1))
def slices_Index_int_int.f (k : Nat) (l0 : List Int) (a1 : Int) : Option (Int) := slices_Index_int_int.l0 k l0 a1 (l0.length : Int) 0
theorem slices_Index_int_int.mono_l : ∀ k, (∀ y0 y1 y2 y3, LeO (slices_Index_int_int.l0 k y0 y1 y2 y3) (slices_Index_int_int.l0 (k + 1) y0 y1 y2 y3))
 | 0 => fun _ _ _ _ r h => by simp [slices_Index_int_int.l0] at h
 | k + 1 => by
  have ih0 := slices_Index_int_int.mono_l k
  ·intro y0 y1 y2 y3
   unfold slices_Index_int_int.l0
   repeat' first
   | with_reducible apply ih0
   | (with_reducible exact LeO.refl _)
   | (with_reducible exact LeO.none _)
   | (with_reducible refine LeO.ite ?_ ?_)
   | (with_reducible refine LeO.bind ?_ (fun _ => ?_))
   | apply ih0
   | exact LeO.none _
   | refine LeO.ite ?_ ?_
   | refine LeO.bind ?_ (fun _ => ?_)
theorem slices_Index_int_int.mono : ∀ a0 a1 k, LeO (slices_Index_int_int.f k a0 a1) (slices_Index_int_int.f (k + 1) a0 a1) := by
 intro a0 a1 k
 have ih0 := slices_Index_int_int.mono_l k
 unfold slices_Index_int_int.f
 repeat' first
   | with_reducible apply ih0
   | (with_reducible exact LeO.refl _)
   | (with_reducible exact LeO.none _)
   | (with_reducible refine LeO.ite ?_ ?_)
   | (with_reducible refine LeO.bind ?_ (fun _ => ?_))
   | apply ih0
   | exact LeO.none _
   | refine LeO.ite ?_ ?_
   | refine LeO.bind ?_ (fun _ => ?_)
set_option maxHeartbeats 8000000 in
set_option maxRecDepth 100000 in
theorem slices_Index_int_int.calls (k : Nat) (A0 : Option Addr) (c0 : Nat) (l0 : List Int) (a1 : Int) (r : Int) (w : World) (hr0 : Kd.C (Kd.int .i64) w A0 l0.length l0) (hc0 : l0.length ≤ c0) (h : slices_Index_int_int.f k l0 a1 = some r) :
  Calls Try.prog 79 #[.slice A0 l0.length c0, .int .i64 a1] w fun e w' => e = .returned (.int .i64 r) ∧ Drawn0 w w' := by
 have HR0 := Aside0.mk hr0
 have HC0 := Aside0.mk hc0
 clear hr0 hc0
 have H : (slices_Index_int_int.l0 k l0 a1 (l0.length : Int) 0) = some r := h
 clear h
 have H' := Aside0.mk H
 clear H
 go_enter Try.func79, Try.ntmps79
 go_wp2
 go_loopg [8] k (fun kq v8 w' => ∃ (x8_1 : Int), v8 = .int .i64 x8_1 ∧ Aside0 (slices_Index_int_int.l0 kq l0 a1 (l0.length : Int) x8_1 = some r) ∧ Aside0 (kq ≤ k) ∧ Drawn0 w w')
 case atStart => exact ⟨(0), lF, H', ⟨Nat.le_refl _⟩, by repeat (first | exact Drawn0.refl _ | apply Drawn0.step)⟩
 case round =>
  clear H'
  try clear p2
  obtain ⟨x8_1, rfl, HA, HK1, ⟨m1, rfl⟩⟩ := hrel
  cases gk with
  | zero => exact absurd HA.out (by simp [slices_Index_int_int.l0])
  | succ k1 =>
   have H := HA.out
   clear HA
   simp only [slices_Index_int_int.l0] at H
   by_cases c3 : x8_1 < (l0.length : Int)
   ·rw [if_pos c3] at H
    have c3b0 : decide (x8_1 < (l0.length : Int)) = true := decide_eq_true c3
    clear c3
    by_cases c4 : 0 ≤ x8_1
    ·rw [if_pos c4] at H
     have c4b0 : decide (0 ≤ x8_1) = true := decide_eq_true c4
     clear c4
     by_cases c5 : x8_1 < (l0.length : Int)
     ·rw [if_pos c5] at H
      have c5b0 : decide (x8_1 < (l0.length : Int)) = true := decide_eq_true c5
      clear c5
      by_cases c6 : a1 = (rd l0 x8_1)
      ·rw [if_pos c6] at H
       have c6b0 : (a1 == (rd l0 x8_1)) = true := beq_iff_eq.mpr c6
       have c6b1 : (a1 != (rd l0 x8_1)) = false := bne_eq_false_iff_eq.mpr c6
       clear c6
       obtain rfl := Option.some.inj H
       have p254 : 0 ≤ (x8_1 : Int) := lD
       have q254 : x8_1 < (l0.length : Int) := lD
       obtain ⟨ad254, e254, hx254_0⟩ := Kd.at_int HR0.out x8_1 p254 q254
       cases e254
       replace p254 := eq_true p254
       replace q254 := eq_true q254
       first | (go_wp2; go_ret; exact ⟨by first | rfl | (simp; done) | (simp [*]; done), by repeat (first | exact Drawn0.refl _ | apply Drawn0.step)⟩) | (exfalso; simp only [decide_eq_false_iff_not, decide_eq_true_eq] at *; omega)
      ·rw [if_neg c6] at H
       have c6b0 : (a1 == (rd l0 x8_1)) = false := beq_eq_false_iff_ne.mpr c6
       have c6b1 : (a1 != (rd l0 x8_1)) = true := bne_iff_ne.mpr c6
       have H' := Aside0.mk H
       clear H
       have p254 : 0 ≤ (x8_1 : Int) := lD
       have q254 : x8_1 < (l0.length : Int) := lD
       obtain ⟨ad254, e254, hx254_0⟩ := Kd.at_int HR0.out x8_1 p254 q254
       cases e254
       replace p254 := eq_true p254
       replace q254 := eq_true q254
       go_wp2
       go_roundg k1
       case measure => have := HK1.out; omega
       case rel => exact ⟨(wrap64 (x8_1 + 1)), lF, H', ⟨by have := HK1.out; omega⟩, by repeat (first | exact Drawn0.refl _ | apply Drawn0.step)⟩
     ·rw [if_neg c5] at H
      exact absurd H (by simp)
    ·rw [if_neg c4] at H
     exact absurd H (by simp)
   ·rw [if_neg c3] at H
    have c3b0 : decide (x8_1 < (l0.length : Int)) = false := decide_eq_false c3
    clear c3
    obtain rfl := Option.some.inj H
    first | (go_wp2; go_ret; exact ⟨by first | rfl | (simp; done) | (simp [*]; done), by repeat (first | exact Drawn0.refl _ | apply Drawn0.step)⟩) | (exfalso; simp only [decide_eq_false_iff_not, decide_eq_true_eq] at *; omega)

/-! ### slices_Contains_int_int: function 63 -/
def slices_Contains_int_int.f (k : Nat) (l0 : List Int) (a1 : Int) : Option (Bool) := (slices_Index_int_int.f k l0 a1).bind fun t255 => (some (decide (t255 ≥ 0)))
theorem slices_Contains_int_int.mono : ∀ a0 a1 k, LeO (slices_Contains_int_int.f k a0 a1) (slices_Contains_int_int.f (k + 1) a0 a1) := by
 intro a0 a1 k
 unfold slices_Contains_int_int.f
 repeat' first
   | with_reducible apply slices_Index_int_int.mono
   | (with_reducible exact LeO.refl _)
   | (with_reducible exact LeO.none _)
   | (with_reducible refine LeO.ite ?_ ?_)
   | (with_reducible refine LeO.bind ?_ (fun _ => ?_))
   | apply slices_Index_int_int.mono
   | exact LeO.none _
   | refine LeO.ite ?_ ?_
   | refine LeO.bind ?_ (fun _ => ?_)
set_option maxHeartbeats 8000000 in
set_option maxRecDepth 100000 in
theorem slices_Contains_int_int.calls (k : Nat) (A0 : Option Addr) (c0 : Nat) (l0 : List Int) (a1 : Int) (r : Bool) (w : World) (hr0 : Kd.C (Kd.int .i64) w A0 l0.length l0) (hc0 : l0.length ≤ c0) (h : slices_Contains_int_int.f k l0 a1 = some r) :
  Calls Try.prog 63 #[.slice A0 l0.length c0, .int .i64 a1] w fun e w' => e = .returned (.bool r) ∧ Drawn0 w w' := by
 have HR0 := Aside0.mk hr0
 have HC0 := Aside0.mk hc0
 clear hr0 hc0
 have H : ((slices_Index_int_int.f k l0 a1).bind fun t255 => (some (decide (t255 ≥ 0)))) = some r := h
 clear h
 replace H := lO H
 obtain ⟨t255, A3, H⟩ := H
 obtain rfl := Option.some.inj H
 go_enter Try.func63, Try.ntmps63
 go_wp2_with (first | ((with_reducible refine gate_callee (f := 79) rfl ?_); refine gl_ (some 7) (Try.func79) #[.slice A0 l0.length c0, .int .i64 a1] ?_; (with_reducible refine (slices_Index_int_int.calls k _ _ l0 a1 t255 _ ?side1 ?side2 A3.out).mono ?_); (case side1 => repeat (first | exact HR0.out | (with_reducible refine Kd.C_alloc ?_ _) | (with_reducible refine Kd.C_drewN ?_ _) | (with_reducible refine Kd.C_drew ?_))); (case side2 => exact HC0.out); rintro e w' ⟨rfl, ⟨nd, rfl⟩⟩; refine ⟨_, rfl, ?_⟩))
 go_ret
 exact ⟨by first | rfl | (simp; done) | (simp [*]; done), by repeat (first | exact Drawn0.refl _ | apply Drawn0.step)⟩

/-! ### impl_LayOut: function 21 -/
/-! rows behind a cut, taken out one by one -/
/-- What is left of the chains: a part of the block g, each row of its own. -/
def Lf (base : Nat) (ok : Nat → Prop) (g : Nat) (w : World) (v : Value) (L : List (List Int)) : Prop :=
  ∃ (o c : Nat) (cur : Array Value), v = .slice (some ⟨g, o, none⟩) L.length c ∧ L.length ≤ c ∧ c ≤ maxLen ∧ base ≤ g ∧ w.heap[g]? = some (.cells cur 34 (0, 0)) ∧ ∀ (j : Nat) (x : List Int), L[j]? = some x → ∃ u, cur[o + j]? = some u ∧ (Kd.int .i64).R 3 w base (fun k => ok k ∧ k ≠ g) u x
theorem Lf.slice {base g : Nat} {ok : Nat → Prop} {w : World} {v : Value} {L : List (List Int)} (h : Lf base ok g w v L) : ∃ A c, v = .slice A L.length c := by
  obtain ⟨o, c, _, hv, _⟩ := h
  exact ⟨_, c, hv⟩
theorem Lf.step {base g : Nat} {ok : Nat → Prop} {w w1 : World} {v : Value} {L : List (List Int)} (h : Lf base ok g w v L) (hm : ∀ k, (ok k ∧ k ≠ g) ∨ k = g → k < w.heap.size → w1.heap[k]? = w.heap[k]?) : Lf base ok g w1 v L := by
  obtain ⟨o, c, cur, hv, hc, hm2, hg, hh, hx⟩ := h
  have hgl := (Array.getElem?_eq_some_iff.1 hh).1
  refine ⟨o, c, cur, hv, hc, hm2, hg, (hm g (.inr rfl) hgl).trans hh, fun j x hj => ?_⟩
  obtain ⟨u, h1, h2⟩ := hx j x hj
  exact ⟨u, h1, Kd.R_step h2 (fun k hk hlt => hm k (.inl hk) hlt)⟩
theorem Lf.mono {base g : Nat} {ok ok' : Nat → Prop} {w : World} {v : Value} {L : List (List Int)} (h : Lf base ok g w v L) (hm : ∀ k, k < w.heap.size → ok k → ok' k) : Lf base ok' g w v L := by
  obtain ⟨o, c, cur, hv, hc, hm2, hg, hh, hx⟩ := h
  refine ⟨o, c, cur, hv, hc, hm2, hg, hh, fun j x hj => ?_⟩
  obtain ⟨u, h1, h2⟩ := hx j x hj
  exact ⟨u, h1, Kd.R_mono (Kd.R_bound h2) (fun k hk => ⟨hm k hk.2.2.1 hk.1.1, hk.1.2⟩)⟩
theorem Lf.below {base g : Nat} {ok : Nat → Prop} {w w1 : World} {v : Value} {L : List (List Int)} (h : Lf base ok g w v L) (hb : Below w.heap.size w w1) : Lf base ok g w1 v L := h.step (fun k _ hk => hb.block k hk)
theorem Lf.reads {base g : Nat} {ok : Nat → Prop} {w : World} {A : Option Addr} {n c : Nat} {L : List (List Int)} (h : Lf base ok g w (.slice A n c) L) : n = L.length ∧ L.length ≤ c ∧ Kd.C (Kd.slice 3 (Kd.int .i64)) w A L.length L := by
  obtain ⟨o, c', cur, hv, hc, hm2, hg, hh, hx⟩ := h
  injection hv with h1 h2 h3
  subst h1 h2 h3
  refine ⟨rfl, hc, rfl, by have : c ≤ 9223372036854775807 := by simpa [maxLen] using hm2
                           omega, fun _ => ⟨_, rfl, fun j p hj => ?_⟩⟩
  obtain ⟨u, h1, h2⟩ := hx j p hj
  refine ⟨[u], rfl, (Kd.slice 3 (Kd.int .i64)).K_of_M ⟨u, rfl, h2⟩, fun i q hq => ?_⟩
  cases i with
  | succ i => simp at hq
  | zero =>
    have hq2 : u = q := by simpa using hq
    subst hq2
    have e : (⟨g, o, none⟩ : Addr).add (j * (Kd.slice 3 (Kd.int .i64)).sz + 0) = ⟨g, o + j, none⟩ := by
      rw [add_at]
      show (⟨g, o + (j * 1 + 0), none⟩ : Addr) = _
      rw [Nat.mul_one, Nat.add_zero]
    rw [e]
    exact (blk_cell hh (o + j)).trans h1
theorem Pr.heapO {α : Type} [Inhabited α] {enc : α → Value} {w : World} {g o n : Nat} {cur : Array Value} {e : TypeId} {fr : Nat × Nat} (d : Array α) (hb : w.heap[g]? = some (.cells cur e fr)) :
    (Go.Sort.putRow enc (Go.Sort.ahead w n) g o d).heap[g]? = some (.cells (Go.Sort.putCells enc o d cur) e fr) := by
  simp [Go.Sort.putRow, Go.Sort.mapBlock, Go.Sort.ahead, Array.getElem?_modify, hb, Go.Sort.onCells]
theorem Pr.grownO {α : Type} [Inhabited α] {enc : α → Value} {w : World} {g o n : Nat} (d : Array α) : w.grownBy (Go.Sort.putRow enc (Go.Sort.ahead w n) g o d) (some g) := by
  refine ⟨rfl, rfl, rfl, by simp, fun k hk hne => ?_⟩
  have : g ≠ k := fun e => hne (by rw [e])
  simp [Go.Sort.putRow, Go.Sort.mapBlock, Go.Sort.ahead, Array.getElem?_modify, this]
theorem Lf.delete {base g : Nat} {ok : Nat → Prop} {w : World} {A : Option Addr} {n c : Nat} {L : List (List Int)} (h : Lf base ok g w (.slice A n c) L) (k : Nat) (hk : k < L.length) :
    Calls Try.prog 64 #[.slice A n c, .int .i64 (k : Int), .int .i64 ((k : Int) + 1)] w fun e w' => ∃ v', e = .returned v' ∧ Lf base ok g w' v' (L.eraseIdx k) ∧ w.grownBy w' (some g) := by
  obtain ⟨o, c', cur, hv, hc, hm2, hg, hh, hx⟩ := h
  injection hv with h1 h2 h3
  subst h1 h2 h3
  have hcm' : c ≤ 9223372036854775807 := by simpa [maxLen] using hm2
  have hcells : ∀ j, j < L.length → o + j < cur.size := by
    intro j hj
    obtain ⟨u, h1, _⟩ := hx j L[j] (List.getElem?_eq_getElem hj)
    exact (Array.getElem?_eq_some_iff.1 h1).1
  let inner : List Value := (List.range L.length).map fun j => cur.getD (o + j) (.slice none 0 0)
  have hil : inner.length = L.length := by simp [inner]
  have hget : ∀ j, j < L.length → inner[j]? = cur[o + j]? := by
    intro j hj
    have := hcells j hj
    simp [inner, hj, this]
  have hone : ∀ u ∈ inner, u.oneCell' = true := by
    intro u hu
    obtain ⟨j, hj, rfl⟩ := List.mem_iff_getElem.1 hu
    have hj2 : j < L.length := by omega
    obtain ⟨u, h1, h2⟩ := hx j L[j] (List.getElem?_eq_getElem hj2)
    have h3 := hget j hj2
    rw [h1, List.getElem?_eq_getElem hj] at h3
    rw [Option.some.inj h3]
    exact (Kd.R_val h2).2
  have hl1 : (one1 inner hone).length = L.length := by rw [one1_len, hil]
  have hsz : (one1 inner hone).toArray.size = L.length := by simp [hl1]
  have hov : ∀ j, j < L.length → ((one1 inner hone).toArray[j]!).val = cur.getD (o + j) (.slice none 0 0) := by
    intro j hj
    have h1 := congrArg (fun l : List Value => l[j]?) (one1_map inner hone)
    simp only [List.getElem?_map] at h1
    rw [List.getElem?_eq_getElem (by omega : j < (one1 inner hone).length)] at h1
    rw [getElem!_pos _ j (by rw [hsz]; exact hj)]
    have h2 : inner[j]? = some (cur.getD (o + j) (.slice none 0 0)) := by simp [inner, hj]
    rw [h2] at h1
    simpa using h1
  have hH : Go.Sort.Holds (Subtype.val : One1 → Value) w g o (one1 inner hone).toArray := by
    intro j hj
    rw [hsz] at hj
    refine ⟨?_, by simp [World.frozen?, hh]⟩
    rw [hov j hj]
    refine (blk_cell hh (o + j)).trans ?_
    have := hcells j hj
    simp [this]
  obtain ⟨i0, hi0, hi1⟩ := Option.map_eq_some_iff.1 info34
  have hi2 : i0.size = 1 := by simpa using congrArg (fun z => z.2.1) hi1
  have hc0 := Go.Proofs.AnyE.slices_Delete Shf.delRows (Subtype.val : One1 → Value) (fun x => x.2) ⟨.slice none 0 0, rfl⟩ Try.zeroValue34 i0 hi0 hi2 g o c k (k + 1) (one1 inner hone).toArray w hH (by rw [hsz]; exact hc) hcm' (by omega) (by rw [hsz]; omega)
  change Calls Try.prog 64 _ _ _ at hc0
  rw [hsz] at hc0
  refine (show Calls Try.prog 64 #[.slice (some ⟨g, o, none⟩) L.length c, .int .i64 (k : Int), .int .i64 ((k : Int) + 1)] w _ from hc0).mono ?_
  rintro e w' ⟨rfl, q, rfl⟩
  rw [show L.length - (k + 1 - k) = L.length - 1 by omega]
  generalize hts0 : ((one1 inner hone).toArray.toList.take k ++ (one1 inner hone).toArray.toList.drop (k + 1) ++ List.replicate (k + 1 - k) (⟨.slice none 0 0, rfl⟩ : One1)) = ts
  have htl : ts.length = L.length := by rw [← hts0]; simp [hl1]; omega
  have hw := Pr.heapO (enc := (Subtype.val : One1 → Value)) (w := w) (g := g) (o := o) (n := q) ts.toArray hh
  have hgr := Pr.grownO (enc := (Subtype.val : One1 → Value)) (w := w) (g := g) (o := o) (n := q) ts.toArray
  refine ⟨_, rfl, ⟨o, c, _, ?_, ?_, hm2, hg, hw, fun j x hj => ?_⟩, hgr⟩
  · rw [List.length_eraseIdx, if_pos hk]
  · rw [List.length_eraseIdx, if_pos hk]; omega
  · have hjl : j < L.length - 1 := by
      have := (List.getElem?_eq_some_iff.1 hj).1
      rwa [List.length_eraseIdx, if_pos hk] at this
    rw [List.getElem?_eraseIdx] at hj
    have hsrc : ∃ i, i < L.length ∧ L[i]? = some x ∧ (ts[j]?).map Subtype.val = some (cur.getD (o + i) (.slice none 0 0)) := by
      have hmv : ts.map Subtype.val = inner.eraseIdx k ++ [.slice none 0 0] := by
        rw [← hts0, List.map_append, List.map_append, List.map_take, List.map_drop, show (one1 inner hone).toArray.toList = one1 inner hone from rfl, one1_map, ← List.eraseIdx_eq_take_drop_succ]
        rw [show k + 1 - k = 1 by omega]
        rfl
      have hm3 : (ts[j]?).map Subtype.val = (inner.eraseIdx k)[j]? := by
        rw [← List.getElem?_map, hmv, List.getElem?_append_left (by rw [List.length_eraseIdx, hil, if_pos hk]; exact hjl)]
      rw [hm3, List.getElem?_eraseIdx]
      by_cases h1 : j < k
      · rw [if_pos h1] at hj ⊢
        refine ⟨j, by omega, hj, ?_⟩
        simp [inner, show j < L.length by omega]
      · rw [if_neg h1] at hj ⊢
        refine ⟨j + 1, by omega, hj, ?_⟩
        simp [inner, show j + 1 < L.length by omega]
    obtain ⟨i, hi, hLi, htj⟩ := hsrc
    obtain ⟨u, h1, h2⟩ := hx i x hLi
    have hcu : cur.getD (o + i) (.slice none 0 0) = u := by
      have := (Array.getElem?_eq_some_iff.1 h1)
      obtain ⟨hlt, he⟩ := this
      simp [hlt, he]
    rw [hcu] at htj
    have hjt : j < ts.length := by omega
    rw [List.getElem?_eq_getElem hjt] at htj
    have htv : (ts[j]).val = u := by simpa using htj
    refine ⟨u, ?_, Kd.R_step h2 (fun b hb hlt => hgr.block b hlt (fun e => hb.2 (by injection e)))⟩
    have hoj := hcells j (by omega)
    unfold Go.Sort.putCells
    rw [Array.getElem?_mapIdx, Array.getElem?_eq_getElem hoj, Option.map_some, if_pos (by simp; omega)]
    refine congrArg some ?_
    rw [show o + j - o = j by omega, getElem!_pos _ j (by simpa using hjt)]
    simpa using htv
theorem Lf.cut {base g n c : Nat} {ok : Nat → Prop} {w : World} {C : List (List Int)} (h : Kd.S (Kd.slice 3 (Kd.int .i64)) 34 w base ok (.slice (some ⟨g, 0, none⟩) n c) C) (hn : 0 < n) (A : Option Addr) (hA : A = if c = 1 then some ⟨g, 0, none⟩ else some ⟨g, 1, none⟩) :
    Lf base ok g w (.slice A (n - 1) (c - 1)) (C.drop 1) := by
  obtain ⟨inner, cur, hil, hLl, hbg, hnc, hcm, hh, hcs, ht, hone, hM, _⟩ := S_arr rfl ([] : List Int) h
  have hCd : (C.drop 1).length = n - 1 := by rw [List.length_drop]; omega
  by_cases h1 : c = 1
  · have hn1 : n = 1 := by omega
    rw [if_pos h1] at hA
    have hd : C.drop 1 = [] := List.eq_nil_of_length_eq_zero (by omega)
    refine ⟨0, c - 1, cur, by rw [hA, hCd], by omega, by omega, hbg, hh, fun j x hj => ?_⟩
    rw [hd] at hj
    simp at hj
  · rw [if_neg h1] at hA
    refine ⟨1, c - 1, cur, by rw [hA, hCd], by omega, by omega, hbg, hh, fun j x hj => ?_⟩
    rw [List.getElem?_drop] at hj
    obtain ⟨hjl, hje⟩ := List.getElem?_eq_some_iff.1 hj
    have hjn : 1 + j < n := by omega
    obtain ⟨u, hu, hR⟩ := hM (1 + j) hjn
    have hx : C.getD (1 + j) [] = x := by rw [List.getD_eq_getElem?_getD, hj]; rfl
    rw [hx] at hR
    have hu2 : inner.getD (1 + j) (.slice none 0 0) = u := by injection hu
    refine ⟨u, ?_, hR⟩
    have h3 : inner[1 + j]? = some u := by
      rw [← hu2, List.getD_eq_getElem?_getD, List.getElem?_eq_getElem (by omega), Option.getD_some]
    rw [← ht, List.getElem?_take_of_lt hjn, Array.getElem?_toList] at h3
    exact h3
/-! laying out, in plain Lean -/
def hasI (l : List Int) (x : Int) : Bool := decide (x ∈ l)
def sumF (out c : List Int) : List S48 → Int → Int
  | [], s => s
  | e :: es, s => sumF out c es (if hasI out e.f0 = true ∧ hasI c e.f1 = true then s + e.f2 else s)
/-- The place of the first chain to which most goes. -/
def scanL (out : List Int) (l : List S48) : List (List Int) → Nat → Nat → Int → Nat
  | [], _, b, _ => b
  | c :: cs, i, b, m => if m < sumF out c l 0 then scanL out l cs (i + 1) i (sumF out c l 0) else scanL out l cs (i + 1) b m
def layR (l : List S48) : Nat → List Int → List (List Int) → List Int
  | 0, out, _ => out
  | n + 1, out, L => layR l n (out ++ L.getD (scanL out l L 0 0 (-1)) []) (L.eraseIdx (scanL out l L 0 0 (-1)))
theorem scanL_lt (out : List Int) (l : List S48) : ∀ (cs : List (List Int)) (i b : Nat) (m : Int) (n : Nat), i + cs.length ≤ n → b < n → scanL out l cs i b m < n
  | [], _, _, _, _, _, h => h
  | c :: cs, i, b, m, n, h, hb => by
    simp only [List.length_cons] at h
    unfold scanL
    split
    · exact scanL_lt out l cs (i + 1) i _ n (by omega) (by omega)
    · exact scanL_lt out l cs (i + 1) b m n (by omega) hb
theorem Lo.index (x : Int) : ∀ (post pre : List Int), pre.length + post.length ≤ 1048576 → ∃ r, (∃ K, ∀ k, K ≤ k → slices_Index_int_int.l0 k (pre ++ post) x ((pre ++ post).length : Int) (pre.length : Int) = some r) ∧ decide (r ≥ 0) = hasI post x
  | [], pre, hb => by
    refine ⟨-1, ⟨1, fun k hk => ?_⟩, by simp [hasI]⟩
    obtain ⟨k, rfl⟩ : ∃ m, k = m + 1 := ⟨k - 1, by omega⟩
    simp only [slices_Index_int_int.l0]
    rw [if_neg (by simp)]
  | y :: post, pre, hb => by
    simp only [List.length_cons] at hb
    have hrd : rd (pre ++ y :: post) (pre.length : Int) = y := Kit.rd_at rfl
    by_cases h : x = y
    · refine ⟨pre.length, ⟨1, fun k hk => ?_⟩, by simp [hasI, h]⟩
      obtain ⟨k, rfl⟩ : ∃ m, k = m + 1 := ⟨k - 1, by omega⟩
      simp only [slices_Index_int_int.l0]
      rw [if_pos (by simp; omega), if_pos (by omega), if_pos (by simp; omega), hrd, if_pos h]
    · obtain ⟨r, ⟨K, hK⟩, h2⟩ := Lo.index x post (pre ++ [y]) (by simp; omega)
      refine ⟨r, ⟨K + 1, fun k hk => ?_⟩, by rw [h2]; simp [hasI, h]⟩
      obtain ⟨k, rfl⟩ : ∃ m, k = m + 1 := ⟨k - 1, by omega⟩
      simp only [slices_Index_int_int.l0]
      rw [if_pos (by simp; omega), if_pos (by omega), if_pos (by simp; omega), hrd, if_neg h, Kit.w_succ (by omega)]
      have := hK k (by omega)
      simpa using this
theorem Lo.has (l : List Int) (x : Int) (hb : l.length ≤ 1048576) : ∃ k, slices_Contains_int_int.f k l x = some (hasI l x) := by
  obtain ⟨r, ⟨K, hK⟩, h2⟩ := Lo.index x l [] (by simpa using hb)
  refine ⟨K, ?_⟩
  unfold slices_Contains_int_int.f slices_Index_int_int.f
  have := hK K (Nat.le_refl _)
  simp only [List.nil_append, List.length_nil, Int.natCast_zero] at this
  rw [this, Option.bind_some, h2]
theorem Lo.cnt (n : Int) : ∀ (post pre : List S48), Eds.ok n pre post = true → ∀ e ∈ post, 0 ≤ e.f2 ∧ e.f2 ≤ 100000
  | [], _, _, e, he => by cases he
  | x :: post, pre, h, e, he => by
    simp only [Eds.ok, Eds.ok1, Bool.and_eq_true] at h
    rcases List.mem_cons.1 he with rfl | he
    · exact (Eds.inB_iff _ _ _).1 h.1.1.2
    · exact Lo.cnt n post _ h.2 e he
theorem Lf.ne {base g : Nat} {ok : Nat → Prop} {w : World} {v u : Value} {L : List (List Int)} {b2 : Nat} {ok2 : Nat → Prop} {out : List Int} (h : Lf base ok g w v L) (ho : Kd.R (Kd.int .i64) 3 w b2 ok2 u out) : some g ≠ u.ownBlock := by
  obtain ⟨o, c, cur, hv, hc, hm2, hg, hh, hx⟩ := h
  exact Kd.R_ne ho hh (by decide)
theorem Lf.typed {base g : Nat} {ok : Nat → Prop} {w : World} {v : Value} {L : List (List Int)} (h : Lf base ok g w v L) : base ≤ g ∧ ∃ cells, w.heap[g]? = some (.cells cells 34 (0, 0)) := by
  obtain ⟨o, c, cur, hv, hc, hm2, hg, hh, hx⟩ := h
  exact ⟨hg, _, hh⟩
/-- Behind an append to another row. -/
theorem Lf.after {base g : Nat} {w w1 : World} {v u u1 : Value} {L : List (List Int)} (h : Lf base (fun k => some k ≠ u.ownBlock) g w v L) (hne : some g ≠ u.ownBlock) (hg : w.grownBy w1 u.ownBlock) (hat : u1.ownBlock = u.ownBlock ∨ ∃ b, u1.ownBlock = some b ∧ w.heap.size ≤ b) : Lf base (fun k => some k ≠ u1.ownBlock) g w1 v L := by
  have h1 : Lf base (fun k => some k ≠ u.ownBlock ∧ k < w.heap.size) g w v L := h.mono (fun k hk hk2 => ⟨hk2, hk⟩)
  have h2 : Lf base (fun k => some k ≠ u.ownBlock ∧ k < w.heap.size) g w1 v L := h1.step (fun k hk hlt => hg.block k hlt (by
    rcases hk with hk | hk
    · exact hk.1.1
    · rw [hk]; exact hne))
  refine h2.mono (fun k _ hk => ?_)
  rcases hat with ha | ⟨b, hb, hle⟩
  · rw [ha]; exact hk.1
  · rw [hb]; intro e; injection e with e; omega
def impl_LayOut.f (a0 : Int) (l1 : List S48) : Option (List Int × Bool) := (impl_areEdges.f a0 l1).bind fun t => if t = true then some (layR l1 ((chainsP a0.toNat l1).length - 1) ((chainsP a0.toNat l1).getD 0 []) ((chainsP a0.toNat l1).drop 1), true) else some ([], false)
theorem flat_erase_len {L : List (List Int)} {b : Nat} (hb : b < L.length) : (L.getD b []).length + (L.eraseIdx b).flatten.length = L.flatten.length := by
  have := (flat_erase L b hb).length_eq
  rw [List.length_append] at this
  exact this.symm
theorem Lo.contains (A : Option Addr) (c : Nat) (l : List Int) (x : Int) (r : Bool) (w : World) (hr : Kd.C (Kd.int .i64) w A l.length l) (hc : l.length ≤ c) (hb : l.length ≤ 1048576) (h : hasI l x = r) : Calls Try.prog 63 #[.slice A l.length c, .int .i64 x] w fun e w' => e = .returned (.bool r) ∧ Below w.heap.size w w' := by
  obtain ⟨k, hk⟩ := Lo.has l x hb
  exact (slices_Contains_int_int.calls k A c l x r w hr hc (h ▸ hk)).mono (fun e_ w_ ⟨h1_, nd_, h2_⟩ => ⟨h1_, by rw [h2_]; exact pw_below_drewN (Below.refl _ _) _⟩)
theorem Lo.delete {base g : Nat} {ok : Nat → Prop} {w : World} {A : Option Addr} {n c : Nat} {L : List (List Int)} (h : Lf base ok g w (.slice A n c) L) (k : Nat) (k1 : Int) (hk : k < L.length) (hk1 : k1 = (k : Int) + 1) :
    Calls Try.prog 64 #[.slice A n c, .int .i64 (k : Int), .int .i64 k1] w fun e w' => ∃ v', e = .returned v' ∧ Lf base ok g w' v' (L.eraseIdx k) ∧ w.grownBy w' (some g) := hk1 ▸ Lf.delete h k hk
theorem sumF_cons (out c : List Int) (e : S48) (es : List S48) (s : Int) : sumF out c (e :: es) s = sumF out c es (if hasI out e.f0 = true ∧ hasI c e.f1 = true then s + e.f2 else s) := rfl
theorem scanL_gt {out c : List Int} {l : List S48} {cs : List (List Int)} {i b : Nat} {m s : Int} (hs : s = sumF out c l 0) (h : m < s) : scanL out l (c :: cs) i b m = scanL out l cs (i + 1) i s := by
  subst hs
  show (if _ then _ else _) = _
  rw [if_pos h]
theorem scanL_le {out c : List Int} {l : List S48} {cs : List (List Int)} {i b : Nat} {m s : Int} (hs : s = sumF out c l 0) (h : ¬ m < s) : scanL out l (c :: cs) i b m = scanL out l cs (i + 1) b m := by
  subst hs
  show (if _ then _ else _) = _
  rw [if_neg h]
theorem layR_succ (l : List S48) (q : Nat) (out : List Int) (L : List (List Int)) (b : Nat) (hb : b = scanL out l L 0 0 (-1)) : layR l q (out ++ rd_L5 L (b : Int)) (L.eraseIdx b) = layR l (q + 1) out L := by
  subst hb
  rfl
set_option maxHeartbeats 8000000 in
set_option maxRecDepth 100000 in
theorem impl_LayOut.calls (a0 : Int) (A1 : Option Addr) (c1 : Nat) (l1 : List S48) (r1 : List Int) (r2 : Bool) (w : World) (hr1 : Kd.C k48 w A1 l1.length l1) (hc1 : l1.length ≤ c1) (h : impl_LayOut.f a0 l1 = some (r1, r2)) :
  Calls Try.prog 21 #[.int .i64 a0, .slice A1 l1.length c1] w fun e w' => ∃ v0_ : Value, e = .returned (.tuple #[v0_, .bool r2]) ∧ Kd.R (Kd.int .i64) 3 w' w.heap.size (fun _ => True) v0_ r1 ∧ Below w.heap.size w w' := by
 have hu48 := Try.underlying48
 unfold impl_LayOut.f at h
 obtain ⟨t, ht, h⟩ := Option.bind_eq_some_iff.1 h
 have HR1 := Aside0.mk hr1
 have HC1 := Aside0.mk hc1
 have HT := Aside0.mk ht
 have HB := Aside0.mk (Below.refl w.heap.size w)
 clear hr1 hc1
 cases t with
 | false =>
  rw [if_neg (by simp)] at h
  simp only [Option.some.injEq, Prod.mk.injEq] at h
  obtain ⟨rfl, rfl⟩ := h
  clear ht
  go_enter Try.func21, Try.ntmps21
  go_wp2_with (go_at_call 59; (with_reducible refine (impl_areEdges.calls a0 A1 c1 l1 false _ ?s1 ?s2 HT.out).mono ?_); (case s1 => exact lC (Kd.C_below HR1.out HB.out)); (case s2 => exact HC1.out); rintro e_ w1 ⟨rfl, hb⟩; have n0_ := Aside0.mk (below_step HB.out hb); clear HB hb; have HB := n0_; clear n0_)
  go_ret2
  exact ⟨_, rfl, Kd.R_nil _ _ _ _ _, lB⟩
 | true =>
  rw [if_pos rfl] at h
  simp only [Option.some.injEq, Prod.mk.injEq] at h
  obtain ⟨hres, rfl⟩ := h
  have hgood : 1 ≤ a0 ∧ a0 ≤ 8 ∧ l1.length ≤ 20 ∧ ∀ e ∈ l1, 0 ≤ e.f2 ∧ e.f2 ≤ 100000 := by
   unfold impl_areEdges.f at ht
   have h_ := Option.some.inj ht
   simp only [Bool.and_eq_true, decide_eq_true_eq] at h_
   have h2 := (Eds.inB_iff _ _ _).1 h_.1.1
   exact ⟨h2.1, h2.2, by omega, Lo.cnt a0 l1 [] h_.2⟩
  obtain ⟨n, rfl⟩ : ∃ n : Nat, a0 = (n : Int) := ⟨a0.toNat, by omega⟩
  rw [Int.toNat_natCast] at hres
  have hn8 : 1 ≤ n ∧ n ≤ 8 := by omega
  have hiv : Iv n ((sortE l1).foldl stepC (startC n)) := Iv_foldl _ _ (Iv_start n)
  have hpm : (chainsP n l1).Perm ((sortE l1).foldl stepC (startC n)) := List.mergeSort_perm _ _
  have hcf : impl_chainsOf.f (n : Int) l1 = some (chainsP n l1) := by
   unfold impl_chainsOf.f
   rw [if_pos ⟨hgood.1, hgood.2.1, hgood.2.2.1⟩, Int.toNat_natCast]
  have hfl : (chainsP n l1).flatten.length ≤ 8 := by
   rw [hpm.flatten.length_eq, hiv.1.length_eq, List.length_map, List.length_range]
   exact hn8.2
  have hpos : 0 < (chainsP n l1).length := by rw [hpm.length_eq]; exact Iv_pos hiv (by omega)
  obtain ⟨C, hC⟩ : ∃ C, chainsP n l1 = C := ⟨_, rfl⟩
  rw [hC] at hres hcf hfl hpos
  have HRES := Aside0.mk hres
  have HCF := Aside0.mk hcf
  have HFL := Aside0.mk hfl
  have HPOS := Aside0.mk hpos
  have HG := Aside0.mk hgood
  clear ht hres hcf hfl hgood hiv hpm hC hn8
  have hd0 : decide (0 < C.length) = true := decide_eq_true hpos
  have hq0 : (0 < C.length) = True := eq_true hpos
  have hq1 : ((0 : Int) < (C.length : Int)) = True := eq_true (by omega)
  have hq2 : (1 : Int) ≤ (C.length : Int) := by omega
  have HFL0 := Aside0.mk (show (rd_L5 C 0).length + (C.drop 1).flatten.length ≤ 8 by cases C with | nil => simp at hpos | cons x xs => simpa [rd_L5] using HFL.out)
  clear hpos
  obtain ⟨i0, hi0, _, hsz0, _⟩ := info_parts info34
  go_enter Try.func21, Try.ntmps21
  go_wp2_with (first | (go_at_call 59; (with_reducible refine (impl_areEdges.calls (n : Int) A1 c1 l1 true _ ?s1 ?s2 HT.out).mono ?_); (case s1 => exact lC (Kd.C_below HR1.out HB.out)); (case s2 => exact HC1.out); rintro e_ w1 ⟨rfl, hb⟩; have n0_ := Aside0.mk (below_step HB.out hb); clear HB hb; have HB := n0_; clear n0_) | (go_at_call 60; (with_reducible refine (impl_chainsOf.calls (n : Int) A1 c1 l1 C _ ?s1 ?s2 HCF.out).mono ?_); (case s1 => exact lC (Kd.C_below HR1.out HB.out)); (case s2 => exact HC1.out); rintro e_ w2 ⟨v2, rfl, hS, hb⟩; have n0_ := Aside0.mk (Kd.S_lower hS (below_size HB.out)); have n1_ := Aside0.mk (below_step HB.out hb); clear HB hS hb; have HS := n0_; have HB := n1_; clear n0_ n1_; obtain ⟨g, cap, rfl, hbg, hgl, hty⟩ := Kd.S_form HS.out HPOS.out; clear hgl hty; have HBG := Aside0.mk hbg; clear hbg) | ((with_reducible refine gate_dst (N := 23) rfl ?_); refine Kd.R_lit (Kd.int .i64) _ 3 ?hg (N := 23) ?hd (xs := ([] : List Int)) (inner := []) (ok := fun _ => True) (okp := fun _ => True) ?hr ?hp (fun _ hk => hk) trivial (Below.refl _ _) (Nat.le_refl _) (by simp) ?_; (case hd => rfl); (case hg => rfl); (case hr => first | (go_simp; done) | (go_simp; rfl)); (case hp => exact (Reps.none _ _)); intro v4 w4 ho hb hg_ hnew_; clear hg_ hnew_; have n0_ := Aside0.mk (Kd.S_elder' (lS HS.out) (Kd.R_base ho) hb); have n1_ := Aside0.mk (Kd.R_lower ho (below_size lB)); have n2_ := Aside0.mk (below_step lB hb); clear HS HB ho hb; have HS := n0_; have HO := n1_; have HB := n2_; clear n0_ n1_ n2_; obtain ⟨ad0, A0, c0, e0, hx0, hl0, hC0⟩ := at_L5 (Kd.S_reads' HS.out).2.2 0 (by omega) (by have := HPOS.out; omega); cases e0; have HC0 := Aside0.mk hC0; clear hC0 hl0; simp only [show ((0 : Int)).toNat = 0 from rfl, Addr.add_zero'] at hx0) | ((with_reducible refine gate_builtin (b := .append) (xs := #[.tmp 23, .tmp 26]) rfl ?_); at_builtin; refine Kd.R_append_rows (Kd.int .i64) (w0 := w) w.heap.size rfl (.tmp 23) (.tmp 26) 34 3 (.int .i64 0) 8 rfl Try.underlying34 info3 rfl (by decide) (by omega) v4 ([] : List Int) (rd_L5 C 0) _ _ _ (fun _ => True) (fun _ => False) rfl rfl ?aO ?aR (fun _ _ h => h) (fun _ h => h.elim) ?aF ?aB ?aS ?aL ?_; (case aR => exact lC HC0.out); (case aB => exact lB); (case aF => exact (fun _ _ => trivial)); (case aO => exact (lR HO.out)); (case aS => exact (below_size lB)); (case aL => have := HFL0.out; simp only [List.length_nil]; omega); intro v5 w5 ho hb hg hat; have n0_ := Aside0.mk (Kd.S_after (ok := fun _ => True) (lS HS.out) hg hat); have n1_ := Aside0.mk (show Kd.R (Kd.int .i64) 3 w5 w.heap.size (fun _ => True) v5 (rd_L5 C 0) from ho); have n2_ := Aside0.mk hb; clear HS HB HO HC0 ho hb hg hat hx0; have HS := n0_; have HO := n1_; have HB := n2_; clear n0_ n1_ n2_; obtain ⟨A5, hA5⟩ : ∃ A1, A1 = (if cap = ((1 : Int)).toNat then (some ⟨g, 0, none⟩) else ((some ⟨g, 0, none⟩ : Option Addr)).map (·.add (((1 : Int)).toNat * 1))) := ⟨_, rfl⟩; have hcut := cut_from (P := Try.prog) 24 34 .i64 Try.underlying24 hi0 1 hsz0 (some ⟨g, 0, none⟩) C.length cap 1 (by omega) hq2; rw [← hA5] at hcut; simp only [show ((1 : Int)).toNat = 1 from rfl] at hcut; have HL := Aside0.mk (Lf.mono (ok' := fun k => some k ≠ v5.ownBlock) (Lf.cut HS.out HPOS.out A5 (by rw [hA5]; rfl)) (fun k _ hk => hk.2)); clear hA5 HS))
  go_loopg [7, 8] C.length (fun kq v7 v8 w' => ∃ (out : List Int) (L : List (List Int)), layR l1 L.length out L = r1 ∧ L.length ≤ kq ∧ out.length + L.flatten.length ≤ 8 ∧ Aside0 (Kd.R (Kd.int .i64) 3 w' w.heap.size (fun _ => True) v7 out) ∧ Aside0 (Lf w.heap.size (fun k => some k ≠ v7.ownBlock) g w' v8 L) ∧ Aside0 (Below w.heap.size w w'))
  case atStart => exact ⟨rd_L5 C 0, C.drop 1, by rw [List.length_drop]; exact HRES.out, by rw [List.length_drop]; omega, HFL0.out, ⟨HO.out⟩, ⟨HL.out⟩, ⟨HB.out⟩⟩
  case round =>
   obtain ⟨out, L, hres2, hk, hlen, HO, HL, HB⟩ := hrel
   rename World => wo
   obtain ⟨A8, c8, hv8⟩ := Lf.slice HL.out
   subst hv8
   obtain ⟨A7, c7, hv7⟩ := Kd.R_slice HO.out
   subst hv7
   clear hd0 hq0 hq1 hq2
   by_cases hpos : 0 < L.length
   ·have hd0 : decide (0 < L.length) = true := decide_eq_true hpos
    have hd1 : decide ((0 : Int) < (L.length : Int)) = true := decide_eq_true (by omega)
    have HPOSL := Aside0.mk hpos
    have HRESL := Aside0.mk hres2
    have HKL := Aside0.mk hk
    have HLENL := Aside0.mk hlen
    have HMX := Aside0.mk (show L.length ≤ 9223372036854775807 from (Lf.reads HL.out).2.2.2.1)
    clear hpos hres2 hk hlen
    go_wp2
    go_loopg [9, 10, 35] L.length (fun kq v9 v10 v35 w' => ∃ (i b : Nat) (m : Int), v9 = .int .i64 (b : Int) ∧ v10 = .int .i64 m ∧ v35 = .int .i64 (i : Int) ∧ i ≤ L.length ∧ L.length - i ≤ kq ∧ b < L.length ∧ scanL out l1 (L.drop i) i b m = scanL out l1 L 0 0 (-1) ∧ Aside0 (Below wo.heap.size wo w'))
    case atStart => exact ⟨0, 0, -1, rfl, rfl, rfl, Nat.zero_le _, by omega, HPOSL.out, rfl, ⟨Below.refl _ _⟩⟩
    case round =>
     obtain ⟨i, b, m, rfl, rfl, rfl, hi, hk, hbl, hsc, HB2⟩ := hrel
     rename World => wi
     clear hd0 hd1
     have HBW := Aside0.mk (below_step HB.out HB2.out)
     have HOi := Aside0.mk (Kd.R_below HO.out HB2.out)
     have HLi := Aside0.mk (Lf.below HL.out HB2.out)
     have HLL := HLENL.out
     have HGG := HG.out
     by_cases hlt : i < L.length
     ·have hd : decide ((i : Int) < (L.length : Int)) = true := decide_eq_true (by omega)
      have hd0 : decide (i < L.length) = true := decide_eq_true hlt
      have pj : (0 ≤ (i : Int)) = True := eq_true (by omega)
      have qj : ((i : Int) < (L.length : Int)) = True := eq_true (by omega)
      have HLT := Aside0.mk hlt
      have HKK := Aside0.mk hk
      have HBL := Aside0.mk hbl
      have HSC := Aside0.mk hsc
      have HWR := Aside0.mk (show wrap64 ((i : Int) + 1) = ((i + 1 : Nat) : Int) by have := HMX.out; unfold wrap64; omega)
      obtain ⟨ad0, A0, c0, e0, hx0, hl0, hC0⟩ := at_L5 (Lf.reads HLi.out).2.2 (i : Int) (by omega) (by omega)
      subst e0
      have hce : L.getD i [] = rd_L5 L (i : Int) := rfl
      have hcl : (rd_L5 L (i : Int)).length ≤ 8 := by have := flat_erase_len hlt; rw [hce] at this; omega
      obtain ⟨c, hc⟩ : ∃ c, rd_L5 L (i : Int) = c := ⟨_, rfl⟩
      have HCI := Aside0.mk (show L.drop i = c :: L.drop (i + 1) by rw [List.drop_eq_getElem_cons hlt, ← hc, ← hce, List.getD_eq_getElem?_getD, List.getElem?_eq_getElem hlt]; rfl)
      rw [hc] at hx0 hl0 hC0 hcl
      have HC0 := Aside0.mk hC0
      have HL0 := Aside0.mk hl0
      have HCL := Aside0.mk hcl
      have HR1i := Aside0.mk (Kd.C_below HR1.out HBW.out)
      have HOC := Aside0.mk (Kd.R_reads' HOi.out)
      simp only [Int.toNat_natCast] at hx0
      clear hC0 hl0 hcl hc hce hlt hk hbl hsc HLL HGG hi
      go_wp2
      go_loopg [13, 42] l1.length (fun kq v13 v42 w' => ∃ (j : Nat) (s : Int), v13 = .int .i64 s ∧ v42 = .int .i64 (j : Int) ∧ j ≤ l1.length ∧ l1.length - j ≤ kq ∧ sumF out c (l1.drop j) s = sumF out c l1 0 ∧ 0 ≤ s ∧ s ≤ 100000 * (j : Int) ∧ Aside0 (Below wi.heap.size wi w'))
      case atStart => exact ⟨0, 0, rfl, rfl, Nat.zero_le _, by omega, rfl, by omega, by omega, ⟨Below.refl _ _⟩⟩
      case round =>
       obtain ⟨j, s, rfl, rfl, hj, hk, hsu, hs0, hs1, HB3⟩ := hrel
       rename World => wj
       clear hd hd0 pj qj hx0
       by_cases hlt : j < l1.length
       ·have hd : decide ((j : Int) < (l1.length : Int)) = true := decide_eq_true (by omega)
        have hd0 : decide (j < l1.length) = true := decide_eq_true hlt
        have pj : (0 ≤ (j : Int)) = True := eq_true (by omega)
        have qj : ((j : Int) < (l1.length : Int)) = True := eq_true (by omega)
        have H20 := HG.out.2.2.1
        have HLT2 := Aside0.mk hlt
        have HKK2 := Aside0.mk hk
        have HWR2 := Aside0.mk (show wrap64 ((j : Int) + 1) = ((j + 1 : Nat) : Int) by unfold wrap64; omega)
        obtain ⟨ade, ee, hx0, hx1, hx2⟩ := at_T48 (Kd.C_below HR1i.out HB3.out) (j : Int) (by omega) (by omega)
        subst ee
        obtain ⟨e, he⟩ : ∃ e, rd_T48 l1 (j : Int) = e := ⟨_, rfl⟩
        have hge : l1[j] = e := by rw [← he]; unfold rd_T48; rw [Int.toNat_natCast, List.getD_eq_getElem?_getD, List.getElem?_eq_getElem hlt, Option.getD_some]
        have hcnt : 0 ≤ e.f2 ∧ e.f2 ≤ 100000 := HG.out.2.2.2 e (hge ▸ List.getElem_mem hlt)
        have hdr : l1.drop j = e :: l1.drop (j + 1) := by rw [List.drop_eq_getElem_cons hlt, hge]
        rw [hdr, sumF_cons] at hsu
        have hwr : IntKind.i64.wrap (s + e.f2) = s + e.f2 := IntWalk.i64_in _ (by omega)
        have HSN := Aside0.mk (show 0 ≤ s ∧ s ≤ 100000 * ((j : Int)) ∧ 0 ≤ e.f2 ∧ e.f2 ≤ 100000 from ⟨hs0, hs1, hcnt⟩)
        rw [he] at hx0 hx1 hx2
        simp only [Int.toNat_natCast] at hx0 hx1 hx2
        clear he hge hcnt hdr hlt hk hj hs0 hs1 H20
        cases ha : hasI out e.f0 with
        | false =>
         rw [ha, if_neg (by simp)] at hsu
         have HSU := Aside0.mk hsu
         have HA := Aside0.mk ha
         clear hsu ha
         go_wp2_with (first | ((with_reducible refine gate_dst (N := 15) rfl ?_); refine bxe 15 #[.int .i64 0, .int .i64 0, .int .i64 0] 48 ?_; intro gb hg w7 hbox hb; have GB := Aside0.mk (show wi.heap.size ≤ gb by rw [hg]; exact below_size HB3.out); have n0_ := Aside0.mk (below_step HB3.out hb); have BB := Aside0.mk hbox; have n5_ := pw_cell_below hb hx0; have n6_ := pw_cell_below hb hx1; have n7_ := pw_cell_below hb hx2; clear HB3 hb hbox hg hx0 hx1 hx2; have HB3 := n0_; have hx0 := n5_; have hx1 := n6_; have hx2 := n7_; clear n0_ n5_ n6_ n7_; obtain ⟨hz0, hf0, hz1, hf1, hz2, hf2⟩ := bk3 BB.out) | ((with_reducible refine gate_store (t := 48) (p := 15) rfl ?_); refine store_event (t := 48) (p := 15) (v := ?vo_5) (w1 := (((w7.setCell ⟨gb, 0, none⟩ (.int .i64 e.f0)).setCell ⟨gb, 1, none⟩ (.int .i64 e.f1)).setCell ⟨gb, 2, none⟩ (.int .i64 e.f2))) ?hg ?ho ?hn ?hr ?_; (case ho => rfl); (case hg => rfl); (case hn => rfl); (case hr => first | (go_simp; done) | (go_simp; rfl)); intro w8 hw; have n0_ : Aside0 (Below wi.heap.size wi w8) := ⟨by rw [hw]; exact below_set (below_set (below_set HB3.out GB.out) GB.out) GB.out⟩; have n1_ : Aside0 (w8.heap[gb]? = some (.cells #[.int .i64 e.f0, .int .i64 e.f1, .int .i64 e.f2] 48 (0, 0))) := ⟨by rw [hw]; exact blk_set (blk_set (blk_set BB.out 0 _) 1 _) 2 _⟩; clear hw HB3 BB hz0 hf0 hz1 hf1 hz2 hf2 hx0 hx1 hx2; have HB3 := n0_; have BB := n1_; clear n0_ n1_; obtain ⟨hz0, hf0, hz1, hf1, hz2, hf2⟩ := bk3 BB.out) | (go_at_call 63; (with_reducible refine (Lo.contains A7 c7 out e.f0 false _ ?s1 ?s2 ?s3 HA.out).mono ?_); (case s1 => exact Kd.C_below HOC.out.2.2 HB3.out); (case s2 => exact HOC.out.2.1); (case s3 => have := HLENL.out; omega); rintro e_ w9 ⟨rfl, hb⟩; have n0_ := Aside0.mk (below_step HB3.out hb); have n1_ := Aside0.mk (blk_below BB.out hb); clear hb HB3 BB hz0 hf0 hz1 hf1 hz2 hf2; have HB3 := n0_; have BB := n1_; clear n0_ n1_; obtain ⟨hz0, hf0, hz1, hf1, hz2, hf2⟩ := bk3 BB.out))
         go_roundg (l1.length - (j + 1))
         case measure => have := HLT2.out; have := HKK2.out; omega
         case rel => exact ⟨j + 1, s, rfl, by rw [← HWR2.out], by have := HLT2.out; omega, by omega, HSU.out, by have := HSN.out; omega, by have := HSN.out; omega, ⟨HB3.out⟩⟩
        | true =>
         cases hb : hasI c e.f1 with
         | false =>
          rw [ha, hb, if_neg (by simp)] at hsu
          have HSU := Aside0.mk hsu
          have HA := Aside0.mk ha
          have HBB := Aside0.mk hb
          clear hsu ha hb
          go_wp2_with (first | ((with_reducible refine gate_dst (N := 15) rfl ?_); refine bxe 15 #[.int .i64 0, .int .i64 0, .int .i64 0] 48 ?_; intro gb hg w7 hbox hb; have GB := Aside0.mk (show wi.heap.size ≤ gb by rw [hg]; exact below_size HB3.out); have n0_ := Aside0.mk (below_step HB3.out hb); have BB := Aside0.mk hbox; have n5_ := pw_cell_below hb hx0; have n6_ := pw_cell_below hb hx1; have n7_ := pw_cell_below hb hx2; clear HB3 hb hbox hg hx0 hx1 hx2; have HB3 := n0_; have hx0 := n5_; have hx1 := n6_; have hx2 := n7_; clear n0_ n5_ n6_ n7_; obtain ⟨hz0, hf0, hz1, hf1, hz2, hf2⟩ := bk3 BB.out) | ((with_reducible refine gate_store (t := 48) (p := 15) rfl ?_); refine store_event (t := 48) (p := 15) (v := ?vo_5) (w1 := (((w7.setCell ⟨gb, 0, none⟩ (.int .i64 e.f0)).setCell ⟨gb, 1, none⟩ (.int .i64 e.f1)).setCell ⟨gb, 2, none⟩ (.int .i64 e.f2))) ?hg ?ho ?hn ?hr ?_; (case ho => rfl); (case hg => rfl); (case hn => rfl); (case hr => first | (go_simp; done) | (go_simp; rfl)); intro w8 hw; have n0_ : Aside0 (Below wi.heap.size wi w8) := ⟨by rw [hw]; exact below_set (below_set (below_set HB3.out GB.out) GB.out) GB.out⟩; have n1_ : Aside0 (w8.heap[gb]? = some (.cells #[.int .i64 e.f0, .int .i64 e.f1, .int .i64 e.f2] 48 (0, 0))) := ⟨by rw [hw]; exact blk_set (blk_set (blk_set BB.out 0 _) 1 _) 2 _⟩; clear hw HB3 BB hz0 hf0 hz1 hf1 hz2 hf2 hx0 hx1 hx2; have HB3 := n0_; have BB := n1_; clear n0_ n1_; obtain ⟨hz0, hf0, hz1, hf1, hz2, hf2⟩ := bk3 BB.out) | (go_at_call 63; (with_reducible refine (Lo.contains A7 c7 out e.f0 true _ ?s1 ?s2 ?s3 HA.out).mono ?_); (case s1 => exact Kd.C_below HOC.out.2.2 HB3.out); (case s2 => exact HOC.out.2.1); (case s3 => have := HLENL.out; omega); rintro e_ w9 ⟨rfl, hb⟩; have n0_ := Aside0.mk (below_step HB3.out hb); have n1_ := Aside0.mk (blk_below BB.out hb); clear hb HB3 BB hz0 hf0 hz1 hf1 hz2 hf2; have HB3 := n0_; have BB := n1_; clear n0_ n1_; obtain ⟨hz0, hf0, hz1, hf1, hz2, hf2⟩ := bk3 BB.out) | (go_at_call 63; (with_reducible refine (Lo.contains A0 c0 c e.f1 false _ ?s1 ?s2 ?s3 HBB.out).mono ?_); (case s1 => exact Kd.C_below HC0.out HB3.out); (case s2 => exact HL0.out); (case s3 => have := HCL.out; omega); rintro e_ w10 ⟨rfl, hb⟩; have n0_ := Aside0.mk (below_step HB3.out hb); have n1_ := Aside0.mk (blk_below BB.out hb); clear hb HB3 BB hz0 hf0 hz1 hf1 hz2 hf2; have HB3 := n0_; have BB := n1_; clear n0_ n1_; obtain ⟨hz0, hf0, hz1, hf1, hz2, hf2⟩ := bk3 BB.out))
          go_roundg (l1.length - (j + 1))
          case measure => have := HLT2.out; have := HKK2.out; omega
          case rel => exact ⟨j + 1, s, rfl, by rw [← HWR2.out], by have := HLT2.out; omega, by omega, HSU.out, by have := HSN.out; omega, by have := HSN.out; omega, ⟨HB3.out⟩⟩
         | true =>
          rw [ha, hb, if_pos ⟨rfl, rfl⟩] at hsu
          have HSU := Aside0.mk hsu
          have HA := Aside0.mk ha
          have HBB := Aside0.mk hb
          clear hsu ha hb
          go_wp2_with (first | ((with_reducible refine gate_dst (N := 15) rfl ?_); refine bxe 15 #[.int .i64 0, .int .i64 0, .int .i64 0] 48 ?_; intro gb hg w7 hbox hb; have GB := Aside0.mk (show wi.heap.size ≤ gb by rw [hg]; exact below_size HB3.out); have n0_ := Aside0.mk (below_step HB3.out hb); have BB := Aside0.mk hbox; have n5_ := pw_cell_below hb hx0; have n6_ := pw_cell_below hb hx1; have n7_ := pw_cell_below hb hx2; clear HB3 hb hbox hg hx0 hx1 hx2; have HB3 := n0_; have hx0 := n5_; have hx1 := n6_; have hx2 := n7_; clear n0_ n5_ n6_ n7_; obtain ⟨hz0, hf0, hz1, hf1, hz2, hf2⟩ := bk3 BB.out) | ((with_reducible refine gate_store (t := 48) (p := 15) rfl ?_); refine store_event (t := 48) (p := 15) (v := ?vo_5) (w1 := (((w7.setCell ⟨gb, 0, none⟩ (.int .i64 e.f0)).setCell ⟨gb, 1, none⟩ (.int .i64 e.f1)).setCell ⟨gb, 2, none⟩ (.int .i64 e.f2))) ?hg ?ho ?hn ?hr ?_; (case ho => rfl); (case hg => rfl); (case hn => rfl); (case hr => first | (go_simp; done) | (go_simp; rfl)); intro w8 hw; have n0_ : Aside0 (Below wi.heap.size wi w8) := ⟨by rw [hw]; exact below_set (below_set (below_set HB3.out GB.out) GB.out) GB.out⟩; have n1_ : Aside0 (w8.heap[gb]? = some (.cells #[.int .i64 e.f0, .int .i64 e.f1, .int .i64 e.f2] 48 (0, 0))) := ⟨by rw [hw]; exact blk_set (blk_set (blk_set BB.out 0 _) 1 _) 2 _⟩; clear hw HB3 BB hz0 hf0 hz1 hf1 hz2 hf2 hx0 hx1 hx2; have HB3 := n0_; have BB := n1_; clear n0_ n1_; obtain ⟨hz0, hf0, hz1, hf1, hz2, hf2⟩ := bk3 BB.out) | (go_at_call 63; (with_reducible refine (Lo.contains A7 c7 out e.f0 true _ ?s1 ?s2 ?s3 HA.out).mono ?_); (case s1 => exact Kd.C_below HOC.out.2.2 HB3.out); (case s2 => exact HOC.out.2.1); (case s3 => have := HLENL.out; omega); rintro e_ w9 ⟨rfl, hb⟩; have n0_ := Aside0.mk (below_step HB3.out hb); have n1_ := Aside0.mk (blk_below BB.out hb); clear hb HB3 BB hz0 hf0 hz1 hf1 hz2 hf2; have HB3 := n0_; have BB := n1_; clear n0_ n1_; obtain ⟨hz0, hf0, hz1, hf1, hz2, hf2⟩ := bk3 BB.out) | (go_at_call 63; (with_reducible refine (Lo.contains A0 c0 c e.f1 true _ ?s1 ?s2 ?s3 HBB.out).mono ?_); (case s1 => exact Kd.C_below HC0.out HB3.out); (case s2 => exact HL0.out); (case s3 => have := HCL.out; omega); rintro e_ w10 ⟨rfl, hb⟩; have n0_ := Aside0.mk (below_step HB3.out hb); have n1_ := Aside0.mk (blk_below BB.out hb); clear hb HB3 BB hz0 hf0 hz1 hf1 hz2 hf2; have HB3 := n0_; have BB := n1_; clear n0_ n1_; obtain ⟨hz0, hf0, hz1, hf1, hz2, hf2⟩ := bk3 BB.out))
          go_roundg (l1.length - (j + 1))
          case measure => have := HLT2.out; have := HKK2.out; omega
          case rel => exact ⟨j + 1, s + e.f2, rfl, by rw [← HWR2.out], by have := HLT2.out; omega, by omega, HSU.out, by have := HSN.out; omega, by have := HSN.out; omega, ⟨HB3.out⟩⟩
       ·have hd : decide ((j : Int) < (l1.length : Int)) = false := decide_eq_false (by omega)
        have hd0 : decide (j < l1.length) = false := decide_eq_false hlt
        rw [List.drop_eq_nil_of_le (by omega)] at hsu
        have hsu2 : s = sumF out c l1 0 := hsu
        have HSU := Aside0.mk hsu2
        have HN2 := Aside0.mk (below_step HB2.out HB3.out)
        clear hsu hsu2 hlt hj hk hs0 hs1
        by_cases hgt : m < s
        ·have hg0 : decide (m < s) = true := decide_eq_true hgt
         have HGT := Aside0.mk hgt
         clear hgt
         go_wp2
         go_roundg (L.length - (i + 1))
         case measure => have := HLT.out; have := HKK.out; omega
         case rel => exact ⟨i + 1, i, s, rfl, rfl, by rw [← HWR.out], by have := HLT.out; omega, by omega, HLT.out, by rw [← HSC.out, HCI.out, scanL_gt HSU.out HGT.out], ⟨HN2.out⟩⟩
        ·have hg0 : decide (m < s) = false := decide_eq_false hgt
         have HGT := Aside0.mk hgt
         clear hgt
         go_wp2
         go_roundg (L.length - (i + 1))
         case measure => have := HLT.out; have := HKK.out; omega
         case rel => exact ⟨i + 1, b, m, rfl, rfl, by rw [← HWR.out], by have := HLT.out; omega, by omega, HBL.out, by rw [← HSC.out, HCI.out, scanL_le HSU.out (Int.not_lt.2 HGT.out)], ⟨HN2.out⟩⟩
     ·have hd : decide ((i : Int) < (L.length : Int)) = false := decide_eq_false (by omega)
      have hd0 : decide (i < L.length) = false := decide_eq_false hlt
      rw [List.drop_eq_nil_of_le (by omega)] at hsc
      have hsb : b = scanL out l1 L 0 0 (-1) := hsc
      have pj : (0 ≤ (b : Int)) = True := eq_true (by omega)
      have qj : ((b : Int) < (L.length : Int)) = True := eq_true (by omega)
      have HBL := Aside0.mk hbl
      have HSB := Aside0.mk hsb
      have hwr : IntKind.i64.wrap ((b : Int) + 1) = (b : Int) + 1 := IntWalk.i64_in _ (by have := HMX.out; omega)
      obtain ⟨ad0, A0, c0, e0, hx0, hl0, hC0⟩ := at_L5 (Lf.reads HLi.out).2.2 (b : Int) (by omega) (by omega)
      subst e0
      have hfe := flat_erase_len hbl
      have hce : L.getD b [] = rd_L5 L (b : Int) := rfl
      rw [hce] at hfe
      have HFE := Aside0.mk (show out.length + (rd_L5 L (b : Int)).length + (L.eraseIdx b).flatten.length ≤ 8 by omega)
      have HC0 := Aside0.mk hC0
      simp only [Int.toNat_natCast] at hx0
      clear hC0 hfe hlt hk hbl hsc hsb HLL HGG hi hl0
      go_wp2_with (first | ((with_reducible refine gate_builtin (b := .append) (xs := #[.tmp 67, .tmp 71]) rfl ?_); at_builtin; refine Kd.R_append_rows (Kd.int .i64) (w0 := w) w.heap.size rfl (.tmp 67) (.tmp 71) 34 3 (.int .i64 0) 8 rfl Try.underlying34 info3 rfl (by decide) (by omega) (.slice A7 out.length c7) out (rd_L5 L (b : Int)) _ _ _ (fun _ => True) (fun _ => False) rfl rfl ?aO ?aR (fun _ _ h => h) (fun _ h => h.elim) ?aF ?aB ?aS ?aL ?_; (case aR => exact HC0.out); (case aB => exact HBW.out); (case aF => exact (fun _ _ => trivial)); (case aO => exact HOi.out); (case aS => exact (below_size HBW.out)); (case aL => have := HFE.out; omega); intro v5 w5 ho hb hg hat; have n0_ := Aside0.mk (Lf.after HLi.out (Lf.ne HLi.out HOi.out) hg hat); have n1_ := Aside0.mk (show Kd.R (Kd.int .i64) 3 w5 w.heap.size (fun _ => True) v5 (out ++ rd_L5 L (b : Int)) from ho); have n2_ := Aside0.mk hb; clear HOi HLi HBW HC0 ho hb hg hat hx0; have HLi := n0_; have HOi := n1_; have HBW := n2_; clear n0_ n1_ n2_) | (go_at_call 64; (with_reducible refine (Lo.delete HLi.out b ((b : Int) + 1) HBL.out rfl).mono ?_); rintro e_ w6 ⟨v6, rfl, hL, hgr⟩; have n0_ := Aside0.mk hL; have n1_ := Aside0.mk (Kd.R_over' (v := .slice (some ⟨g, 0, none⟩) 0 0) HOi.out (fun k hk => by injection hk with hk; subst hk; exact (Lf.typed HLi.out).2) (by decide) hgr); have n2_ := Aside0.mk (Below.grown HBW.out hgr (below_size HBW.out) (fun k hk => by injection hk with hk; subst hk; exact HBG.out)); clear HLi HOi HBW hL hgr; have HLi := n0_; have HOi := n1_; have HBW := n2_; clear n0_ n1_ n2_))
      go_roundg (L.length - 1)
      case measure => have := HPOSL.out; have := HKL.out; omega
      case rel => exact ⟨out ++ rd_L5 L (b : Int), L.eraseIdx b, by rw [List.length_eraseIdx, if_pos HBL.out, ← HRESL.out]; obtain ⟨q, hq⟩ : ∃ q, L.length = q + 1 := ⟨L.length - 1, by have := HPOSL.out; omega⟩; rw [hq, Nat.add_sub_cancel]; exact layR_succ l1 q out L b HSB.out, by rw [List.length_eraseIdx, if_pos HBL.out]; omega, by rw [List.length_append]; exact HFE.out, ⟨HOi.out⟩, ⟨HLi.out⟩, ⟨HBW.out⟩⟩
   ·have hd0 : decide (0 < L.length) = false := decide_eq_false hpos
    have hd1 : decide ((0 : Int) < (L.length : Int)) = false := decide_eq_false (by omega)
    have h0 : L.length = 0 := by omega
    rw [h0] at hres2
    have hro : out = r1 := hres2
    have HRO := Aside0.mk hro
    clear hres2 hro h0 hpos hk hlen
    go_wp2
    go_ret2
    exact ⟨_, rfl, by rw [← HRO.out]; exact HO.out, HB.out⟩


/-! ### laws_eqIntS: function 22 -/
def laws_eqIntS.l0 : Nat → List Int → List Int → Int → Option (Bool)
 | 0, _, _, _ => none
 | k + 1, x0, x1, x5 => if x5 < (x0.length : Int) then (if 0 ≤ x5 then (if x5 < (x1.length : Int) then (if (rd x0 x5) = (rd x1 x5) then (laws_eqIntS.l0 k x0 x1 (wrap64 (x5 + 1))) else (some false)) else (none)) else (none)) else (some true)
def laws_eqIntS.f (k : Nat) (l0 : List Int) (l1 : List Int) : Option (Bool) := if (l0.length : Int) = (l1.length : Int) then (laws_eqIntS.l0 k l0 l1 0) else (some false)
theorem laws_eqIntS.mono_l : ∀ k, (∀ y0 y1 y2, LeO (laws_eqIntS.l0 k y0 y1 y2) (laws_eqIntS.l0 (k + 1) y0 y1 y2))
 | 0 => fun _ _ _ r h => by simp [laws_eqIntS.l0] at h
 | k + 1 => by
  have ih0 := laws_eqIntS.mono_l k
  ·intro y0 y1 y2
   unfold laws_eqIntS.l0
   repeat' first
   | with_reducible apply ih0
   | (with_reducible exact LeO.refl _)
   | (with_reducible exact LeO.none _)
   | (with_reducible refine LeO.ite ?_ ?_)
   | (with_reducible refine LeO.bind ?_ (fun _ => ?_))
   | apply ih0
   | exact LeO.none _
   | refine LeO.ite ?_ ?_
   | refine LeO.bind ?_ (fun _ => ?_)
theorem laws_eqIntS.mono : ∀ a0 a1 k, LeO (laws_eqIntS.f k a0 a1) (laws_eqIntS.f (k + 1) a0 a1) := by
 intro a0 a1 k
 have ih0 := laws_eqIntS.mono_l k
 unfold laws_eqIntS.f
 repeat' first
   | with_reducible apply ih0
   | (with_reducible exact LeO.refl _)
   | (with_reducible exact LeO.none _)
   | (with_reducible refine LeO.ite ?_ ?_)
   | (with_reducible refine LeO.bind ?_ (fun _ => ?_))
   | apply ih0
   | exact LeO.none _
   | refine LeO.ite ?_ ?_
   | refine LeO.bind ?_ (fun _ => ?_)
set_option maxHeartbeats 8000000 in
set_option maxRecDepth 100000 in
theorem laws_eqIntS.calls (k : Nat) (A0 : Option Addr) (c0 : Nat) (l0 : List Int) (A1 : Option Addr) (c1 : Nat) (l1 : List Int) (r : Bool) (w : World) (hr0 : Kd.C (Kd.int .i64) w A0 l0.length l0) (hc0 : l0.length ≤ c0) (hr1 : Kd.C (Kd.int .i64) w A1 l1.length l1) (hc1 : l1.length ≤ c1) (h : laws_eqIntS.f k l0 l1 = some r) :
  Calls Try.prog 22 #[.slice A0 l0.length c0, .slice A1 l1.length c1] w fun e w' => e = .returned (.bool r) ∧ Drawn0 w w' := by
 have HR0 := Aside0.mk hr0
 have HC0 := Aside0.mk hc0
 clear hr0 hc0
 have HR1 := Aside0.mk hr1
 have HC1 := Aside0.mk hc1
 clear hr1 hc1
 have H : (if (l0.length : Int) = (l1.length : Int) then (laws_eqIntS.l0 k l0 l1 0) else (some false)) = some r := h
 clear h
 by_cases c3 : (l0.length : Int) = (l1.length : Int)
 ·rw [if_pos c3] at H
  have c3b0 : ((l0.length : Int) == (l1.length : Int)) = true := beq_iff_eq.mpr c3
  have c3b1 : ((l0.length : Int) != (l1.length : Int)) = false := bne_eq_false_iff_eq.mpr c3
  have c3b2 : (l0.length == l1.length) = true := by first | simpa using c3 | (simp at c3 ⊢; omega)
  clear c3
  have H' := Aside0.mk H
  clear H
  go_enter Try.func22, Try.ntmps22
  go_wp2
  repeat (go_quiet (fail); try go_wp2)
  go_loopg [5] k (fun kq v5 w' => ∃ (x5_1 : Int), v5 = .int .i64 x5_1 ∧ Aside0 (laws_eqIntS.l0 kq l0 l1 x5_1 = some r) ∧ Aside0 (kq ≤ k) ∧ Drawn0 w w')
  case atStart => exact ⟨(0), lF, H', ⟨Nat.le_refl _⟩, by repeat (first | exact Drawn0.refl _ | apply Drawn0.step)⟩
  case round =>
   clear H'
   try clear c1
   try clear c2
   try clear p2
   try clear c3
   try clear c3b0
   try clear c3b1
   try clear c3b2
   obtain ⟨x5_1, rfl, HA, HK1, ⟨m1, rfl⟩⟩ := hrel
   cases gk with
   | zero => exact absurd HA.out (by simp [laws_eqIntS.l0])
   | succ k1 =>
    have H := HA.out
    clear HA
    simp only [laws_eqIntS.l0] at H
    by_cases c4 : x5_1 < (l0.length : Int)
    ·rw [if_pos c4] at H
     have c4b0 : decide (x5_1 < (l0.length : Int)) = true := decide_eq_true c4
     clear c4
     by_cases c5 : 0 ≤ x5_1
     ·rw [if_pos c5] at H
      have c5b0 : decide (0 ≤ x5_1) = true := decide_eq_true c5
      clear c5
      by_cases c6 : x5_1 < (l1.length : Int)
      ·rw [if_pos c6] at H
       have c6b0 : decide (x5_1 < (l1.length : Int)) = true := decide_eq_true c6
       clear c6
       by_cases c7 : (rd l0 x5_1) = (rd l1 x5_1)
       ·rw [if_pos c7] at H
        have c7b0 : ((rd l0 x5_1) == (rd l1 x5_1)) = true := beq_iff_eq.mpr c7
        have c7b1 : ((rd l0 x5_1) != (rd l1 x5_1)) = false := bne_eq_false_iff_eq.mpr c7
        clear c7
        have H' := Aside0.mk H
        clear H
        have p256 : 0 ≤ (x5_1 : Int) := lD
        have q256 : x5_1 < (l0.length : Int) := lD
        obtain ⟨ad256, e256, hx256_0⟩ := Kd.at_int HR0.out x5_1 p256 q256
        cases e256
        replace p256 := eq_true p256
        replace q256 := eq_true q256
        have p257 : 0 ≤ (x5_1 : Int) := lD
        have q257 : x5_1 < (l1.length : Int) := lD
        obtain ⟨ad257, e257, hx257_0⟩ := Kd.at_int HR1.out x5_1 p257 q257
        cases e257
        replace p257 := eq_true p257
        replace q257 := eq_true q257
        go_wp2
        repeat (go_quiet (fail); try go_wp2)
        go_roundg k1
        case measure => have := HK1.out; omega
        case rel => exact ⟨(wrap64 (x5_1 + 1)), lF, H', ⟨by have := HK1.out; omega⟩, by repeat (first | exact Drawn0.refl _ | apply Drawn0.step)⟩
       ·rw [if_neg c7] at H
        have c7b0 : ((rd l0 x5_1) == (rd l1 x5_1)) = false := beq_eq_false_iff_ne.mpr c7
        have c7b1 : ((rd l0 x5_1) != (rd l1 x5_1)) = true := bne_iff_ne.mpr c7
        obtain rfl := Option.some.inj H
        have p256 : 0 ≤ (x5_1 : Int) := lD
        have q256 : x5_1 < (l0.length : Int) := lD
        obtain ⟨ad256, e256, hx256_0⟩ := Kd.at_int HR0.out x5_1 p256 q256
        cases e256
        replace p256 := eq_true p256
        replace q256 := eq_true q256
        have p257 : 0 ≤ (x5_1 : Int) := lD
        have q257 : x5_1 < (l1.length : Int) := lD
        obtain ⟨ad257, e257, hx257_0⟩ := Kd.at_int HR1.out x5_1 p257 q257
        cases e257
        replace p257 := eq_true p257
        replace q257 := eq_true q257
        go_wp2
        repeat (go_quiet (fail); try go_wp2)
        go_ret
        exact ⟨by first | rfl | (simp; done) | (simp [*]; done), by repeat (first | exact Drawn0.refl _ | apply Drawn0.step)⟩
      ·rw [if_neg c6] at H
       exact absurd H (by simp)
     ·rw [if_neg c5] at H
      exact absurd H (by simp)
    ·rw [if_neg c4] at H
     have c4b0 : decide (x5_1 < (l0.length : Int)) = false := decide_eq_false c4
     clear c4
     obtain rfl := Option.some.inj H
     go_wp2
     repeat (go_quiet (fail); try go_wp2)
     go_ret
     exact ⟨by first | rfl | (simp; done) | (simp [*]; done), by repeat (first | exact Drawn0.refl _ | apply Drawn0.step)⟩
 ·rw [if_neg c3] at H
  have c3b0 : ((l0.length : Int) == (l1.length : Int)) = false := beq_eq_false_iff_ne.mpr c3
  have c3b1 : ((l0.length : Int) != (l1.length : Int)) = true := bne_iff_ne.mpr c3
  have c3b2 : (l0.length == l1.length) = false := by first | simpa using c3 | (simp at c3 ⊢; omega)
  obtain rfl := Option.some.inj H
  go_enter Try.func22, Try.ntmps22
  go_wp2
  repeat (go_quiet (fail); try go_wp2)
  go_ret
  exact ⟨by first | rfl | (simp; done) | (simp [*]; done), by repeat (first | exact Drawn0.refl _ | apply Drawn0.step)⟩

/-! ### laws_markIntS: function 23 -/
def laws_markIntS.l0 : Nat → List Int → Int → Int → Option (Int × List Int)
 | 0, _, _, _ => none
 | k + 1, x0, x1, x5 => if x5 < (x0.length : Int) then (if 0 ≤ x5 then (laws_markIntS.l0 k (x0.set (x5 : Int).toNat x1) (wrap64 (x1 + 1)) (wrap64 (x5 + 1))) else (none)) else (some (x1, x0))
def laws_markIntS.f (k : Nat) (l0 : List Int) (a1 : Int) : Option (Int × List Int) := laws_markIntS.l0 k l0 a1 0
theorem laws_markIntS.mono_l : ∀ k, (∀ y0 y1 y2, LeO (laws_markIntS.l0 k y0 y1 y2) (laws_markIntS.l0 (k + 1) y0 y1 y2))
 | 0 => fun _ _ _ r h => by simp [laws_markIntS.l0] at h
 | k + 1 => by
  have ih0 := laws_markIntS.mono_l k
  ·intro y0 y1 y2
   unfold laws_markIntS.l0
   repeat' first
   | with_reducible apply ih0
   | (with_reducible exact LeO.refl _)
   | (with_reducible exact LeO.none _)
   | (with_reducible refine LeO.ite ?_ ?_)
   | (with_reducible refine LeO.bind ?_ (fun _ => ?_))
   | apply ih0
   | exact LeO.none _
   | refine LeO.ite ?_ ?_
   | refine LeO.bind ?_ (fun _ => ?_)
theorem laws_markIntS.mono : ∀ a0 a1 k, LeO (laws_markIntS.f k a0 a1) (laws_markIntS.f (k + 1) a0 a1) := by
 intro a0 a1 k
 have ih0 := laws_markIntS.mono_l k
 unfold laws_markIntS.f
 repeat' first
   | with_reducible apply ih0
   | (with_reducible exact LeO.refl _)
   | (with_reducible exact LeO.none _)
   | (with_reducible refine LeO.ite ?_ ?_)
   | (with_reducible refine LeO.bind ?_ (fun _ => ?_))
   | apply ih0
   | exact LeO.none _
   | refine LeO.ite ?_ ?_
   | refine LeO.bind ?_ (fun _ => ?_)
set_option maxHeartbeats 8000000 in
set_option maxRecDepth 100000 in
theorem laws_markIntS.calls (k : Nat) (P0_ : Nat → Prop) (u9000_ : Value) (l0 : List Int) (a1 : Int) (r1 : Int) (r2 : List Int) (w0 w : World) (hB : Below w0.heap.size w0 w) (ho0 : Kd.R (Kd.int .i64) 3 w w0.heap.size P0_ u9000_ l0) (h : laws_markIntS.f k l0 a1 = some (r1, r2)) :
  Calls Try.prog 23 #[u9000_, .int .i64 a1] w fun e w' => e = .returned (.int .i64 r1) ∧ Kd.R (Kd.int .i64) 3 w' w0.heap.size (fun k_ => (P0_ k_ ∨ w.heap.size ≤ k_)) u9000_ r2 ∧ Below w0.heap.size w0 w' ∧ Kept w w' (fun k_ => P0_ k_) := by
 have HO0 := Aside0.mk (show Kd.R (Kd.int .i64) 3 w w0.heap.size (fun k_ => (P0_ k_ ∨ w.heap.size ≤ k_)) u9000_ l0 from Kd.R_mono ho0 (fun k_ hk => (.inl hk)))
 have HK := Aside0.mk (Kept.refl w (fun k_ => P0_ k_))
 have HW0 := Aside0.mk hB.size
 have HB := Aside0.mk hB
 clear hB
 have H : (laws_markIntS.l0 k l0 a1 0) = some (r1, r2) := h
 clear h
 have H' := Aside0.mk H
 clear H
 go_enter Try.func23, Try.ntmps23
 go_wp2
 go_loopg [1, 5] k (fun kq v1 v5 w' => ∃ (x0_1 : List Int) (x1_1 : Int) (x5_1 : Int), v1 = .int .i64 x1_1 ∧ v5 = .int .i64 x5_1 ∧ Aside0 (laws_markIntS.l0 kq x0_1 x1_1 x5_1 = some (r1, r2)) ∧ Aside0 (kq ≤ k) ∧ Aside0 (Kd.R (Kd.int .i64) 3 w' w0.heap.size (fun k_ => (P0_ k_ ∨ w.heap.size ≤ k_)) u9000_ x0_1) ∧ Aside0 (Kept w w' (fun k_ => P0_ k_)) ∧ Aside0 (Below w0.heap.size w0 w'))
 case atStart => exact ⟨(l0), (a1), (0), lF, lF, H', ⟨Nat.le_refl _⟩, ⟨lR HO0.out⟩, ⟨by repeat (first | (with_reducible first | exact HK.out | apply Kept.alloc | apply Kept.drewN | apply Kept.drew) | exact HK.out)⟩, ⟨lB⟩⟩
 case round =>
  clear H'
  try clear c2
  try clear p2
  obtain ⟨x0_1, x1_1, x5_1, rfl, rfl, HA, HK1, HO_0, HK, HB⟩ := hrel
  cases gk with
  | zero => exact absurd HA.out (by simp [laws_markIntS.l0])
  | succ k1 =>
   have H := HA.out
   clear HA
   simp only [laws_markIntS.l0] at H
   by_cases c3 : x5_1 < (x0_1.length : Int)
   ·rw [if_pos c3] at H
    have c3b0 : decide (x5_1 < (x0_1.length : Int)) = true := decide_eq_true c3
    clear c3
    by_cases c4 : 0 ≤ x5_1
    ·rw [if_pos c4] at H
     have c4b0 : decide (0 ≤ x5_1) = true := decide_eq_true c4
     clear c4
     obtain ⟨y258, hy258⟩ : ∃ y_ : List Int, y_ = (x0_1.set (x5_1 : Int).toNat x1_1) := ⟨_, rfl⟩
     replace H : (laws_markIntS.l0 k1 y258 (wrap64 (x1_1 + 1)) (wrap64 (x5_1 + 1))) = some (r1, r2) := by first | (rw [hy258]; with_reducible exact H) | (have H2_ := (Option.bind_some _ _).symm.trans H; rw [hy258]; with_reducible exact H2_) | (have H2_ := (Option.bind_some _ _).symm.trans H; with_reducible exact H2_) | with_reducible exact H | (rw [hy258]; exact H) | exact H
     have Ny258 := Aside0.mk hy258
     clear hy258
     have H' := Aside0.mk H
     clear H
     obtain ⟨Ao6, co6, eo6⟩ := Kd.R_slice HO_0.out
     subst eo6
     have p5 : 0 ≤ (x5_1 : Int) := lD
     have q5 : (x5_1 : Int) < ((x0_1.length : Int) : Int) := lD
     obtain ⟨go5, co5, eo5, gb5, gl5, cl5, HG5⟩ := Kd.R_form HO_0.out (by omega)
     (first | cases eo5 | (injection eo5 with ea_ en_ ec_; (first | subst ea_ | (injection ea_ with ea_; subst ea_)); subst ec_; clear en_))
     have GB5 := Aside0.mk gb5
     have GG5 := Aside0.mk HG5
     clear gb5 gl5 HG5
     have HMgo5 := Aside0.mk (show (P0_ go5 ∨ w.heap.size ≤ go5) from (HO_0.out.1 _ rfl))
     obtain ⟨hx5_0, hf5_0⟩ := Kd.R_celln 0 HO_0.out (x5_1 : Int) p5 q5
     replace p5 := eq_true p5
     replace q5 := eq_true q5
     have HP7 := Kd.R_putg HO_0.out (x5_1 : Int) x1_1
     go_wp2_with (first | ((with_reducible refine gate_store (t := 3) (p := 15) rfl ?_); refine store_event (t := 3) (p := 15) (v := ?vo_w8) (w1 := (wr.setCell ⟨go5, (x5_1 : Int).toNat, none⟩ (.int .i64 x1_1))) ?hg ?ho ?hn ?hr ?_; (case ho => rfl); (case hg => rfl); (case hn => rfl); (case hr => first | (go_simp; done) | (go_simp; rfl)); intro w8 hw; have hg : wr.grownBy w8 (some go5) := (by rw [hw]; exact HP7.2); have hp_ : Kd.R (Kd.int .i64) 3 w8 w0.heap.size (fun k_ => (P0_ k_ ∨ w.heap.size ≤ k_)) (.slice (some ⟨go5, 0, none⟩) x0_1.length co6) y258 := (by rw [hw, Ny258.out]; exact HP7.1); clear HP7; have n0_ := Aside0.mk (hp_); have n1_ := Aside0.mk ((by rw [hw]; exact below_set (HB.out) GB5.out : Below w0.heap.size w0 w8)); have n2_ := Aside0.mk (Kept.of_grown (S := (fun k_ => P0_ k_)) hg (by repeat (first | (with_reducible first | exact HK.out | apply Kept.alloc | apply Kept.drewN | apply Kept.drew) | exact HK.out)) (fun k_ e_ => (HO_0.out.1 k_ e_))); clear HO_0; clear HB; clear HK; have HO_0 := n0_; have HB := n1_; have HK := n2_; clear n0_ n1_ n2_; clear hg hw hp_))
     go_roundg k1
     case measure => have := HK1.out; omega
     case rel => exact ⟨(y258), (wrap64 (x1_1 + 1)), (wrap64 (x5_1 + 1)), lF, lF, H', ⟨by have := HK1.out; omega⟩, ⟨lR HO_0.out⟩, ⟨by repeat (first | (with_reducible first | exact HK.out | apply Kept.alloc | apply Kept.drewN | apply Kept.drew) | exact HK.out)⟩, ⟨lB⟩⟩
    ·rw [if_neg c4] at H
     exact absurd H (by simp)
   ·rw [if_neg c3] at H
    have c3b0 : decide (x5_1 < (x0_1.length : Int)) = false := decide_eq_false c3
    clear c3
    simp only [Option.some.injEq, Prod.mk.injEq] at H
    obtain ⟨rfl, rfl⟩ := H
    obtain ⟨Ao9, co9, eo9⟩ := Kd.R_slice HO_0.out
    subst eo9
    first | (go_wp2; go_ret; exact ⟨lE, lR HO_0.out, lB, by repeat (first | (with_reducible first | exact HK.out | apply Kept.alloc | apply Kept.drewN | apply Kept.drew) | exact HK.out)⟩) | (exfalso; simp only [decide_eq_false_iff_not, decide_eq_true_eq] at *; omega)

end Go.Proofs.Ytpnhlccdhflogaa.Q
