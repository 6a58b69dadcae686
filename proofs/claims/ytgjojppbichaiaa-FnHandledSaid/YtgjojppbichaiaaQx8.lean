-- Written by the program wip/tools/pr.py of this claim's session, over the kit's print.py.
import Derived.Test.YtgjojppbichaiaaQx0
import Derived.Test.YtgjojppbichaiaaQx3
namespace Go.Proofs.Ytgjojppbichaiaa.Q
open Go.RowKit Go.Proofs.YtgjojppbichaiaaW.PrintWords Go.Proofs.YtgjojppbichaiaaW.PrintLast Go.Proofs.YtgjojppbichaiaaW.PrintMore
attribute [local go_sem] max2_int min2_int max_two min_two max_three min_three max_four min_four   -- for this text's walks alone
set_option linter.unusedVariables false
set_option linter.unusedSimpArgs false
abbrev Xm.F := Option (List Bool)
def Xm.second (fs : List Xm.F) : Xm.F := match fs[1]? with
  | none => none
  | some f => f.bind fun s => if s.length = 10 then some s else none
def Xm.hit (n : Int) (i : Nat) (b : Bool) : Bool := b && (decide (n = 0) || decide (n = (i : Int)))
def Xm.any (n : Int) : Nat → List Bool → Bool
  | _, [] => false
  | i, b :: bs => Xm.hit n i b || Xm.any n (i + 1) bs
def Xm.left (n : Int) : Nat → List Bool → List Bool
  | _, [] => []
  | i, b :: bs => (b && !Xm.hit n i b) :: Xm.left n (i + 1) bs
def Xm.zip (ct : Bool) : List Bool → List Bool → List Bool
  | b :: bs, s :: ss => (b || ct && s) :: Xm.zip ct bs ss
  | _, _ => []
def Xm.node (kd n : Int) (fs : List Xm.F) : Xm.F :=
  if kd = 1 then some (List.replicate 10 false)
  else if kd = 2 then (if 0 ≤ n ∧ n < 10 then some ((List.replicate 10 false).set n.toNat true) else none)
  else match fs[0]? with
    | none => none
    | some f => (f.bind fun b => if b.length = 10 then some b else none).bind fun b =>
      if kd = 6 then (if n = 0 then some (List.replicate 10 false) else some b)
      else (Xm.second fs).bind fun s =>
        if kd = 4 then some (Xm.zip (Xm.any n 0 b) (Xm.left n 0 b) s) else some (Xm.zip true b s)
mutual
def Xm.may : S72 → Xm.F
  | ⟨kd, n, ts⟩ => Xm.node kd n (Xm.mays ts)
def Xm.mays : List S72 → List Xm.F
  | [] => []
  | t :: ts => Xm.may t :: Xm.mays ts
end
theorem Xm.mays_at : ∀ (ts : List S72) (i : Nat) (f : Xm.F), (Xm.mays ts)[i]? = some f → ∃ t, ts[i]? = some t ∧ f = Xm.may t
  | [], i, f, h => by simp [Xm.mays] at h
  | t :: ts, 0, f, h => by
    simp only [Xm.mays, List.getElem?_cons_zero, Option.some.injEq] at h
    exact ⟨t, rfl, h.symm⟩
  | t :: ts, i + 1, f, h => by
    simp only [Xm.mays, List.getElem?_cons_succ] at h ⊢
    exact Xm.mays_at ts i f h
theorem Xm.ten {l : List Bool} (h : l.length = 10) : ∃ b0 b1 b2 b3 b4 b5 b6 b7 b8 b9, l = [b0, b1, b2, b3, b4, b5, b6, b7, b8, b9] := by
  match l, h with
  | [b0, b1, b2, b3, b4, b5, b6, b7, b8, b9], _ => exact ⟨b0, b1, b2, b3, b4, b5, b6, b7, b8, b9, rfl⟩
theorem Xm.bk10 {w : World} {g : Nat} {t : TypeId} {v0 v1 v2 v3 v4 v5 v6 v7 v8 v9 : Value} (h : w.heap[g]? = some (.cells #[v0, v1, v2, v3, v4, v5, v6, v7, v8, v9] t (0, 0))) : w.cell? ⟨g, 0, none⟩ = some v0 ∧ w.frozen? ⟨g, 0, none⟩ = false ∧ w.cell? ⟨g, 1, none⟩ = some v1 ∧ w.frozen? ⟨g, 1, none⟩ = false ∧ w.cell? ⟨g, 2, none⟩ = some v2 ∧ w.frozen? ⟨g, 2, none⟩ = false ∧ w.cell? ⟨g, 3, none⟩ = some v3 ∧ w.frozen? ⟨g, 3, none⟩ = false ∧ w.cell? ⟨g, 4, none⟩ = some v4 ∧ w.frozen? ⟨g, 4, none⟩ = false ∧ w.cell? ⟨g, 5, none⟩ = some v5 ∧ w.frozen? ⟨g, 5, none⟩ = false ∧ w.cell? ⟨g, 6, none⟩ = some v6 ∧ w.frozen? ⟨g, 6, none⟩ = false ∧ w.cell? ⟨g, 7, none⟩ = some v7 ∧ w.frozen? ⟨g, 7, none⟩ = false ∧ w.cell? ⟨g, 8, none⟩ = some v8 ∧ w.frozen? ⟨g, 8, none⟩ = false ∧ w.cell? ⟨g, 9, none⟩ = some v9 ∧ w.frozen? ⟨g, 9, none⟩ = false :=
  ⟨(blk_cell h 0).trans rfl, blk_frozen h 0, (blk_cell h 1).trans rfl, blk_frozen h 1, (blk_cell h 2).trans rfl, blk_frozen h 2, (blk_cell h 3).trans rfl, blk_frozen h 3, (blk_cell h 4).trans rfl, blk_frozen h 4, (blk_cell h 5).trans rfl, blk_frozen h 5, (blk_cell h 6).trans rfl, blk_frozen h 6, (blk_cell h 7).trans rfl, blk_frozen h 7, (blk_cell h 8).trans rfl, blk_frozen h 8, (blk_cell h 9).trans rfl, blk_frozen h 9⟩
theorem Xm.put10 {w : World} {g : Nat} {t : TypeId} {v0 v1 v2 v3 v4 v5 v6 v7 v8 v9 u0 u1 u2 u3 u4 u5 u6 u7 u8 u9 : Value} (h : w.heap[g]? = some (.cells #[v0, v1, v2, v3, v4, v5, v6, v7, v8, v9] t (0, 0))) : ((((((((((w.setCell ⟨g, 0, none⟩ u0).setCell ⟨g, 1, none⟩ u1).setCell ⟨g, 2, none⟩ u2).setCell ⟨g, 3, none⟩ u3).setCell ⟨g, 4, none⟩ u4).setCell ⟨g, 5, none⟩ u5).setCell ⟨g, 6, none⟩ u6).setCell ⟨g, 7, none⟩ u7).setCell ⟨g, 8, none⟩ u8).setCell ⟨g, 9, none⟩ u9).heap[g]? = some (.cells #[u0, u1, u2, u3, u4, u5, u6, u7, u8, u9] t (0, 0)) :=
  (blk_put (cs := #[u0, u1, u2, u3, u4, u5, u6, u7, u8, v9]) (blk_put (cs := #[u0, u1, u2, u3, u4, u5, u6, u7, v8, v9]) (blk_put (cs := #[u0, u1, u2, u3, u4, u5, u6, v7, v8, v9]) (blk_put (cs := #[u0, u1, u2, u3, u4, u5, v6, v7, v8, v9]) (blk_put (cs := #[u0, u1, u2, u3, u4, v5, v6, v7, v8, v9]) (blk_put (cs := #[u0, u1, u2, u3, v4, v5, v6, v7, v8, v9]) (blk_put (cs := #[u0, u1, u2, v3, v4, v5, v6, v7, v8, v9]) (blk_put (cs := #[u0, u1, v2, v3, v4, v5, v6, v7, v8, v9]) (blk_put (cs := #[u0, v1, v2, v3, v4, v5, v6, v7, v8, v9]) (blk_put (cs := #[v0, v1, v2, v3, v4, v5, v6, v7, v8, v9]) h 0 _ rfl) 1 _ rfl) 2 _ rfl) 3 _ rfl) 4 _ rfl) 5 _ rfl) 6 _ rfl) 7 _ rfl) 8 _ rfl) 9 _ rfl)
theorem Xm.below10 {w W : World} {g : Nat} {u0 u1 u2 u3 u4 u5 u6 u7 u8 u9 : Value} (h : Below w.heap.size w W) (hg : w.heap.size ≤ g) : Below w.heap.size w ((((((((((W.setCell ⟨g, 0, none⟩ u0).setCell ⟨g, 1, none⟩ u1).setCell ⟨g, 2, none⟩ u2).setCell ⟨g, 3, none⟩ u3).setCell ⟨g, 4, none⟩ u4).setCell ⟨g, 5, none⟩ u5).setCell ⟨g, 6, none⟩ u6).setCell ⟨g, 7, none⟩ u7).setCell ⟨g, 8, none⟩ u8).setCell ⟨g, 9, none⟩ u9) :=
  (below_set (below_set (below_set (below_set (below_set (below_set (below_set (below_set (below_set (below_set h hg) hg) hg) hg) hg) hg) hg) hg) hg) hg)
theorem Xm.cellL {w : World} {g : Nat} {t : TypeId} {l : List Bool} (h : w.heap[g]? = some (.cells (l.map Value.bool).toArray t (0, 0))) {i : Nat} (hi : i < l.length) : w.cell? ⟨g, i, none⟩ = some (.bool (l.getD i false)) ∧ w.frozen? ⟨g, i, none⟩ = false :=
  ⟨(blk_cell h i).trans (by simp [hi]), blk_frozen h i⟩
theorem Xm.putL {w : World} {g : Nat} {t : TypeId} {l : List Bool} (h : w.heap[g]? = some (.cells (l.map Value.bool).toArray t (0, 0))) (i : Nat) (b : Bool) {l' : List Bool} (e : l.set i b = l') : (w.setCell ⟨g, i, none⟩ (.bool b)).heap[g]? = some (.cells (l'.map Value.bool).toArray t (0, 0)) :=
  blk_put h i _ (by subst e; simp [List.map_set])
theorem Xm.take_getD {l : List Bool} {i : Nat} (hi : i < l.length) : l.take (i + 1) = l.take i ++ [l.getD i false] := by
  rw [List.take_add_one]; congr 1; simp [hi]
theorem Xm.set_fill {l : List Bool} {i q : Nat} (hi : i < l.length) : (l.take i ++ List.replicate (q + 1) false).set i (l.getD i false) = l.take (i + 1) ++ List.replicate q false := by
  have hl : (l.take i).length = i := by simp; omega
  rw [Xm.take_getD hi, List.set_append_right _ _ (by omega), hl, Nat.sub_self]
  simp [List.replicate_succ]
theorem Xm.zip_len (ct : Bool) : ∀ (l s : List Bool), l.length = s.length → (Xm.zip ct l s).length = l.length
  | [], [], _ => rfl
  | b :: bs, s :: ss, h => by simp only [Xm.zip, List.length_cons]; rw [Xm.zip_len ct bs ss (by simpa using h)]
theorem Xm.zip_getD (ct : Bool) : ∀ (l s : List Bool) (i : Nat), l.length = s.length → i < l.length → (Xm.zip ct l s).getD i false = (l.getD i false || ct && s.getD i false)
  | [], [], i, _, h => absurd h (Nat.not_lt_zero _)
  | b :: bs, s :: ss, 0, _, _ => rfl
  | b :: bs, s :: ss, i + 1, h, hi => by
    have := Xm.zip_getD ct bs ss i (by simpa using h) (by simpa using hi)
    simpa [Xm.zip] using this
theorem Xm.any_snoc (n : Int) (b : Bool) : ∀ (k : Nat) (l : List Bool), Xm.any n k (l ++ [b]) = (Xm.any n k l || Xm.hit n (k + l.length) b)
  | k, [] => by simp [Xm.any]
  | k, x :: xs => by
    simp only [List.cons_append, Xm.any, Xm.any_snoc n b (k + 1) xs, List.length_cons, Bool.or_assoc]
    rw [show k + 1 + xs.length = k + (xs.length + 1) by omega]
theorem Xm.left_snoc (n : Int) (b : Bool) : ∀ (k : Nat) (l : List Bool), Xm.left n k (l ++ [b]) = Xm.left n k l ++ [b && !Xm.hit n (k + l.length) b]
  | k, [] => by simp [Xm.left]
  | k, x :: xs => by
    simp only [List.cons_append, Xm.left, Xm.left_snoc n b (k + 1) xs, List.length_cons]
    rw [show k + 1 + xs.length = k + (xs.length + 1) by omega]
theorem Xm.left_len (n : Int) : ∀ (k : Nat) (l : List Bool), (Xm.left n k l).length = l.length
  | _, [] => rfl
  | k, x :: xs => by simp only [Xm.left, List.length_cons, Xm.left_len n (k + 1) xs]
def Xm.ct (n : Int) (l : List Bool) (i : Nat) : Bool := Xm.any n 0 (l.take i)
def Xm.lf (n : Int) (l : List Bool) (i : Nat) : List Bool := Xm.left n 0 (l.take i) ++ l.drop i
theorem Xm.lf_len (n : Int) (l : List Bool) (i : Nat) : (Xm.lf n l i).length = l.length := by
  simp only [Xm.lf, List.length_append, Xm.left_len, List.length_take, List.length_drop]; omega
theorem Xm.lf_getD (n : Int) {l : List Bool} {i : Nat} (hi : i < l.length) : (Xm.lf n l i).getD i false = l.getD i false := by
  have hl : (Xm.left n 0 (l.take i)).length = i := by rw [Xm.left_len]; simp; omega
  simp only [Xm.lf, List.getD_eq_getElem?_getD]
  rw [List.getElem?_append_right (by omega), hl, Nat.sub_self]
  simp
theorem Xm.step (n : Int) {l : List Bool} {i : Nat} (hi : i < l.length) : Xm.ct n l (i + 1) = (Xm.ct n l i || Xm.hit n i (l.getD i false)) ∧ Xm.lf n l (i + 1) = (Xm.lf n l i).set i (l.getD i false && !Xm.hit n i (l.getD i false)) := by
  have hl : (l.take i).length = i := by simp; omega
  have hl2 : (Xm.left n 0 (l.take i)).length = i := by rw [Xm.left_len]; exact hl
  unfold Xm.ct Xm.lf
  rw [Xm.take_getD hi, Xm.any_snoc, Xm.left_snoc, hl, Nat.zero_add]
  refine ⟨rfl, ?_⟩
  have e : ∀ x, (l.drop i).set 0 x = x :: l.drop (i + 1) := fun x => by rw [List.drop_eq_getElem_cons hi]; rfl
  rw [List.set_append_right _ _ (by omega), hl2, Nat.sub_self, e, List.append_assoc]
  rfl
theorem Xm.step_no (n : Int) {l : List Bool} {i : Nat} (hi : i < l.length) (h : Xm.hit n i (l.getD i false) = false) : Xm.ct n l (i + 1) = Xm.ct n l i ∧ Xm.lf n l (i + 1) = Xm.lf n l i := by
  obtain ⟨h1, h2⟩ := Xm.step n hi
  rw [h] at h1 h2
  refine ⟨by simpa using h1, ?_⟩
  rw [h2, Bool.not_false, Bool.and_true, ← Xm.lf_getD n hi]
  have e : (Xm.lf n l i).getD i false = (Xm.lf n l i)[i]'(by rw [Xm.lf_len]; exact hi) := by simp [Xm.lf_len, hi]
  rw [e, List.set_getElem_self]
theorem Xm.step_yes (n : Int) {l : List Bool} {i : Nat} (hi : i < l.length) (h : Xm.hit n i (l.getD i false) = true) : Xm.ct n l (i + 1) = true ∧ (Xm.lf n l i).set i false = Xm.lf n l (i + 1) := by
  obtain ⟨h1, h2⟩ := Xm.step n hi
  rw [h] at h1 h2
  exact ⟨by simpa using h1, by simpa using h2.symm⟩
abbrev Xm.O10 : Obj := .cells #[.bool false, .bool false, .bool false, .bool false, .bool false, .bool false, .bool false, .bool false, .bool false, .bool false] 95 (0, 0)
theorem Xm.info95 : (Try.prog.info? 95).map (·.size) = some 10 := by kernel_rfl
theorem Xm.alloc_size (w : World) (o : Obj) : (w.alloc o).heap.size = w.heap.size + 1 := by unfold World.alloc; exact Array.size_push ..
def Xm.Post (w : World) (r : List Bool) (e : Ending) (w' : World) : Prop := e = .returned (.agg (r.map Value.bool).toArray) ∧ Below w.heap.size w w'
abbrev Xm.Ok (w0 : World) (B : Nat) (f : Xm.F) (g : Nat) : Prop :=
  ∀ (w : World) (r : List Bool), Below B w0 w → B ≤ w.heap.size → f = some r → Calls Try.prog 61 #[.pointer (some ⟨g, 0, none⟩)] w (Xm.Post w r)
structure Xm.Nd (w0 : World) (B g : Nat) (k n : Int) (A : Option Addr) (m c : Nat) (fs : List Xm.F) : Prop where
  gB : g < B
  w0B : B ≤ w0.heap.size
  cell : w0.heap[g]? = some (.cells #[.int .i64 k, .int .i64 n, .slice A m c] 135 (0, 0))
  kid : ∀ i f, fs[i]? = some f → ∃ gi h, A = some ⟨h, 0, none⟩ ∧ i < m ∧ h < B ∧ w0.cell? ⟨h, i, none⟩ = some (.pointer (some ⟨gi, 0, none⟩)) ∧ Xm.Ok w0 B f gi
theorem Xm.kids0 {w0 : World} {B g : Nat} {k n : Int} {A : Option Addr} {m c : Nat} {fs : List Xm.F} (hN : Xm.Nd w0 B g k n A m c fs) {i : Nat} {f : Xm.F} (hf : fs[i]? = some f) : ∃ gi h, A = some ⟨h, 0, none⟩ ∧ i < m ∧ (∀ w, Below B w0 w → w.cell? ⟨h, i, none⟩ = some (.pointer (some ⟨gi, 0, none⟩))) ∧ Xm.Ok w0 B f gi := by
  obtain ⟨gi, h, h1, h2, h3, h4, h5⟩ := hN.kid i f hf
  exact ⟨gi, h, h1, h2, fun w hw => (hw.cell (p := ⟨h, i, none⟩) h3).trans h4, h5⟩
set_option maxHeartbeats 8000000 in
set_option maxRecDepth 100000 in
theorem Xm.node_ok {w0 : World} {B g : Nat} {k n : Int} {A : Option Addr} {m c : Nat} {fs : List Xm.F} (hN : Xm.Nd w0 B g k n A m c fs) : Xm.Ok w0 B (Xm.node k n fs) g := by
 intro w r hB0 hS h
 have hu95 := Try.underlying95
 have hu135 := Try.underlying135
 have hu76 := Try.underlying76
 have HN := Aside0.mk hN
 have HB := Aside0.mk (Below.refl w.heap.size w)
 have HB0 := Aside0.mk hB0
 have HS := Aside0.mk hS
 clear hB0 hN hS
 unfold Xm.node at h
 by_cases k1 : k = 1
 ·rw [if_pos k1] at h
  subst k1
  obtain rfl := Option.some.inj h
  clear h
  go_enter Try.func61, Try.ntmps61
  go_upto_region 1 with (fail)
  go_upto_region 2 with (fail)
  have n0_ : Aside0 (((w.alloc Xm.O10).alloc Xm.O10).heap[w.heap.size]? = some Xm.O10) := ⟨blk_alloc (blk_new w _) _⟩
  have n1_ : Aside0 (((w.alloc Xm.O10).alloc Xm.O10).heap[w.heap.size + 1]? = some Xm.O10) := ⟨by have h_ := blk_new (w.alloc Xm.O10) Xm.O10; rw [Xm.alloc_size] at h_; exact h_⟩
  have n2_ := Aside0.mk (below_alloc (below_alloc HB.out Xm.O10) Xm.O10)
  generalize (w.alloc Xm.O10).alloc Xm.O10 = w1 at n0_ n1_ n2_ ⊢
  have hne23 : w.heap.size ≠ w.heap.size + 1 := by omega
  have hle2 : w.heap.size ≤ w.heap.size := Nat.le_refl _
  have hle3 : w.heap.size ≤ w.heap.size + 1 := by omega
  generalize hg3 : w.heap.size + 1 = g3 at n1_ hne23 hle3 ⊢
  generalize hg2 : w.heap.size = g2 at n0_ hne23 ⊢
  clear hle2
  have hle2 : w.heap.size ≤ g2 := by omega
  clear HB
  have B2 := n0_
  have B3 := n1_
  have HB := n2_
  clear n0_ n1_ n2_
  have BK := Aside0.mk (((HB0.out.trans (HB.out.mono HS.out)).block g HN.out.gB).trans HN.out.cell)
  obtain ⟨hcz0, hfz0, hcz1, hfz1, hcz2, hfz2⟩ := bk3 BK.out
  obtain ⟨pc0, pf0, pc1, pf1, pc2, pf2, pc3, pf3, pc4, pf4, pc5, pf5, pc6, pf6, pc7, pf7, pc8, pf8, pc9, pf9⟩ := Xm.bk10 B2.out
  obtain ⟨qc0, qf0, qc1, qf1, qc2, qf2, qc3, qf3, qc4, qf4, qc5, qf5, qc6, qf6, qc7, qf7, qc8, qf8, qc9, qf9⟩ := Xm.bk10 B3.out
  go_upto_region 4 with (fail)
  go_wp2
  refine bodyPost_ret (results_cell_row rfl _ _ g2 95 #[.bool false, .bool false, .bool false, .bool false, .bool false, .bool false, .bool false, .bool false, .bool false, .bool false] (0, 0) _ rfl (Xm.put10 B2.out) hu95 rfl Xm.info95) rfl ?_
  exact ⟨rfl, Xm.below10 HB.out hle2⟩
 ·rw [if_neg k1] at h
  have k1b : (k == 1) = false := beq_eq_false_iff_ne.mpr k1
  by_cases k2 : k = 2
  ·rw [if_pos k2] at h
   subst k2
   split at h
   case isFalse => cases h
   rename_i hn10
   obtain rfl := Option.some.inj h
   clear h
   obtain ⟨i, rfl⟩ : ∃ i : Nat, n = (i : Int) := ⟨n.toNat, by omega⟩
   go_enter Try.func61, Try.ntmps61
   go_upto_region 1 with (fail)
   go_upto_region 2 with (fail)
   have n0_ : Aside0 (((w.alloc Xm.O10).alloc Xm.O10).heap[w.heap.size]? = some Xm.O10) := ⟨blk_alloc (blk_new w _) _⟩
   have n1_ : Aside0 (((w.alloc Xm.O10).alloc Xm.O10).heap[w.heap.size + 1]? = some Xm.O10) := ⟨by have h_ := blk_new (w.alloc Xm.O10) Xm.O10; rw [Xm.alloc_size] at h_; exact h_⟩
   have n2_ := Aside0.mk (below_alloc (below_alloc HB.out Xm.O10) Xm.O10)
   generalize (w.alloc Xm.O10).alloc Xm.O10 = w1 at n0_ n1_ n2_ ⊢
   have hne23 : w.heap.size ≠ w.heap.size + 1 := by omega
   have hle2 : w.heap.size ≤ w.heap.size := Nat.le_refl _
   have hle3 : w.heap.size ≤ w.heap.size + 1 := by omega
   generalize hg3 : w.heap.size + 1 = g3 at n1_ hne23 hle3 ⊢
   generalize hg2 : w.heap.size = g2 at n0_ hne23 ⊢
   clear hle2
   have hle2 : w.heap.size ≤ g2 := by omega
   clear HB
   have B2 := n0_
   have B3 := n1_
   have HB := n2_
   clear n0_ n1_ n2_
   have BK := Aside0.mk (((HB0.out.trans (HB.out.mono HS.out)).block g HN.out.gB).trans HN.out.cell)
   obtain ⟨hcz0, hfz0, hcz1, hfz1, hcz2, hfz2⟩ := bk3 BK.out
   obtain ⟨pc0, pf0, pc1, pf1, pc2, pf2, pc3, pf3, pc4, pf4, pc5, pf5, pc6, pf6, pc7, pf7, pc8, pf8, pc9, pf9⟩ := Xm.bk10 B2.out
   obtain ⟨qc0, qf0, qc1, qf1, qc2, qf2, qc3, qf3, qc4, qf4, qc5, qf5, qc6, qf6, qc7, qf7, qc8, qf8, qc9, qf9⟩ := Xm.bk10 B3.out
   have hi0 : (0 : Int) ≤ i := by omega
   have hi10 : (i : Int) < 10 := by omega
   have L3 : Aside0 (w1.heap[g3]? = some (.cells ((List.replicate 10 false).map Value.bool).toArray 95 (0, 0))) := ⟨B3.out⟩
   obtain ⟨c3, f3⟩ := Xm.cellL (i := i) L3.out (by simp; omega)
   clear qc0 qf0 qc1 qf1 qc2 qf2 qc3 qf3 qc4 qf4 qc5 qf5 qc6 qf6 qc7 qf7 qc8 qf8 qc9 qf9
   go_upto_region 7 with (fail)
   have n0_ := Aside0.mk (Xm.putL L3.out i true rfl)
   have n1_ := Aside0.mk (blk_far B2.out hne23 (p := ⟨g3, i, none⟩) (.bool true))
   have n2_ := Aside0.mk (below_set (j := i) (v := .bool true) HB.out hle3)
   clear L3 B3 B2 HB BK c3 f3 hcz0 hfz0 hcz1 hfz1 hcz2 hfz2 pc0 pf0 pc1 pf1 pc2 pf2 pc3 pf3 pc4 pf4 pc5 pf5 pc6 pf6 pc7 pf7 pc8 pf8 pc9 pf9
   generalize w1.setCell ⟨g3, i, none⟩ (.bool true) = w2 at n0_ n1_ n2_ ⊢
   have hB3 := n0_.out
   have B2 := n1_
   have HB := n2_
   clear n0_ n1_ n2_
   have hlL : ((List.replicate 10 false).set i true).length = 10 := by simp
   generalize hLe : (List.replicate 10 false).set i true = L at hB3 hlL
   obtain ⟨l0, l1, l2, l3, l4, l5, l6, l7, l8, l9, rfl⟩ := Xm.ten hlL
   have B3 : Aside0 (w2.heap[g3]? = some (.cells #[.bool l0, .bool l1, .bool l2, .bool l3, .bool l4, .bool l5, .bool l6, .bool l7, .bool l8, .bool l9] 95 (0, 0))) := ⟨hB3⟩
   clear hB3
   obtain ⟨pc0, pf0, pc1, pf1, pc2, pf2, pc3, pf3, pc4, pf4, pc5, pf5, pc6, pf6, pc7, pf7, pc8, pf8, pc9, pf9⟩ := Xm.bk10 B2.out
   obtain ⟨qc0, qf0, qc1, qf1, qc2, qf2, qc3, qf3, qc4, qf4, qc5, qf5, qc6, qf6, qc7, qf7, qc8, qf8, qc9, qf9⟩ := Xm.bk10 B3.out
   go_wp2
   exact bodyPost_ret (results_cell_row rfl _ _ g2 95 _ (0, 0) _ rfl (Xm.put10 B2.out) hu95 rfl Xm.info95) rfl ⟨by first | rfl | (rw [Int.toNat_natCast, hLe]; rfl) | (rw [hLe]; rfl), Xm.below10 HB.out hle2⟩
  ·rw [if_neg k2] at h
   have k2b : (k == 2) = false := beq_eq_false_iff_ne.mpr k2
   split at h
   ·cases h
   rename_i f0 hf0
   obtain ⟨gi0, hh0, eA0, hm0, hc0, hok0⟩ := Xm.kids0 HN.out hf0
   have HOK0 := Aside0.mk hok0
   have HC0 := Aside0.mk hc0
   clear hok0 hc0
   have hm0b : (0 < m) = True := eq_true hm0
   have hm0c : ((0 : Int) < (m : Int)) = True := eq_true (by omega)
   clear hm0
   replace h := lO h; obtain ⟨b, A2, h⟩ := h
   have h2 := lO A2.out
   obtain ⟨bO, A3, h2⟩ := h2
   split at h2
   case isFalse => cases h2
   rename_i hlb
   obtain rfl := Option.some.inj h2
   clear h2 A2
   obtain ⟨b0, b1, b2, b3, b4, b5, b6, b7, b8, b9, rfl⟩ := Xm.ten hlb
   clear hlb
   go_enter Try.func61, Try.ntmps61
   go_upto_region 1 with (fail)
   go_upto_region 2 with (fail)
   have n0_ : Aside0 (((w.alloc Xm.O10).alloc Xm.O10).heap[w.heap.size]? = some Xm.O10) := ⟨blk_alloc (blk_new w _) _⟩
   have n1_ : Aside0 (((w.alloc Xm.O10).alloc Xm.O10).heap[w.heap.size + 1]? = some Xm.O10) := ⟨by have h_ := blk_new (w.alloc Xm.O10) Xm.O10; rw [Xm.alloc_size] at h_; exact h_⟩
   have n2_ := Aside0.mk (below_alloc (below_alloc HB.out Xm.O10) Xm.O10)
   generalize (w.alloc Xm.O10).alloc Xm.O10 = w1 at n0_ n1_ n2_ ⊢
   have hne23 : w.heap.size ≠ w.heap.size + 1 := by omega
   have hle2 : w.heap.size ≤ w.heap.size := Nat.le_refl _
   have hle3 : w.heap.size ≤ w.heap.size + 1 := by omega
   generalize hg3 : w.heap.size + 1 = g3 at n1_ hne23 hle3 ⊢
   generalize hg2 : w.heap.size = g2 at n0_ hne23 ⊢
   clear hle2
   have hle2 : w.heap.size ≤ g2 := by omega
   clear HB
   have B2 := n0_
   have B3 := n1_
   have HB := n2_
   clear n0_ n1_ n2_
   have BK := Aside0.mk (((HB0.out.trans (HB.out.mono HS.out)).block g HN.out.gB).trans HN.out.cell)
   obtain ⟨hcz0, hfz0, hcz1, hfz1, hcz2, hfz2⟩ := bk3 BK.out
   obtain ⟨pc0, pf0, pc1, pf1, pc2, pf2, pc3, pf3, pc4, pf4, pc5, pf5, pc6, pf6, pc7, pf7, pc8, pf8, pc9, pf9⟩ := Xm.bk10 B2.out
   obtain ⟨qc0, qf0, qc1, qf1, qc2, qf2, qc3, qf3, qc4, qf4, qc5, qf5, qc6, qf6, qc7, qf7, qc8, qf8, qc9, qf9⟩ := Xm.bk10 B3.out
   have hk0 := HC0.out _ (HB0.out.trans (HB.out.mono HS.out))
   subst eA0
   go_upto_region 9 with (first | (go_at_call 61; (with_reducible refine (HOK0.out _ _ (HB0.out.trans (HB.out.mono HS.out)) (Nat.le_trans HS.out (below_size HB.out)) A3.out).mono ?_); rintro e w5 ⟨rfl, hb_⟩; have n0_ := Aside0.mk (below_step HB.out hb_); have n1_ := Aside0.mk (blk_below B2.out hb_); have n2_ := Aside0.mk (blk_below B3.out hb_); have n3_ := Aside0.mk (blk_below BK.out hb_); clear HB B2 B3 BK hb_ hk0 hcz0 hfz0 hcz1 hfz1 hcz2 hfz2 pc0 pf0 qc0 qf0 pc1 pf1 qc1 qf1 pc2 pf2 qc2 qf2 pc3 pf3 qc3 qf3 pc4 pf4 qc4 qf4 pc5 pf5 qc5 qf5 pc6 pf6 qc6 qf6 pc7 pf7 qc7 qf7 pc8 pf8 qc8 qf8 pc9 pf9 qc9 qf9; have HB := n0_; have B2 := n1_; have B3 := n2_; have BK := n3_; clear n0_ n1_ n2_ n3_; simp only [List.map_cons, List.map_nil]))
   have n0_ : Aside0 ((w5.alloc (Obj.cells #[Value.bool b0, Value.bool b1, Value.bool b2, Value.bool b3, Value.bool b4, Value.bool b5, Value.bool b6, Value.bool b7, Value.bool b8, Value.bool b9] 95)).heap[w5.heap.size]? = some (Obj.cells #[Value.bool b0, Value.bool b1, Value.bool b2, Value.bool b3, Value.bool b4, Value.bool b5, Value.bool b6, Value.bool b7, Value.bool b8, Value.bool b9] 95)) := ⟨blk_new w5 _⟩
   have n1_ := Aside0.mk (below_alloc HB.out (Obj.cells #[Value.bool b0, Value.bool b1, Value.bool b2, Value.bool b3, Value.bool b4, Value.bool b5, Value.bool b6, Value.bool b7, Value.bool b8, Value.bool b9] 95))
   have n2_ := Aside0.mk (blk_alloc BK.out (Obj.cells #[Value.bool b0, Value.bool b1, Value.bool b2, Value.bool b3, Value.bool b4, Value.bool b5, Value.bool b6, Value.bool b7, Value.bool b8, Value.bool b9] 95))
   have m3_ := Aside0.mk (blk_alloc B3.out (Obj.cells #[Value.bool b0, Value.bool b1, Value.bool b2, Value.bool b3, Value.bool b4, Value.bool b5, Value.bool b6, Value.bool b7, Value.bool b8, Value.bool b9] 95))
   have hne34 : g3 ≠ w5.heap.size := Nat.ne_of_lt (blk_lt B3.out)
   have m2_ := Aside0.mk (blk_alloc B2.out (Obj.cells #[Value.bool b0, Value.bool b1, Value.bool b2, Value.bool b3, Value.bool b4, Value.bool b5, Value.bool b6, Value.bool b7, Value.bool b8, Value.bool b9] 95))
   have hne24 : g2 ≠ w5.heap.size := Nat.ne_of_lt (blk_lt B2.out)
   have hle4 : w.heap.size ≤ w5.heap.size := below_size HB.out
   clear HB BK B3 B2
   generalize w5.alloc (Obj.cells #[Value.bool b0, Value.bool b1, Value.bool b2, Value.bool b3, Value.bool b4, Value.bool b5, Value.bool b6, Value.bool b7, Value.bool b8, Value.bool b9] 95) = w6 at n0_ n1_ n2_ m3_ m2_ ⊢
   generalize w5.heap.size = g4 at n0_ hle4 hne34 hne24 ⊢
   have B4 := n0_
   have HB := n1_
   have BK := n2_
   have B3 := m3_
   have B2 := m2_
   clear n0_ n1_ n2_ m3_ m2_
   obtain ⟨hcz0, hfz0, hcz1, hfz1, hcz2, hfz2⟩ := bk3 BK.out
   obtain ⟨qc0, qf0, qc1, qf1, qc2, qf2, qc3, qf3, qc4, qf4, qc5, qf5, qc6, qf6, qc7, qf7, qc8, qf8, qc9, qf9⟩ := Xm.bk10 B3.out
   obtain ⟨pc0, pf0, pc1, pf1, pc2, pf2, pc3, pf3, pc4, pf4, pc5, pf5, pc6, pf6, pc7, pf7, pc8, pf8, pc9, pf9⟩ := Xm.bk10 B2.out
   obtain ⟨rc0, rf0, rc1, rf1, rc2, rf2, rc3, rf3, rc4, rf4, rc5, rf5, rc6, rf6, rc7, rf7, rc8, rf8, rc9, rf9⟩ := Xm.bk10 B4.out
   by_cases k6 : k = 6
   ·rw [if_pos k6] at h
    subst k6
    by_cases hn0 : n = 0
    ·subst hn0
     rw [if_pos rfl] at h
     obtain rfl := Option.some.inj h
     go_wp2
     exact bodyPost_ret (results_cell_row rfl _ _ g2 95 #[.bool false, .bool false, .bool false, .bool false, .bool false, .bool false, .bool false, .bool false, .bool false, .bool false] (0, 0) _ rfl (Xm.put10 B2.out) hu95 rfl Xm.info95) rfl ⟨rfl, Xm.below10 HB.out hle2⟩
    ·rw [if_neg hn0] at h
     have hn0b : (n == 0) = false := beq_eq_false_iff_ne.mpr hn0
     obtain rfl := Option.some.inj h
     go_wp2
     exact bodyPost_ret (results_cell_row rfl _ _ g2 95 #[.bool b0, .bool b1, .bool b2, .bool b3, .bool b4, .bool b5, .bool b6, .bool b7, .bool b8, .bool b9] (0, 0) _ rfl (Xm.put10 B2.out) hu95 rfl Xm.info95) rfl ⟨rfl, Xm.below10 HB.out hle2⟩
   ·rw [if_neg k6] at h
    have k6b : (k == 6) = false := beq_eq_false_iff_ne.mpr k6
    replace h := lO h; obtain ⟨sO, A4, h⟩ := h
    have h5 := A4.out
    unfold Xm.second at h5
    split at h5
    ·cases h5
    rename_i f1 hf1
    obtain ⟨gi1, hh1, eA1, hm1, hc1, hok1⟩ := Xm.kids0 HN.out hf1
    have HOK1 := Aside0.mk hok1
    have HC1 := Aside0.mk hc1
    clear hok1 hc1
    obtain rfl : hh0 = hh1 := by injection eA1 with eA1; injection eA1
    have hm1b : (1 < m) = True := eq_true hm1
    have hm1c : ((1 : Int) < (m : Int)) = True := eq_true (by omega)
    replace h5 := lO h5; obtain ⟨s, A5, h5⟩ := h5
    split at h5
    case isFalse => cases h5
    rename_i hls
    obtain rfl := Option.some.inj h5
    clear h5 A4 hm1 eA1
    obtain ⟨s0, s1, s2, s3, s4, s5, s6, s7, s8, s9, rfl⟩ := Xm.ten hls
    clear hls
    have hk1 := HC1.out _ (HB0.out.trans (HB.out.mono HS.out))
    go_upto_region 14 with (first | (go_at_call 61; (with_reducible refine (HOK1.out _ _ (HB0.out.trans (HB.out.mono HS.out)) (Nat.le_trans HS.out (below_size HB.out)) A5.out).mono ?_); rintro e w5 ⟨rfl, hb_⟩; have n0_ := Aside0.mk (below_step HB.out hb_); have n1_ := Aside0.mk (blk_below B2.out hb_); have n2_ := Aside0.mk (blk_below B3.out hb_); have n3_ := Aside0.mk (blk_below BK.out hb_); have n4_ := Aside0.mk (blk_below B4.out hb_); clear HB B2 B3 B4 BK hb_ hk1 rc0 rf0 rc1 rf1 rc2 rf2 rc3 rf3 rc4 rf4 rc5 rf5 rc6 rf6 rc7 rf7 rc8 rf8 rc9 rf9 hcz0 hfz0 hcz1 hfz1 hcz2 hfz2 pc0 pf0 qc0 qf0 pc1 pf1 qc1 qf1 pc2 pf2 qc2 qf2 pc3 pf3 qc3 qf3 pc4 pf4 qc4 qf4 pc5 pf5 qc5 qf5 pc6 pf6 qc6 qf6 pc7 pf7 qc7 qf7 pc8 pf8 qc8 qf8 pc9 pf9 qc9 qf9; have HB := n0_; have B2 := n1_; have B3 := n2_; have BK := n3_; have B4 := n4_; clear n4_ n0_ n1_ n2_ n3_; simp only [List.map_cons, List.map_nil]))
    have n0_ : Aside0 ((w5.alloc (Obj.cells #[Value.bool s0, Value.bool s1, Value.bool s2, Value.bool s3, Value.bool s4, Value.bool s5, Value.bool s6, Value.bool s7, Value.bool s8, Value.bool s9] 95)).heap[w5.heap.size]? = some (Obj.cells #[Value.bool s0, Value.bool s1, Value.bool s2, Value.bool s3, Value.bool s4, Value.bool s5, Value.bool s6, Value.bool s7, Value.bool s8, Value.bool s9] 95)) := ⟨blk_new w5 _⟩
    have n1_ := Aside0.mk (below_alloc HB.out (Obj.cells #[Value.bool s0, Value.bool s1, Value.bool s2, Value.bool s3, Value.bool s4, Value.bool s5, Value.bool s6, Value.bool s7, Value.bool s8, Value.bool s9] 95))
    have n2_ := Aside0.mk (blk_alloc BK.out (Obj.cells #[Value.bool s0, Value.bool s1, Value.bool s2, Value.bool s3, Value.bool s4, Value.bool s5, Value.bool s6, Value.bool s7, Value.bool s8, Value.bool s9] 95))
    have m4_ := Aside0.mk (blk_alloc B4.out (Obj.cells #[Value.bool s0, Value.bool s1, Value.bool s2, Value.bool s3, Value.bool s4, Value.bool s5, Value.bool s6, Value.bool s7, Value.bool s8, Value.bool s9] 95))
    have hne45 : g4 ≠ w5.heap.size := Nat.ne_of_lt (blk_lt B4.out)
    have m3_ := Aside0.mk (blk_alloc B3.out (Obj.cells #[Value.bool s0, Value.bool s1, Value.bool s2, Value.bool s3, Value.bool s4, Value.bool s5, Value.bool s6, Value.bool s7, Value.bool s8, Value.bool s9] 95))
    have hne35 : g3 ≠ w5.heap.size := Nat.ne_of_lt (blk_lt B3.out)
    have m2_ := Aside0.mk (blk_alloc B2.out (Obj.cells #[Value.bool s0, Value.bool s1, Value.bool s2, Value.bool s3, Value.bool s4, Value.bool s5, Value.bool s6, Value.bool s7, Value.bool s8, Value.bool s9] 95))
    have hne25 : g2 ≠ w5.heap.size := Nat.ne_of_lt (blk_lt B2.out)
    have hle5 : w.heap.size ≤ w5.heap.size := below_size HB.out
    clear HB BK B4 B3 B2
    generalize w5.alloc (Obj.cells #[Value.bool s0, Value.bool s1, Value.bool s2, Value.bool s3, Value.bool s4, Value.bool s5, Value.bool s6, Value.bool s7, Value.bool s8, Value.bool s9] 95) = w6 at n0_ n1_ n2_ m4_ m3_ m2_ ⊢
    generalize w5.heap.size = g5 at n0_ hle5 hne45 hne35 hne25 ⊢
    have B5 := n0_
    have HB := n1_
    have BK := n2_
    have B4 := m4_
    have B3 := m3_
    have B2 := m2_
    clear n0_ n1_ n2_ m4_ m3_ m2_
    obtain ⟨hcz0, hfz0, hcz1, hfz1, hcz2, hfz2⟩ := bk3 BK.out
    obtain ⟨rc0, rf0, rc1, rf1, rc2, rf2, rc3, rf3, rc4, rf4, rc5, rf5, rc6, rf6, rc7, rf7, rc8, rf8, rc9, rf9⟩ := Xm.bk10 B4.out
    obtain ⟨qc0, qf0, qc1, qf1, qc2, qf2, qc3, qf3, qc4, qf4, qc5, qf5, qc6, qf6, qc7, qf7, qc8, qf8, qc9, qf9⟩ := Xm.bk10 B3.out
    obtain ⟨pc0, pf0, pc1, pf1, pc2, pf2, pc3, pf3, pc4, pf4, pc5, pf5, pc6, pf6, pc7, pf7, pc8, pf8, pc9, pf9⟩ := Xm.bk10 B2.out
    obtain ⟨sc0, sf0, sc1, sf1, sc2, sf2, sc3, sf3, sc4, sf4, sc5, sf5, sc6, sf6, sc7, sf7, sc8, sf8, sc9, sf9⟩ := Xm.bk10 B5.out
    by_cases k4 : k = 4
    ·rw [if_pos k4] at h
     subst k4
     obtain rfl := Option.some.inj h
     go_upto_region 15 with (fail)
     go_wp2
     have hlB : ([b0, b1, b2, b3, b4, b5, b6, b7, b8, b9] : List Bool).length = 10 := rfl
     have hGN : g ≠ g4 := by have := blk_lt BK.out; have h0 := HN.out.gB; have h1 := HS.out; omega
     go_loopg [6, 71] 11 (fun j v6 v71 wr => ∃ (i q : Nat), v6 = .bool (Xm.ct n [b0, b1, b2, b3, b4, b5, b6, b7, b8, b9] i) ∧ v71 = .int .i64 (i : Int) ∧ j = q + 1 ∧ i + q = 10 ∧ Aside0 (wr.heap[g4]? = some (.cells ((Xm.lf n [b0, b1, b2, b3, b4, b5, b6, b7, b8, b9] i).map Value.bool).toArray 95 (0, 0))) ∧ Aside0 (wr.heap[g2]? = some (.cells #[.bool false, .bool false, .bool false, .bool false, .bool false, .bool false, .bool false, .bool false, .bool false, .bool false] 95 (0, 0))) ∧ Aside0 (wr.heap[g3]? = some (.cells #[.bool false, .bool false, .bool false, .bool false, .bool false, .bool false, .bool false, .bool false, .bool false, .bool false] 95 (0, 0))) ∧ Aside0 (wr.heap[g5]? = some (.cells #[.bool s0, .bool s1, .bool s2, .bool s3, .bool s4, .bool s5, .bool s6, .bool s7, .bool s8, .bool s9] 95 (0, 0))) ∧ Aside0 (Below w.heap.size w wr) ∧ Aside0 (wr.heap[g]? = some (.cells #[.int .i64 4, .int .i64 n, .slice (some ⟨hh0, 0, none⟩) m c] 135 (0, 0))))
     case atStart => exact ⟨0, 10, rfl, rfl, rfl, rfl, ⟨B4.out⟩, B2, B3, B5, HB, BK⟩
     case round =>
      clear B2 B3 B4 B5 BK HB hcz0 hfz0 hcz1 hfz1 hcz2 hfz2 pc0 pf0 qc0 qf0 pc1 pf1 qc1 qf1 pc2 pf2 qc2 qf2 pc3 pf3 qc3 qf3 pc4 pf4 qc4 qf4 pc5 pf5 qc5 qf5 pc6 pf6 qc6 qf6 pc7 pf7 qc7 qf7 pc8 pf8 qc8 qf8 pc9 pf9 qc9 qf9 rc0 rf0 sc0 sf0 rc1 rf1 sc1 sf1 rc2 rf2 sc2 sf2 rc3 rf3 sc3 sf3 rc4 rf4 sc4 sf4 rc5 rf5 sc5 sf5 rc6 rf6 sc6 sf6 rc7 rf7 sc7 sf7 rc8 rf8 sc8 sf8 rc9 rf9 sc9 sf9
      obtain ⟨i, q, rfl, rfl, rfl, hiq, B4, B2, B3, B5, HB, BK⟩ := hrel
      obtain ⟨hcz0, hfz0, hcz1, hfz1, hcz2, hfz2⟩ := bk3 BK.out
      cases q with
      | zero =>
       obtain rfl : i = 10 := by omega
       have B4 : Aside0 (wr.heap[g4]? = some (.cells ((Xm.left n 0 [b0, b1, b2, b3, b4, b5, b6, b7, b8, b9]).map Value.bool).toArray 95 (0, 0))) := ⟨B4.out⟩
       have ect : Xm.ct n [b0, b1, b2, b3, b4, b5, b6, b7, b8, b9] 10 = Xm.any n 0 [b0, b1, b2, b3, b4, b5, b6, b7, b8, b9] := rfl
       rw [ect]
       clear ect
       generalize hcte : Xm.any n 0 [b0, b1, b2, b3, b4, b5, b6, b7, b8, b9] = ct
       go_upto_region 22 with (fail)
       have HWB := Aside0.mk HB.out.size
       have hlB : (Xm.left n 0 [b0, b1, b2, b3, b4, b5, b6, b7, b8, b9]).length = 10 := Xm.left_len _ _ _
       have hlS : ([s0, s1, s2, s3, s4, s5, s6, s7, s8, s9] : List Bool).length = 10 := rfl
       have hlL := (Xm.zip_len (ct) (Xm.left n 0 [b0, b1, b2, b3, b4, b5, b6, b7, b8, b9]) [s0, s1, s2, s3, s4, s5, s6, s7, s8, s9] (hlB.trans hlS.symm)).trans hlB
       go_wp2
       go_loopg [105] 11 (fun j v105 wr => ∃ (i q : Nat), v105 = .int .i64 (i : Int) ∧ j = q + 1 ∧ i + q = 10 ∧ Aside0 (wr.heap[g3]? = some (.cells ((((Xm.zip (ct) (Xm.left n 0 [b0, b1, b2, b3, b4, b5, b6, b7, b8, b9]) [s0, s1, s2, s3, s4, s5, s6, s7, s8, s9]).take i ++ List.replicate q false).map Value.bool).toArray) 95 (0, 0))) ∧ Aside0 (wr.heap[g2]? = some (.cells #[.bool false, .bool false, .bool false, .bool false, .bool false, .bool false, .bool false, .bool false, .bool false, .bool false] 95 (0, 0))) ∧ Aside0 (wr.heap[g4]? = some (.cells ((Xm.left n 0 [b0, b1, b2, b3, b4, b5, b6, b7, b8, b9]).map Value.bool).toArray 95 (0, 0))) ∧ Aside0 (wr.heap[g5]? = some (.cells (([s0, s1, s2, s3, s4, s5, s6, s7, s8, s9]).map Value.bool).toArray 95 (0, 0))) ∧ Aside0 (Below w.heap.size w wr))
       case atStart => exact ⟨0, 10, rfl, rfl, rfl, B3, B2, ⟨B4.out⟩, ⟨B5.out⟩, HB⟩
       case round =>
        clear B2 B3 B4 B5 BK HB hcz0 hfz0 hcz1 hfz1 hcz2 hfz2
        obtain ⟨i, q, rfl, rfl, hiq, B3, B2, B4, B5, HB⟩ := hrel
        cases q with
        | zero =>
         obtain rfl : i = 10 := by omega
         have hB3 := B3.out
         rw [List.take_of_length_le (by omega), List.replicate_zero, List.append_nil] at hB3
         clear B3
         generalize hLe : Xm.zip (ct) (Xm.left n 0 [b0, b1, b2, b3, b4, b5, b6, b7, b8, b9]) [s0, s1, s2, s3, s4, s5, s6, s7, s8, s9] = L at hB3 hlL
         obtain ⟨l0, l1, l2, l3, l4, l5, l6, l7, l8, l9, rfl⟩ := Xm.ten hlL
         have B3 : Aside0 (wr.heap[g3]? = some (.cells #[.bool l0, .bool l1, .bool l2, .bool l3, .bool l4, .bool l5, .bool l6, .bool l7, .bool l8, .bool l9] 95 (0, 0))) := ⟨hB3⟩
         clear hB3
         obtain ⟨qc0, qf0, qc1, qf1, qc2, qf2, qc3, qf3, qc4, qf4, qc5, qf5, qc6, qf6, qc7, qf7, qc8, qf8, qc9, qf9⟩ := Xm.bk10 B3.out
         obtain ⟨pc0, pf0, pc1, pf1, pc2, pf2, pc3, pf3, pc4, pf4, pc5, pf5, pc6, pf6, pc7, pf7, pc8, pf8, pc9, pf9⟩ := Xm.bk10 B2.out
         go_wp2
         exact bodyPost_ret (results_cell_row rfl _ _ g2 95 _ (0, 0) _ rfl (Xm.put10 B2.out) hu95 rfl Xm.info95) rfl ⟨by first | rfl | (rw [hLe]; rfl) | (rw [hcte, hLe]; rfl), Xm.below10 HB.out hle2⟩
        | succ q =>
         have hd1 : decide ((i : Int) < 10) = true := decide_eq_true (by omega)
         have hi0 : (0 : Int) ≤ i := by omega
         have hi10 : (i : Int) < 10 := by omega
         obtain ⟨c4, f4⟩ := Xm.cellL (i := i) B4.out (by omega)
         obtain ⟨c5, f5⟩ := Xm.cellL (i := i) B5.out (by omega)
         obtain ⟨c3, f3⟩ := Xm.cellL (i := i) B3.out (by simp only [List.length_append, List.length_take, List.length_replicate]; omega)
         have hz := Xm.zip_getD (ct) (Xm.left n 0 [b0, b1, b2, b3, b4, b5, b6, b7, b8, b9]) [s0, s1, s2, s3, s4, s5, s6, s7, s8, s9] i (hlB.trans hlS.symm) (by omega)
         have hput := Xm.set_fill (l := Xm.zip (ct) (Xm.left n 0 [b0, b1, b2, b3, b4, b5, b6, b7, b8, b9]) [s0, s1, s2, s3, s4, s5, s6, s7, s8, s9]) (i := i) (q := q) (by omega)
         rw [hz] at hput
         generalize (Xm.left n 0 [b0, b1, b2, b3, b4, b5, b6, b7, b8, b9]).getD i false = bi at c4 hput hz
         generalize ([s0, s1, s2, s3, s4, s5, s6, s7, s8, s9] : List Bool).getD i false = si at c5 hput hz
         cases bi <;> cases ct <;> (go_wp2; go_roundg (q + 1); (case measure => omega); (case rel => exact ⟨i + 1, q, by go_num, rfl, by omega, ⟨Xm.putL B3.out i _ (by simpa using hput)⟩, ⟨blk_far B2.out hne23 _⟩, ⟨blk_far B4.out hne34.symm _⟩, ⟨blk_far B5.out hne35.symm _⟩, ⟨below_set HB.out hle3⟩⟩))
      | succ q =>
       have hd1 : decide ((i : Int) < 10) = true := decide_eq_true (by omega)
       have hi0 : (0 : Int) ≤ i := by omega
       have hi10 : (i : Int) < 10 := by omega
       obtain ⟨c4, f4⟩ := Xm.cellL (i := i) B4.out (by rw [Xm.lf_len]; omega)
       rw [Xm.lf_getD n (by omega)] at c4
       have hno := Xm.step_no n (l := [b0, b1, b2, b3, b4, b5, b6, b7, b8, b9]) (i := i) (by omega)
       have hyes := Xm.step_yes n (l := [b0, b1, b2, b3, b4, b5, b6, b7, b8, b9]) (i := i) (by omega)
       generalize ([b0, b1, b2, b3, b4, b5, b6, b7, b8, b9] : List Bool).getD i false = bi at c4 hno hyes
       cases bi
       ·clear hyes
        obtain ⟨e1, e2⟩ := hno rfl
        go_wp2
        go_roundg (q + 1)
        (case measure => omega)
        (case rel => exact ⟨i + 1, q, by rw [e1], by go_num, rfl, by omega, ⟨by rw [e2]; exact B4.out⟩, B2, B3, B5, HB, BK⟩)
       ·by_cases hn0 : n = 0
        ·subst hn0
         clear hno
         obtain ⟨e1, e2⟩ := hyes (by simp [Xm.hit])
         go_wp2
         go_roundg (q + 1)
         (case measure => omega)
         (case rel => exact ⟨i + 1, q, by rw [e1], by go_num, rfl, by omega, ⟨Xm.putL B4.out i _ e2⟩, ⟨blk_far B2.out hne24 _⟩, ⟨blk_far B3.out hne34 _⟩, ⟨blk_far B5.out hne45.symm _⟩, ⟨below_set HB.out hle4⟩, ⟨blk_far BK.out hGN _⟩⟩)
        ·have hn0b : (n == 0) = false := beq_eq_false_iff_ne.mpr hn0
         by_cases hni : n = (i : Int)
         ·subst hni
          have hnib : ((i : Int) == (i : Int)) = true := beq_self_eq_true _
          clear hno
          obtain ⟨e1, e2⟩ := hyes (by simp [Xm.hit])
          go_wp2
          go_roundg (q + 1)
          (case measure => omega)
          (case rel => exact ⟨i + 1, q, by rw [e1], by go_num, rfl, by omega, ⟨Xm.putL B4.out i _ e2⟩, ⟨blk_far B2.out hne24 _⟩, ⟨blk_far B3.out hne34 _⟩, ⟨blk_far B5.out hne45.symm _⟩, ⟨below_set HB.out hle4⟩, ⟨blk_far BK.out hGN _⟩⟩)
         ·have hnib : (n == (i : Int)) = false := beq_eq_false_iff_ne.mpr hni
          clear hyes
          obtain ⟨e1, e2⟩ := hno (by simp [Xm.hit, hn0, hni])
          go_wp2
          go_roundg (q + 1)
          (case measure => omega)
          (case rel => exact ⟨i + 1, q, by rw [e1], by go_num, rfl, by omega, ⟨by rw [e2]; exact B4.out⟩, B2, B3, B5, HB, BK⟩)
    ·rw [if_neg k4] at h
     have k4b : (k == 4) = false := beq_eq_false_iff_ne.mpr k4
     have k4c : (k != 4) = true := bne_iff_ne.mpr k4
     obtain rfl := Option.some.inj h
     go_upto_region 15 with (fail)
     go_wp2
     go_loopg [6, 71] 11 (fun j v6 v71 wr => ∃ (i q : Nat), v6 = .bool true ∧ v71 = .int .i64 (i : Int) ∧ j = q + 1 ∧ i + q = 10 ∧ wr = w6)
     case atStart => exact ⟨0, 10, by first | rfl | (rw [k4c]), rfl, rfl, rfl, rfl⟩
     case round =>
      obtain ⟨i, q, rfl, rfl, rfl, hiq, rfl⟩ := hrel
      cases q with
      | zero =>
       obtain rfl : i = 10 := by omega
       go_upto_region 22 with (fail)
       have HWB := Aside0.mk HB.out.size
       have hlB : ([b0, b1, b2, b3, b4, b5, b6, b7, b8, b9]).length = 10 := rfl
       have hlS : ([s0, s1, s2, s3, s4, s5, s6, s7, s8, s9] : List Bool).length = 10 := rfl
       have hlL := (Xm.zip_len (true) ([b0, b1, b2, b3, b4, b5, b6, b7, b8, b9]) [s0, s1, s2, s3, s4, s5, s6, s7, s8, s9] (hlB.trans hlS.symm)).trans hlB
       go_wp2
       go_loopg [105] 11 (fun j v105 wr => ∃ (i q : Nat), v105 = .int .i64 (i : Int) ∧ j = q + 1 ∧ i + q = 10 ∧ Aside0 (wr.heap[g3]? = some (.cells ((((Xm.zip (true) ([b0, b1, b2, b3, b4, b5, b6, b7, b8, b9]) [s0, s1, s2, s3, s4, s5, s6, s7, s8, s9]).take i ++ List.replicate q false).map Value.bool).toArray) 95 (0, 0))) ∧ Aside0 (wr.heap[g2]? = some (.cells #[.bool false, .bool false, .bool false, .bool false, .bool false, .bool false, .bool false, .bool false, .bool false, .bool false] 95 (0, 0))) ∧ Aside0 (wr.heap[g4]? = some (.cells (([b0, b1, b2, b3, b4, b5, b6, b7, b8, b9]).map Value.bool).toArray 95 (0, 0))) ∧ Aside0 (wr.heap[g5]? = some (.cells (([s0, s1, s2, s3, s4, s5, s6, s7, s8, s9]).map Value.bool).toArray 95 (0, 0))) ∧ Aside0 (Below w.heap.size w wr))
       case atStart => exact ⟨0, 10, rfl, rfl, rfl, B3, B2, ⟨B4.out⟩, ⟨B5.out⟩, HB⟩
       case round =>
        clear B2 B3 B4 B5 BK HB hcz0 hfz0 hcz1 hfz1 hcz2 hfz2 pc0 pf0 qc0 qf0 pc1 pf1 qc1 qf1 pc2 pf2 qc2 qf2 pc3 pf3 qc3 qf3 pc4 pf4 qc4 qf4 pc5 pf5 qc5 qf5 pc6 pf6 qc6 qf6 pc7 pf7 qc7 qf7 pc8 pf8 qc8 qf8 pc9 pf9 qc9 qf9 rc0 rf0 sc0 sf0 rc1 rf1 sc1 sf1 rc2 rf2 sc2 sf2 rc3 rf3 sc3 sf3 rc4 rf4 sc4 sf4 rc5 rf5 sc5 sf5 rc6 rf6 sc6 sf6 rc7 rf7 sc7 sf7 rc8 rf8 sc8 sf8 rc9 rf9 sc9 sf9
        obtain ⟨i, q, rfl, rfl, hiq, B3, B2, B4, B5, HB⟩ := hrel
        cases q with
        | zero =>
         obtain rfl : i = 10 := by omega
         have hB3 := B3.out
         rw [List.take_of_length_le (by omega), List.replicate_zero, List.append_nil] at hB3
         clear B3
         generalize hLe : Xm.zip (true) ([b0, b1, b2, b3, b4, b5, b6, b7, b8, b9]) [s0, s1, s2, s3, s4, s5, s6, s7, s8, s9] = L at hB3 hlL
         obtain ⟨l0, l1, l2, l3, l4, l5, l6, l7, l8, l9, rfl⟩ := Xm.ten hlL
         have B3 : Aside0 (wr.heap[g3]? = some (.cells #[.bool l0, .bool l1, .bool l2, .bool l3, .bool l4, .bool l5, .bool l6, .bool l7, .bool l8, .bool l9] 95 (0, 0))) := ⟨hB3⟩
         clear hB3
         obtain ⟨qc0, qf0, qc1, qf1, qc2, qf2, qc3, qf3, qc4, qf4, qc5, qf5, qc6, qf6, qc7, qf7, qc8, qf8, qc9, qf9⟩ := Xm.bk10 B3.out
         obtain ⟨pc0, pf0, pc1, pf1, pc2, pf2, pc3, pf3, pc4, pf4, pc5, pf5, pc6, pf6, pc7, pf7, pc8, pf8, pc9, pf9⟩ := Xm.bk10 B2.out
         go_wp2
         exact bodyPost_ret (results_cell_row rfl _ _ g2 95 _ (0, 0) _ rfl (Xm.put10 B2.out) hu95 rfl Xm.info95) rfl ⟨by first | rfl | (rw [hLe]; rfl), Xm.below10 HB.out hle2⟩
        | succ q =>
         have hd1 : decide ((i : Int) < 10) = true := decide_eq_true (by omega)
         have hi0 : (0 : Int) ≤ i := by omega
         have hi10 : (i : Int) < 10 := by omega
         obtain ⟨c4, f4⟩ := Xm.cellL (i := i) B4.out (by omega)
         obtain ⟨c5, f5⟩ := Xm.cellL (i := i) B5.out (by omega)
         obtain ⟨c3, f3⟩ := Xm.cellL (i := i) B3.out (by simp only [List.length_append, List.length_take, List.length_replicate]; omega)
         have hz := Xm.zip_getD (true) ([b0, b1, b2, b3, b4, b5, b6, b7, b8, b9]) [s0, s1, s2, s3, s4, s5, s6, s7, s8, s9] i (hlB.trans hlS.symm) (by omega)
         have hput := Xm.set_fill (l := Xm.zip (true) ([b0, b1, b2, b3, b4, b5, b6, b7, b8, b9]) [s0, s1, s2, s3, s4, s5, s6, s7, s8, s9]) (i := i) (q := q) (by omega)
         rw [hz] at hput
         generalize ([b0, b1, b2, b3, b4, b5, b6, b7, b8, b9]).getD i false = bi at c4 hput hz
         generalize ([s0, s1, s2, s3, s4, s5, s6, s7, s8, s9] : List Bool).getD i false = si at c5 hput hz
         cases bi <;> (go_wp2; go_roundg (q + 1); (case measure => omega); (case rel => exact ⟨i + 1, q, by go_num, rfl, by omega, ⟨Xm.putL B3.out i _ (by simpa using hput)⟩, ⟨blk_far B2.out hne23 _⟩, ⟨blk_far B4.out hne34.symm _⟩, ⟨blk_far B5.out hne35.symm _⟩, ⟨below_set HB.out hle3⟩⟩))
      | succ q =>
       have hd1 : decide ((i : Int) < 10) = true := decide_eq_true (by omega)
       have hi0 : (0 : Int) ≤ i := by omega
       have hi10 : (i : Int) < 10 := by omega
       go_wp2
       go_roundg (q + 1)
       case measure => omega
       case rel => exact ⟨i + 1, q, rfl, by go_num, rfl, by omega, rfl⟩
theorem impl_xnode_may.calls : ∀ (t : S72) (w0 : World) (B g : Nat), B ≤ w0.heap.size → Xn.In w0 0 (fun k => k < B) t g → Xm.Ok w0 B (Xm.may t) g := by
 intro t
 induction hN : SizeOf.sizeOf t using Nat.strongRecOn generalizing t with
 | _ N ih =>
 subst hN
 intro w0 B g h2 h
 obtain ⟨k, n, ks⟩ := t
 unfold Xn.In at h
 obtain ⟨⟨hg, _⟩, v, gl, hc, hR, hI⟩ := h
 obtain ⟨A, c, rfl⟩ := Kd.R_slice hR
 have e : Xm.may ⟨k, n, ks⟩ = Xm.node k n (Xm.mays ks) := by unfold Xm.may; rfl
 rw [e]
 refine Xm.node_ok (A := A) (m := gl.length) (c := c) ⟨hg, h2, hc, fun i f hf => ?_⟩
 obtain ⟨t, ht, rfl⟩ := Xm.mays_at ks i f hf
 obtain ⟨gi, hgi, hin⟩ := hI.at_ i t ht
 have hil : i < gl.length := by
  by_cases hl : i < gl.length
  ·exact hl
  ·rw [List.getElem?_eq_none (by omega)] at hgi; cases hgi
 obtain ⟨hh, cap, he, _, _, hcl⟩ := Kd.R_form hR (by omega)
 injection he with he1 he2 he3
 subst he1
 have hcell := (Kd.R_celln 0 hR (i : Int) (by omega) (by omega)).1
 have hlt : hh < B := hR.1 hh (by simp [Value.ownBlock])
 refine ⟨gi, hh, rfl, hil, hlt, ?_, ih (SizeOf.sizeOf t) ?_ t rfl w0 B gi h2 hin⟩
 ·rw [Int.toNat_natCast] at hcell
  rw [hcell]
  have e2 : rdOf 0 gl (i : Int) = gi := by unfold rdOf; rw [Int.toNat_natCast, List.getD, hgi]; rfl
  rw [e2]
  rfl
 ·have hm : t ∈ ks := List.mem_of_getElem? ht
  have := List.sizeOf_lt_of_mem hm
  simp
  omega
theorem Xm.info3 : (Try.prog.info? 3).map (fun i => (i.zero, i.size, i.bytes)) = some (some (.int .i64 0), 1, 8) := by kernel_rfl
def impl_MayRaise.codes : Nat → List Bool → List Int
  | _, [] => []
  | i, b :: bs => if b = true then (i : Int) :: impl_MayRaise.codes (i + 1) bs else impl_MayRaise.codes (i + 1) bs
theorem impl_MayRaise.codes_drop {l : List Bool} {i : Nat} (h : i < l.length) : impl_MayRaise.codes i (l.drop i) = if l.getD i false = true then (i : Int) :: impl_MayRaise.codes (i + 1) (l.drop (i + 1)) else impl_MayRaise.codes (i + 1) (l.drop (i + 1)) := by
  rw [List.drop_eq_getElem_cons h]
  simp [impl_MayRaise.codes, h]
set_option maxRecDepth 100000 in
theorem Xm.idx (r0 r1 r2 r3 r4 r5 r6 r7 r8 r9 : Bool) {i : Nat} (h : i < 10) : ∀ w : World, (Instr.index 95 (.agg #[.bool r0, .bool r1, .bool r2, .bool r3, .bool r4, .bool r5, .bool r6, .bool r7, .bool r8, .bool r9]) (.int .i64 (i : Int))).run Try.prog w = .ok (.bool ([r0, r1, r2, r3, r4, r5, r6, r7, r8, r9].getD i false)) w := by
  have hi : i = 0 ∨ i = 1 ∨ i = 2 ∨ i = 3 ∨ i = 4 ∨ i = 5 ∨ i = 6 ∨ i = 7 ∨ i = 8 ∨ i = 9 := by omega
  rcases hi with rfl | rfl | rfl | rfl | rfl | rfl | rfl | rfl | rfl | rfl <;> exact fun _ => by kernel_rfl
def impl_MayRaise.f (l : List S76) : Option (List Int × Bool) := (impl_parseTree.f l).bind fun r => if r.2 = true then (match r.1 with
  | none => none
  | some t => (Xm.may t).bind fun q => if q.length = 10 then some (impl_MayRaise.codes 0 q, true) else none) else some ([], false)
set_option maxHeartbeats 8000000 in
set_option maxRecDepth 100000 in
theorem impl_MayRaise.calls (A0 : Option Addr) (c0 : Nat) (l0 : List S76) (r1 : List Int) (r2 : Bool) (w : World) (hr0 : Kd.C k76 w A0 l0.length l0) (hc0 : l0.length ≤ c0) (h : impl_MayRaise.f l0 = some (r1, r2)) :
  Calls Try.prog 25 #[.slice A0 l0.length c0] w fun e w' => ∃ v0_ : Value, e = .returned (.tuple #[v0_, .bool r2]) ∧ Kd.R (Kd.int .i64) 3 w' w.heap.size (fun _ => True) v0_ r1 ∧ Below w.heap.size w w' := by
 unfold impl_MayRaise.f at h
 have hu45 := Try.underlying45
 have hu95 := Try.underlying95
 have HR0 := Aside0.mk hr0
 have HC0 := Aside0.mk hc0
 have HB := Aside0.mk (Below.refl w.heap.size w)
 clear hr0 hc0
 replace h := lO h
 obtain ⟨⟨ro, rb⟩, A1, h⟩ := h
 cases rb with
 | false =>
  rw [if_neg (by simp)] at h
  simp only [Option.some.injEq, Prod.mk.injEq] at h
  obtain ⟨rfl, rfl⟩ := h
  go_enter Try.func25, Try.ntmps25
  go_wp2_with (first | (go_at_call 46; (with_reducible refine (impl_parseTree.calls _ _ l0 (ro, false) _ (lC HR0.out) HC0.out A1.out).mono ?_); rintro e w5 ⟨p, rfl, hopt, hb⟩; clear hopt; have n0_ := Aside0.mk (below_step lB hb); clear HB; have HB := n0_; clear n0_ hb))
  refine bodyPost_ret (results_list (rs := [.tmp 2, .tmp 3]) rfl (by simp) (.tmp (.tmp .nil))) rfl ?_
  exact ⟨_, lE, Kd.R_nil _ _ _ _ _, lB⟩
 | true =>
  rw [if_pos rfl] at h
  cases ro with
  | none => cases h
  | some t =>
   simp only at h
   replace h := lO h
   obtain ⟨rs, A2, h⟩ := h
   split at h
   case isFalse => cases h
   rename_i hlen
   simp only [Option.some.injEq, Prod.mk.injEq] at h
   obtain ⟨rfl, rfl⟩ := h
   obtain ⟨r0, r1, r2, r3, r4, r5, r6, r7, r8, r9, rfl⟩ := Xm.ten hlen
   clear hlen
   go_enter Try.func25, Try.ntmps25
   go_upto_region 5 with (first | (go_at_call 46; (with_reducible refine (impl_parseTree.calls _ _ l0 (some t, true) _ (lC HR0.out) HC0.out A1.out).mono ?_); rintro e w5 ⟨p, rfl, ⟨g, rfl, hin1⟩, hb⟩; have n0_ := Aside0.mk (below_step lB hb); have n1_ := Aside0.mk hin1; clear HB; have HB := n0_; have HI := n1_; clear n0_ n1_ hb hin1; have HBB := Aside0.mk (Below.refl w5.heap.size w5)) | ((with_reducible refine gate_dst (N := 16) rfl ?_); refine Kd.R_lit (Kd.int .i64) _ 3 ?hg (N := 16) ?hd (xs := ([] : List Int)) (inner := []) (ok := fun _ => True) (okp := fun _ => True) ?hr ?hp (fun _ hk => hk) trivial (Below.refl _ _) (Nat.le_refl _) (by simp) ?_; (case hd => rfl); (case hg => rfl); (case hr => first | (go_simp; done) | (go_simp; rfl)); (case hp => exact (Reps.none _ _)); intro v6 w6 ho6 hb hg_ hnew_; clear hg_ hnew_; have n0_ := Aside0.mk (Kd.R_lower ho6 (below_size HBB.out)); have n1_ := Aside0.mk (below_step HBB.out hb); clear HBB; have HO := n0_; have HBB := n1_; clear n0_ n1_ hb ho6; obtain ⟨Av, cv, ev⟩ := Kd.R_slice HO.out; subst ev))
   have hOk := impl_xnode_may.calls t w6 w5.heap.size g HBB.out.size (HI.out.move (S1 := fun k => k < w5.heap.size) (fun k hk _ => HBB.out.block k hk) (fun _ hk _ => hk) (Nat.zero_le _))
   have HOK := Aside0.mk (hOk w6 _ (Below.refl _ _) HBB.out.size A2.out)
   clear hOk
   have HSZ := Aside0.mk (below_size HB.out)
   go_upto_region 6 with (first | (go_at_call 61; (with_reducible refine HOK.out.mono ?_); rintro e w9 ⟨rfl, hb_⟩; have n0_ := Aside0.mk (below_step HBB.out hb_); have n1_ := Aside0.mk (Kd.R_below HO.out hb_); clear HBB HO hb_; have HBB := n0_; have HO := n1_; clear n0_ n1_; simp only [List.map_cons, List.map_nil]))
   go_loopg [6, 19] 11 (fun j v6 v19 wr => ∃ (i q : Nat) (o : List Int), v19 = .int .i64 (i : Int) ∧ j = q + 1 ∧ i + q = 10 ∧ o.length ≤ i ∧ Aside0 (o ++ impl_MayRaise.codes i ([r0, r1, r2, r3, r4, r5, r6, r7, r8, r9].drop i) = impl_MayRaise.codes 0 [r0, r1, r2, r3, r4, r5, r6, r7, r8, r9]) ∧ Aside0 ((Kd.int .i64).R 3 wr w5.heap.size (fun _ => True) v6 o) ∧ Aside0 (Below w5.heap.size w5 wr))
   case atStart => exact ⟨0, 10, [], rfl, rfl, rfl, Nat.le_refl _, ⟨rfl⟩, HO, HBB⟩
   case round =>
    clear HO HBB
    obtain ⟨i, q, o, rfl, rfl, hiq, hol, HE, HO, HBB⟩ := hrel
    obtain ⟨Ao, co, eo⟩ := Kd.R_slice HO.out
    subst eo
    cases q with
    | zero =>
     obtain rfl : i = 10 := by omega
     go_wp2
     refine bodyPost_ret (results_list (rs := [.tmp 2, .tmp 3]) rfl (by simp) (.tmp (.tmp .nil))) rfl ?_
     have e : o = impl_MayRaise.codes 0 [r0, r1, r2, r3, r4, r5, r6, r7, r8, r9] := (List.append_nil o).symm.trans HE.out
     subst e
     exact ⟨_, lE, Kd.R_lower HO.out HSZ.out, HB.out.trans (HBB.out.mono HSZ.out)⟩
    | succ q =>
     have hix := Xm.idx r0 r1 r2 r3 r4 r5 r6 r7 r8 r9 (i := i) (by omega)
     have hd1 : decide ((i : Int) < 10) = true := decide_eq_true (by omega)
     have hi10 : (i : Int) < 10 := by omega
     have hcd := impl_MayRaise.codes_drop (l := [r0, r1, r2, r3, r4, r5, r6, r7, r8, r9]) (i := i) (by simp only [List.length_cons, List.length_nil]; omega)
     generalize ([r0, r1, r2, r3, r4, r5, r6, r7, r8, r9] : List Bool).getD i false = b at hix hcd
     cases b
     ·go_wp2
      go_roundg (q + 1)
      case measure => omega
      case rel => exact ⟨i + 1, q, o, by go_num, rfl, by omega, by omega, ⟨by have h_ := HE.out; rw [hcd] at h_; exact h_⟩, HO, HBB⟩
     ·go_wp2_with (first | ((with_reducible refine gate_builtin (b := .append) (xs := #[.tmp 24, .tmp 26]) rfl ?_); at_builtin; refine Kd.R_append (Kd.int .i64) (w0 := w5) w5.heap.size rfl (.tmp 24) (.tmp 26) 45 3 (.int .i64 0) 8 rfl Try.underlying45 Xm.info3 rfl (by decide) (by omega) (.slice Ao o.length co) o (i) [.int .i64 (i)] (fun _ => True) (fun _ => False) rfl (by first | (go_simp; done) | (go_simp; rfl)) ?aP (fun _ hk => hk.elim) (fun _ _ => trivial) ?aO ?aB ?aS ?aL ?_; (case aP => exact rfl); (case aO => exact HO.out); (case aB => exact HBB.out); (case aS => exact HBB.out.size); (case aL => omega); intro v6 w6 ho hb hg hat; clear HO HBB hg hat; have HO := Aside0.mk ho; have HBB := Aside0.mk hb; clear ho hb; obtain ⟨Ap, cp, ep⟩ := Kd.R_slice HO.out; subst ep))
      go_roundg (q + 1)
      case measure => omega
      case rel => exact ⟨i + 1, q, o ++ [(i : Int)], by go_num, rfl, by omega, by rw [List.length_append]; exact Nat.succ_le_succ hol, ⟨by have h_ := HE.out; rw [hcd] at h_; rw [List.append_assoc]; exact h_⟩, ⟨by have h_ := HO.out; rw [List.length_append] at h_; exact h_⟩, HBB⟩
end Go.Proofs.Ytgjojppbichaiaa.Q
