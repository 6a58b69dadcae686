-- Written by the program wip/tools/pr.py of this claim's session, over the kit's print.py.
import Derived.Test.YtpnhlccdhflogaaQx0
import Derived.Test.YtpnhlccdhflogaaQx5
namespace Go.Proofs.Ytpnhlccdhflogaa.Q
open Go.RowKit Go.Proofs.YtpnhlccdhflogaaW.PrintWords Go.Proofs.YtpnhlccdhflogaaW.PrintLast Go.Proofs.YtpnhlccdhflogaaW.PrintMore
attribute [local go_sem] max2_int min2_int max_two min_two max_three min_three max_four min_four   -- for this text's walks alone
set_option linter.unusedVariables false
set_option linter.unusedSimpArgs false

/-! ### impl_chainsOf: function 60 -/
/-! rows laid anew by the library's sorts and deletions -/
section
variable {α : Type} [Inhabited α] {enc : α → Value}
theorem Pr.heap {w : World} {g n : Nat} {os : Array Obj} {cur : Array Value} {e : TypeId} {fr : Nat × Nat} (d : Array α) (hb : w.heap[g]? = some (.cells cur e fr)) :
    (Go.Sort.grow (Go.Sort.putRow enc (Go.Sort.ahead w n) g 0 d) os).heap[g]? = some (.cells (Go.Sort.putCells enc 0 d cur) e fr) := by
  have hg : g < w.heap.size := (Array.getElem?_eq_some_iff.1 hb).1
  rw [Go.Sort.heap_grow_old _ _ (by simpa using hg)]
  simp [Go.Sort.putRow, Go.Sort.mapBlock, Go.Sort.ahead, Array.getElem?_modify, hb, Go.Sort.onCells]
theorem Pr.grown {w : World} {g n : Nat} {os : Array Obj} (d : Array α) : w.grownBy (Go.Sort.grow (Go.Sort.putRow enc (Go.Sort.ahead w n) g 0 d) os) (some g) := by
  refine ⟨rfl, rfl, rfl, by simp, fun k hk hne => ?_⟩
  rw [Go.Sort.heap_grow_old _ _ (by simpa using hk)]
  have : g ≠ k := fun e => hne (by rw [e])
  simp [Go.Sort.putRow, Go.Sort.mapBlock, Go.Sort.ahead, Array.getElem?_modify, this]
theorem Pr.size (cur : Array Value) (d : Array α) : (Go.Sort.putCells enc 0 d cur).size = cur.size := by simp [Go.Sort.putCells]
theorem Pr.take (cur : Array Value) (ts : List α) (h : ts.length ≤ cur.size) : (Go.Sort.putCells enc 0 ts.toArray cur).toList.take ts.length = ts.map enc := by
  apply List.ext_getElem?
  intro j
  by_cases hj : j < ts.length
  · rw [List.getElem?_take_of_lt hj, Array.getElem?_toList]
    simp [Go.Sort.putCells, hj, show j < cur.size by omega]
  · rw [List.getElem?_take_eq_none (by omega), List.getElem?_eq_none (by simp; omega)]
theorem Pr.holds {w : World} {g : Nat} {cur : Array Value} {e : TypeId} {ss : List α} (hb : w.heap[g]? = some (.cells cur e (0, 0))) (ht : cur.toList.take ss.length = ss.map enc) : Go.Sort.Holds enc w g 0 ss.toArray := by
  intro j hj
  have hj' : j < ss.length := by simpa using hj
  refine ⟨?_, by simp [World.frozen?, hb]⟩
  have h1 : (cur.toList.take ss.length)[j]? = (ss.map enc)[j]? := by rw [ht]
  rw [List.getElem?_take_of_lt hj'] at h1
  simp only [World.cell?, hb, Nat.zero_add]
  simp only [Option.isSome_none, Bool.false_eq_true, if_false]
  rw [← Array.getElem?_toList, h1]
  simp [hj']
end
/-- Rows whose elements lie apart, cell by cell; laid in another order (some left out) they lie apart, too. -/
theorem S_arr {α : Type} {d : Kd α} (hsz : d.sz = 1) {e g n cap : Nat} {w : World} {base : Nat} {ok : Nat → Prop} {L : List α} (z : α) (h : Kd.S d e w base ok (.slice (some ⟨g, 0, none⟩) n cap) L) :
    ∃ (inner : List Value) (cur : Array Value), inner.length = n ∧ L.length = n ∧ base ≤ g ∧ n ≤ cap ∧ cap ≤ maxLen ∧ w.heap[g]? = some (.cells cur e (0, 0)) ∧ cur.size = cap ∧ cur.toList.take n = inner ∧ (∀ u ∈ inner, u.oneCell' = true) ∧
      (∀ j, j < n → d.M w base (fun k => ok k ∧ k ≠ g) (L.getD j z) [inner.getD j (.slice none 0 0)]) ∧
      ∀ (w1 : World) (σ : List Nat) (cur1 : Array Value), w.grownBy w1 (some g) → w1.heap[g]? = some (.cells cur1 e (0, 0)) → cur1.size = cap → σ.length ≤ cap → σ.Nodup → (∀ i ∈ σ, i < n) → cur1.toList.take σ.length = σ.map (fun i => inner.getD i (.slice none 0 0)) →
        Kd.S d e w1 base ok (.slice (some ⟨g, 0, none⟩) σ.length cap) (σ.map fun i => L.getD i z) := by
  obtain ⟨f, h0, inner, ho, hr⟩ := h
  rcases ho.2 with ⟨hv, _⟩ | ⟨g', cap', cur, hv, hg, hh, hn, hm, hs, ht⟩
  · cases hv
  injection hv with ha hb hc
  injection ha with ha
  injection ha with ha _ _
  subst ha hc
  rw [List.length_zipIdx] at hb
  have hsz' : (Kd.tag f d).sz = 1 := hsz
  have hil : inner.length = n := by have := hr.1; rw [List.length_zipIdx, hsz'] at this; omega
  have hown : ∀ k, some k ≠ (Value.slice (some ⟨g, 0, none⟩) n cap).ownBlock → k ≠ g := fun k hk e => hk (by simp [Value.ownBlock, e])
  have hel : ∀ j x, L[j]? = some x → j < n → d.M w base (fun k => (ok k ∧ some k ≠ (Value.slice (some ⟨g, 0, none⟩) n cap).ownBlock) ∧ f k = j) x [inner.getD j (.slice none 0 0)] := by
    intro j x hj hjn
    have h1 := hr.2 j (x, j) (Kd.zip_at hj)
    rw [hsz', Nat.mul_one] at h1
    have h2 : (inner.drop j).take 1 = [inner.getD j (.slice none 0 0)] := by
      have hlt : j < inner.length := by omega
      rw [List.drop_eq_getElem_cons hlt, List.take_succ_cons, List.take_zero, List.getD_eq_getElem?_getD, List.getElem?_eq_getElem hlt, Option.getD_some]
    rw [h2] at h1
    exact h1
  refine ⟨inner, cur, hil, hb.symm, hg, ?_, hm, hh, by rw [hs, hsz', Nat.mul_one], ?_, ?_, ?_, ?_⟩
  · rw [List.length_zipIdx] at hn; omega
  · rw [List.length_zipIdx, hsz', Nat.mul_one, ← hb] at ht; exact ht
  · intro u hu
    obtain ⟨j, hj, rfl⟩ := List.mem_iff_getElem.1 hu
    have hjl : j < L.length := by omega
    have h1 := d.K_one (d.K_of_M (hel j L[j] (List.getElem?_eq_getElem hjl) (by omega))) _ (List.mem_singleton.2 rfl)
    simpa [List.getD, List.getElem?_eq_getElem hj] using h1
  · intro j hj
    have hjl : j < L.length := by omega
    have h1 := hel j L[j] (List.getElem?_eq_getElem hjl) hj
    rw [show L.getD j z = L[j] by simp [List.getD, List.getElem?_eq_getElem hjl]]
    exact d.M_mono (fun k hk => ⟨hk.1.1, hown k hk.1.2⟩) h1
  · intro w1 σ cur1 hgr hh1 hs1 hsc hnd hlt ht1
    have hgv : ∀ k, some k ≠ (Value.slice (some ⟨g, 0, none⟩) n cap).ownBlock ↔ some k ≠ (Value.slice (some ⟨g, 0, none⟩) σ.length cap).ownBlock := fun k => by simp [Value.ownBlock]
    refine ⟨fun b => σ.idxOf (f b), fun k hk => h0 k (by simpa [Value.ownBlock] using hk), σ.map (fun i => inner.getD i (.slice none 0 0)), ⟨?_, .inr ⟨g, cap, cur1, ?_, hg, hh1, ?_, hm, ?_, ?_⟩⟩, ⟨?_, fun j p hj => ?_⟩⟩
    · rw [List.length_map, List.length_zipIdx, List.length_map]; show _ = _ * d.sz; rw [hsz, Nat.mul_one]
    · rw [List.length_zipIdx, List.length_map]
    · rw [List.length_zipIdx, List.length_map]; exact hsc
    · show _ = cap * d.sz; rw [hsz, Nat.mul_one]; exact hs1
    · rw [List.length_zipIdx, List.length_map]; show cur1.toList.take (σ.length * d.sz) = _; rw [hsz, Nat.mul_one]; exact ht1
    · rw [List.length_map, List.length_zipIdx, List.length_map]; show _ = _ * d.sz; rw [hsz, Nat.mul_one]
    · rw [List.getElem?_zipIdx, Nat.zero_add] at hj
      obtain ⟨q, hq, rfl⟩ := Option.map_eq_some_iff.1 hj
      rw [List.getElem?_map] at hq
      obtain ⟨i, hi, rfl⟩ := Option.map_eq_some_iff.1 hq
      obtain ⟨hjl, hje⟩ := List.getElem?_eq_some_iff.1 hi
      have hin := hlt i (List.mem_of_getElem? hi)
      have hil2 : i < L.length := by omega
      have h1 := hel i L[i] (List.getElem?_eq_getElem hil2) hin
      show d.M w1 base (fun k => (ok k ∧ some k ≠ _) ∧ σ.idxOf (f k) = j) (L.getD i z) ((List.drop (j * d.sz) _).take d.sz)
      rw [hsz, Nat.mul_one]
      have h2 : ((σ.map (fun i => inner.getD i (.slice none 0 0))).drop j).take 1 = [inner.getD i (.slice none 0 0)] := by
        have hlt2 : j < (σ.map (fun i => inner.getD i (Value.slice none 0 0))).length := by rw [List.length_map]; exact hjl
        rw [List.drop_eq_getElem_cons hlt2, List.take_succ_cons, List.take_zero, List.getElem_map, hje]
      rw [h2, show L.getD i z = L[i] by simp [List.getD, List.getElem?_eq_getElem hil2]]
      have h3 := d.M_move (w1 := w1) (fun k hk => hgr.block k hk.2.2.1 (fun e => hown k hk.1.1.2 (by injection e))) (d.M_bound h1)
      refine d.M_mono (fun k hk => ⟨⟨hk.1.1.1, (hgv k).1 hk.1.1.2⟩, ?_⟩) h3
      rw [hk.1.2, ← hje]
      exact List.Nodup.idxOf_getElem hnd j hjl
section
open Go.Shelf
shelf_lay_g SlLaysE.n45 Slgn 45 at Try 64 as Shf.delRows
shelf_lay_g SlLaysF.n6 Slsf 6 at Try 102 as Shf.sortRows
shelf_lay_g SlLaysF0.n20 Slsf 20 at Try 139 as Shf.insEdges
shelf_lay Lays.n125 Nm 125 at Try as Shf.bitsLen
end
/-- A value of one cell. -/
abbrev One1 : Type := { u : Value // u.oneCell' = true }
instance : Inhabited One1 := ⟨⟨.slice none 0 0, rfl⟩⟩
theorem erase_map {α β : Type} (f : α → β) (l : List α) (k : Nat) : (l.eraseIdx k).map f = (l.map f).eraseIdx k := by
  rw [List.eraseIdx_eq_take_drop_succ, List.eraseIdx_eq_take_drop_succ, List.map_append, List.map_take, List.map_drop]
def one1 (inner : List Value) (h : ∀ u ∈ inner, u.oneCell' = true) : List One1 := inner.attach.map fun u => ⟨u.1, h u.1 u.2⟩
theorem one1_len (inner : List Value) (h) : (one1 inner h).length = inner.length := by simp [one1]
theorem one1_map (inner : List Value) (h) : (one1 inner h).map Subtype.val = inner := by
  unfold one1
  rw [List.map_map]
  show inner.attach.map (fun u => u.1) = inner
  exact List.attach_map_subtype_val inner
theorem range_erase (n k : Nat) (L : List (List Int)) (hL : L.length = n) (hk : k < n) : ((List.range n).eraseIdx k).map (fun i => L.getD i []) = L.eraseIdx k := by
  have h1 : (List.range n).map (fun i => L.getD i []) = L := by
    apply List.ext_getElem?
    intro i
    rw [List.getElem?_map]
    by_cases h : i < n
    · rw [List.getElem?_range h, Option.map_some, List.getD_eq_getElem?_getD, List.getElem?_eq_getElem (by omega), Option.getD_some]
    · rw [List.getElem?_eq_none (by simp; omega), List.getElem?_eq_none (by omega)]; rfl
  rw [erase_map, h1]
theorem range_vals (n : Nat) (inner : List Value) (hil : inner.length = n) : (List.range n).map (fun i => inner.getD i (.slice none 0 0)) = inner := by
  apply List.ext_getElem?
  intro i
  rw [List.getElem?_map]
  by_cases hi : i < n
  · rw [List.getElem?_range hi, Option.map_some, List.getD_eq_getElem?_getD, List.getElem?_eq_getElem (by omega), Option.getD_some]
  · rw [List.getElem?_eq_none (by simp; omega), List.getElem?_eq_none (by omega)]; rfl
/-- slices.Delete(rows, k, k+1). -/
theorem Dl.calls {w : World} {base : Nat} {ok : Nat → Prop} {g n cap : Nat} {L : List (List Int)} (h : Kd.S (Kd.slice 3 (Kd.int .i64)) 34 w base ok (.slice (some ⟨g, 0, none⟩) n cap) L) (k : Nat) (hk : k < n) :
    Calls Try.prog 64 #[.slice (some ⟨g, 0, none⟩) n cap, .int .i64 (k : Int), .int .i64 ((k + 1 : Nat) : Int)] w fun e w' =>
      e = .returned (.slice (some ⟨g, 0, none⟩) (n - 1) cap) ∧ Kd.S (Kd.slice 3 (Kd.int .i64)) 34 w' base ok (.slice (some ⟨g, 0, none⟩) (n - 1) cap) (L.eraseIdx k) ∧ w.grownBy w' (some g) := by
  obtain ⟨inner, cur, hil, hLl, hbg, hnc, hcm, hh, hcs, ht, hone, hM, hback⟩ := S_arr rfl ([] : List Int) h
  have hcm' : cap ≤ 9223372036854775807 := by simpa [maxLen] using hcm
  have hl1 : (one1 inner hone).length = n := by rw [one1_len, hil]
  have hH : Go.Sort.Holds Subtype.val w g 0 (one1 inner hone).toArray := Pr.holds hh (by rw [one1_map, hl1]; exact ht)
  have hsz : (one1 inner hone).toArray.size = n := by simp [hl1]
  obtain ⟨i0, hi0, hi1⟩ := Option.map_eq_some_iff.1 info34
  have hi2 : i0.size = 1 := by simpa using congrArg (fun z => z.2.1) hi1
  have hc := Go.Proofs.AnyE.slices_Delete Shf.delRows (Subtype.val : One1 → Value) (fun x => x.2) ⟨.slice none 0 0, rfl⟩ Try.zeroValue34 i0 hi0 hi2 g 0 cap k (k + 1) (one1 inner hone).toArray w hH (by rw [hsz]; exact hnc) hcm' (by omega) (by rw [hsz]; omega)
  change Calls Try.prog 64 _ _ _ at hc
  rw [hsz] at hc
  refine hc.mono ?_
  rintro e w' ⟨rfl, q, rfl⟩
  rw [show n - (k + 1 - k) = n - 1 by omega]
  have hts : (((one1 inner hone).take k ++ (one1 inner hone).drop (k + 1)) ++ List.replicate (k + 1 - k) (⟨.slice none 0 0, rfl⟩ : One1)).length = n := by simp [hl1]; omega
  have hw := Pr.heap (enc := (Subtype.val : One1 → Value)) (w := w) (g := g) (n := q) (os := #[]) (cur := cur) (e := 34) (fr := (0, 0)) (((one1 inner hone).take k ++ (one1 inner hone).drop (k + 1)) ++ List.replicate (k + 1 - k) (⟨.slice none 0 0, rfl⟩ : One1)).toArray hh
  have hg := Pr.grown (enc := (Subtype.val : One1 → Value)) (w := w) (g := g) (n := q) (os := #[]) (((one1 inner hone).take k ++ (one1 inner hone).drop (k + 1)) ++ List.replicate (k + 1 - k) (⟨.slice none 0 0, rfl⟩ : One1)).toArray
  rw [Go.Sort.grow_empty] at hw hg
  refine ⟨rfl, ?_, hg⟩
  have hb := hback _ ((List.range n).eraseIdx k) _ hg hw (by rw [Pr.size, hcs]) (by rw [List.length_eraseIdx, List.length_range, if_pos hk]; omega) (List.nodup_range.eraseIdx k) (fun i hi => List.mem_range.1 (List.mem_of_mem_eraseIdx hi)) ?_
  · rw [List.length_eraseIdx, List.length_range, if_pos hk, range_erase n k L hLl hk] at hb
    exact hb
  · have h2 := Pr.take (enc := (Subtype.val : One1 → Value)) cur (((one1 inner hone).take k ++ (one1 inner hone).drop (k + 1)) ++ List.replicate (k + 1 - k) (⟨.slice none 0 0, rfl⟩ : One1)) (by rw [hts, hcs]; exact hnc)
    have h3 := congrArg (List.take (n - 1)) h2
    rw [hts, List.take_take, Nat.min_eq_left (by omega)] at h3
    rw [List.length_eraseIdx, List.length_range, if_pos hk, h3, List.map_append, List.map_append, List.map_take, List.map_drop, one1_map, List.take_append_of_le_length (by simp; omega), List.take_of_length_le (by simp; omega), ← List.eraseIdx_eq_take_drop_succ, erase_map]
    rw [range_vals n inner hil]
theorem Shf.hlen (n : Nat) (W : World) (h : n ≤ 12) : Calls Try.prog 126 #[.int .u64 n] W fun e w' => (∃ l : Int, e = .returned (.int .i64 l)) ∧ w' = W :=
  (Go.Proofs.Any.bits_Len Shf.bitsLen n W (by omega) (by omega)).mono fun _ _ ⟨he, hw⟩ => ⟨⟨_, he⟩, hw⟩
theorem fin_range (n : Nat) : (List.finRange n).map Fin.val = List.range n := by
  apply List.ext_getElem <;> simp
theorem ext_self {α : Type} (r : Array α) (n : Nat) (h : r.size = n) : r.extract 0 n = r := by subst h; simp
theorem fin_vals (n : Nat) (inner : List Value) (hil : inner.length = n) : (List.finRange n).map (fun i : Fin n => inner.getD i.1 (.slice none 0 0)) = inner := by
  have := range_vals n inner hil
  rw [← fin_range, List.map_map] at this
  exact this
theorem sf_swo {n : Nat} (hd : Fin n → Int) (hb : ∀ i, 0 ≤ hd i ∧ hd i ≤ 1000) : Go.Sort.SWO (Go.Proofs.ltOf fun i j : Fin n => wrap64 (hd i - hd j)) := by
  have e : ∀ i j, Go.Proofs.ltOf (fun i j : Fin n => wrap64 (hd i - hd j)) i j = decide (hd i < hd j) := by
    intro i j
    have := hb i
    have := hb j
    show decide (wrap64 (hd i - hd j) < 0) = _
    unfold wrap64
    congr 1
    apply propext
    omega
  refine ⟨fun x => by rw [e]; simp, fun x y z h1 h2 => ?_, fun x y z h1 h2 => ?_⟩
  · rw [e] at *; simp at *; omega
  · rw [e] at *; simp at *; omega
set_option maxHeartbeats 1000000 in
/-- slices.SortFunc(rows, by their first). -/
theorem Sf.calls {w : World} {base : Nat} {ok : Nat → Prop} {g n cap : Nat} {L : List (List Int)} (h : Kd.S (Kd.slice 3 (Kd.int .i64)) 34 w base ok (.slice (some ⟨g, 0, none⟩) n cap) L) (hn : 0 < n) (h12 : n ≤ 12) (hne : ∀ c ∈ L, c ≠ []) (hb : ∀ c ∈ L, 0 ≤ rd c 0 ∧ rd c 0 ≤ 1000) :
    Calls Try.prog 102 #[.slice (some ⟨g, 0, none⟩) n cap, .func (.func 103) #[] #[]] w fun e w' =>
      e = .returned (.tuple #[]) ∧ ∃ L' : List (List Int), L'.Perm L ∧ L'.Pairwise (fun a b => rd a 0 ≤ rd b 0) ∧ Kd.S (Kd.slice 3 (Kd.int .i64)) 34 w' base ok (.slice (some ⟨g, 0, none⟩) n cap) L' ∧ w.grownBy w' (some g) := by
  obtain ⟨inner, cur, hil, hLl, hbg, hnc, hcm, hh, hcs, ht, hone, hM, hback⟩ := S_arr rfl ([] : List Int) h
  haveI : Inhabited (Fin n) := ⟨⟨0, hn⟩⟩
  have hmem : ∀ i : Fin n, L.getD i.1 [] ∈ L := fun i => by
    rw [List.getD_eq_getElem?_getD, List.getElem?_eq_getElem (by have := i.2; omega), Option.getD_some]; exact List.getElem_mem _
  let enc : Fin n → Value := fun i => inner.getD i.1 (.slice none 0 0)
  let cf : Fin n → Fin n → Int := fun i j => wrap64 (rd (L.getD i.1 []) 0 - rd (L.getD j.1 []) 0)
  have henc : Go.Proofs.OneCell enc := fun i => by
    show (inner.getD i.1 _).oneCell' = true
    rw [List.getD_eq_getElem?_getD, List.getElem?_eq_getElem (by have := i.2; omega), Option.getD_some]
    exact hone _ (List.getElem_mem _)
  have hmap : (List.finRange n).map enc = inner := fin_vals n inner hil
  have hsz : (List.finRange n).toArray.size = n := by simp
  have hH : Go.Sort.Holds enc w g 0 (List.finRange n).toArray := Pr.holds hh (by rw [hmap, List.length_finRange]; exact ht)
  have eg : ∀ args w, (callFunc 103 args).run Try.prog w = .ok (.enter 103 args) w := enters_of Try.func103 (by kernel_rfl) rfl
  have hcmp : Go.Proofs.CmpReads Try.prog 103 #[] enc cf g 0 (List.finRange n).toArray.size w := by
    intro m os dk hdk x y
    have hg : w.grownBy (Go.Proofs.sortWorld enc w g 0 m dk os) (some g) := Pr.grown (enc := enc) dk
    have hx : ∀ i : Fin n, ∃ A c, enc i = .slice A (L.getD i.1 []).length c ∧ (L.getD i.1 []).length ≤ c ∧ (Kd.int .i64).C (Go.Proofs.sortWorld enc w g 0 m dk os) A (L.getD i.1 []).length (L.getD i.1 []) := by
      intro i
      have h1 := Kd.M_grown (hM i.1 i.2) hg (fun k hk e => hk.2 (by injection e))
      obtain ⟨A, c, e1, e2, e3⟩ := (Kd.slice 3 (Kd.int .i64)).K_of_M h1
      exact ⟨A, c, by injection e1, e2, e3⟩
    obtain ⟨A, c, e1, e2, e3⟩ := hx x
    obtain ⟨B, c', f1, f2, f3⟩ := hx y
    show Calls Try.prog 103 #[enc x, enc y] _ _
    rw [e1, f1]
    have l1 : 0 < (L.getD x.1 []).length := List.length_pos_iff.2 (hne _ (hmem x))
    have l2 : 0 < (L.getD y.1 []).length := List.length_pos_iff.2 (hne _ (hmem y))
    refine (impl_chainsOf_4.calls A c (L.getD x.1 []) B c' (L.getD y.1 []) (cf x y) _ e3 e2 f3 f2 (by unfold impl_chainsOf_4.f; rw [if_pos (by omega), if_pos (by omega)])).mono ?_
    rintro e w' ⟨rfl, q, rfl⟩
    exact ⟨rfl, q, rfl⟩
  have hc := Go.Proofs.Any.slices_SortFunc_small Shf.sortRows enc henc cf 103 #[] g 0 cap (List.finRange n).toArray w eg hcmp hH (by rw [hsz]; exact h12) Shf.hlen
  have hS : Go.Sort.SWO (Go.Proofs.ltOf cf) := sf_swo (fun i : Fin n => rd (L.getD i.1 []) 0) (fun i => hb _ (hmem i))
  obtain ⟨hp1, hp2⟩ := Go.Sort.insertionSort_holds (lt := Go.Proofs.ltOf cf) hS (List.finRange n).toArray 0 (List.finRange n).toArray.size (Nat.zero_le _) (Nat.le_refl _)
  change Calls Try.prog 102 _ _ _ at hc
  generalize Go.Sort.insertionSort (Go.Proofs.ltOf cf) (List.finRange n).toArray 0 (List.finRange n).toArray.size = r at hc hp1 hp2
  rw [hsz] at hc hp1 hp2
  obtain ⟨hr1, _, hr2⟩ := hp1
  have hrn : r.size = n := by rw [hr1, hsz]
  have hrl : r.toList.length = n := by simpa using hrn
  have hperm : r.toList.Perm (List.finRange n) := by
    rw [ext_self r n hrn, ext_self _ n hsz] at hr2
    simpa using hr2
  have hσp : (r.toList.map Fin.val).Perm (List.range n) := by
    have := hperm.map Fin.val
    rwa [fin_range] at this
  refine hc.mono ?_
  rintro e w' ⟨rfl, q, rfl⟩
  have hw := Pr.heap (enc := enc) (w := w) (g := g) (n := q) (os := #[]) (cur := cur) (e := 34) (fr := (0, 0)) r hh
  have hg := Pr.grown (enc := enc) (w := w) (g := g) (n := q) (os := #[]) r
  rw [Go.Sort.grow_empty] at hw hg
  have hwd : (Go.Sort.putRow enc w g 0 r).drewN q = Go.Sort.putRow enc (Go.Sort.ahead w q) g 0 r := rfl
  rw [hwd]
  refine ⟨rfl, (r.toList.map Fin.val).map fun i => L.getD i [], ?_, ?_, ?_, hg⟩
  · have h1 := hσp.map (fun i => L.getD i ([] : List Int))
    have h2 : (List.range n).map (fun i => L.getD i ([] : List Int)) = L := by
      apply List.ext_getElem?
      intro i
      rw [List.getElem?_map]
      by_cases hi : i < n
      · rw [List.getElem?_range hi, Option.map_some, List.getD_eq_getElem?_getD, List.getElem?_eq_getElem (by omega), Option.getD_some]
      · rw [List.getElem?_eq_none (by simp; omega), List.getElem?_eq_none (by omega)]; rfl
    rwa [h2] at h1
  · rw [List.map_map, List.pairwise_map, List.pairwise_iff_getElem]
    intro i j hi hj hij
    have hi' : i < r.size := by simpa using hi
    have hj' : j < r.size := by simpa using hj
    have h1 := hp2 i j (Nat.zero_le _) hij (by omega)
    rw [getElem!_pos r j hj', getElem!_pos r i hi'] at h1
    have b1 := hb _ (hmem r[i])
    have b2 := hb _ (hmem r[j])
    simp only [Go.Proofs.ltOf, cf, decide_eq_false_iff_not] at h1
    unfold wrap64 at h1
    simp only [Function.comp_apply, Array.getElem_toList]
    omega
  · have h1 := hback _ (r.toList.map Fin.val) _ hg hw (by rw [Pr.size, hcs]) (by rw [List.length_map, hrl]; exact hnc) (hσp.nodup_iff.2 List.nodup_range) (fun i hi => List.mem_range.1 (hσp.mem_iff.1 hi)) ?_
    · rw [List.length_map, hrl] at h1
      exact h1
    · have h2 := Pr.take (enc := enc) cur r.toList (by rw [hrl, hcs]; exact hnc)
      rw [List.length_map, List.map_map]
      exact h2
/-! the stable sort of edges, by falling counts -/
section
variable {α : Type} (lt : α → α → Bool)
/-- Into a turned list: behind those that it is less than. -/
def insR (x : α) : List α → List α
  | [] => [x]
  | y :: ys => if lt x y then y :: insR x ys else x :: y :: ys
def insL (p : List α) (x : α) : List α := (insR lt x p.reverse).reverse
theorem insR_len (x : α) : ∀ l : List α, (insR lt x l).length = l.length + 1
  | [] => rfl
  | y :: ys => by unfold insR; split <;> simp [insR_len x ys]
theorem insL_len (p : List α) (x : α) : (insL lt p x).length = p.length + 1 := by simp [insL, insR_len]
theorem insL_snoc (p : List α) (y x : α) : insL lt (p ++ [y]) x = if lt x y then insL lt p x ++ [y] else p ++ [y, x] := by
  unfold insL
  rw [List.reverse_append, List.reverse_singleton, List.singleton_append]
  show (if lt x y then y :: insR lt x p.reverse else x :: y :: p.reverse).reverse = _
  split
  · rw [List.reverse_cons]
  · simp
end
section
variable {α : Type} [Inhabited α] (lt : α → α → Bool)
theorem arr_get (p q : List α) (x : α) : (p ++ x :: q).toArray[p.length]! = x := by simp
theorem swp_list (p q : List α) (x y : α) : Go.Sort.swp (p ++ y :: x :: q).toArray (p.length + 1) p.length = (p ++ x :: y :: q).toArray := by
  unfold Go.Sort.swp
  have h1 : (p ++ y :: x :: q).toArray[p.length]! = y := arr_get p (x :: q) y
  have h2 : (p ++ y :: x :: q).toArray[p.length + 1]! = x := by
    simp
  rw [h1, h2]
  apply Array.ext'
  simp
theorem insInner_list : ∀ (p q : List α) (x : α), Go.Sort.insInner lt 0 p.length (p ++ x :: q).toArray = (insL lt p x ++ q).toArray := by
  intro p
  induction hn : p.length generalizing p with
  | zero =>
    intro q x
    obtain rfl : p = [] := List.eq_nil_of_length_eq_zero hn
    rfl
  | succ n ih =>
    intro q x
    obtain ⟨p', y, rfl⟩ : ∃ p' y, p = p' ++ [y] := ⟨p.dropLast, p.getLast (by intro e; rw [e] at hn; cases hn), (List.dropLast_concat_getLast _).symm⟩
    have hp : p'.length = n := by simpa using hn
    subst hp
    have e : (p' ++ [y]) ++ x :: q = p' ++ y :: x :: q := by simp
    have h1 : (p' ++ y :: x :: q).toArray[p'.length]! = y := arr_get p' (x :: q) y
    have h2 : (p' ++ y :: x :: q).toArray[p'.length + 1]! = x := by
      simp
    rw [e, Go.Sort.insInner, h1, h2, insL_snoc]
    by_cases hl : lt x y = true
    · rw [if_pos (by simp [hl]), if_pos hl, swp_list, ih p' rfl]
      simp
    · rw [if_neg (by simp [hl]), if_neg hl]
      simp
theorem insOuter_list : ∀ (r p : List α), 0 < p.length → (Go.Sort.insOuter lt 0 (p.length + r.length) p.length (p ++ r).toArray).toList = r.foldl (insL lt) p := by
  intro r
  induction r with
  | nil =>
    intro p hp
    rw [Go.Sort.insOuter, if_neg (by simp)]
    simp
  | cons x r ih =>
    intro p hp
    rw [Go.Sort.insOuter, if_pos (by simp), insInner_list]
    have := ih (insL lt p x) (by rw [insL_len]; omega)
    rw [insL_len] at this
    rw [List.foldl_cons, ← this]
    congr 2
    simp only [List.length_cons]
    omega
theorem insSort_list (l : List α) : (Go.Sort.insertionSort lt l.toArray 0 l.length).toList = l.foldl (insL lt) [] := by
  cases l with
  | nil => unfold Go.Sort.insertionSort; rw [Go.Sort.insOuter, if_neg (by simp)]; rfl
  | cons x r =>
    have := insOuter_list lt r [x] (by simp)
    simp only [List.length_singleton, List.singleton_append] at this
    unfold Go.Sort.insertionSort
    rw [List.length_cons, Nat.add_comm r.length 1, this]
    rfl
end
def enc48 (x : S48) : List Value := [.int .i64 x.f0, .int .i64 x.f1, .int .i64 x.f2]
instance : Inhabited S48 := ⟨z48⟩
/-- The cells of a row of edges. -/
def flat48 (l : List S48) : List Value := l.flatMap enc48
theorem flat48_len : ∀ l : List S48, (flat48 l).length = l.length * 3
  | [] => rfl
  | x :: l => by
    have := flat48_len l
    unfold flat48 at this ⊢
    rw [List.flatMap_cons, List.length_append, this]
    simp only [enc48, List.length_cons, List.length_nil]
    omega
theorem flat48_get : ∀ (l : List S48) (t : Nat), t < l.length * 3 → (flat48 l)[t]? = some ((enc48 l[t / 3]!)[t % 3]!)
  | [], t, h => by simp at h
  | x :: l, t, h => by
    unfold flat48
    rw [List.flatMap_cons]
    by_cases h3 : t < 3
    · have h0 : t / 3 = 0 := by omega
      have h1 : t % 3 = t := by omega
      rw [List.getElem?_append_left (by simpa [enc48] using h3), h0, h1]
      have : t < (enc48 x).length := by simpa [enc48] using h3
      rw [List.getElem?_eq_getElem this]
      simp [this]
    · have h0 : t / 3 = (t - 3) / 3 + 1 := by omega
      have h1 : t % 3 = (t - 3) % 3 := by omega
      rw [List.getElem?_append_right (by simp [enc48]; omega), h0, h1, show t - (enc48 x).length = t - 3 from rfl]
      have := flat48_get l (t - 3) (by simp only [List.length_cons] at h; omega)
      unfold flat48 at this
      rw [this]
      simp
theorem flat48_K (l : List S48) : (Go.Sort.flatK enc48 3 l.toArray).toList = flat48 l := by
  apply List.ext_getElem?
  intro t
  have hs : (Go.Sort.flatK enc48 3 l.toArray).size = l.length * 3 := by simp
  by_cases h : t < l.length * 3
  · rw [flat48_get l t h, Array.getElem?_toList]
    rw [Array.getElem?_eq_getElem (by omega)]
    have := Go.Sort.get_flatK enc48 3 l.toArray t (by simpa using h)
    rw [getElem!_pos _ t (by omega)] at this
    rw [this]
    simp
  · rw [Array.getElem?_toList, Array.getElem?_eq_none (by omega), List.getElem?_eq_none (by rw [flat48_len]; omega)]
theorem flat48_reps {d : World} {base : Nat} {ok : Nat → Prop} {l : List S48} {inner : List Value} (h : Reps (k48.M d base ok) 3 l inner) : inner = flat48 l := by
  apply List.ext_getElem?
  intro t
  have hl := h.1
  by_cases ht : t < l.length * 3
  · rw [flat48_get l t ht]
    have hj : t / 3 < l.length := by omega
    have h1 := h.2 (t / 3) _ (List.getElem?_eq_getElem hj)
    have h2 := k48_openM h1
    have h3 : ((inner.drop (t / 3 * 3)).take 3)[t % 3]? = inner[t]? := by
      rw [List.getElem?_take_of_lt (by omega), List.getElem?_drop]
      congr 1
      omega
    rw [← h3, h2]
    have h4 : t % 3 < (enc48 l[t / 3]).length := by simp [enc48]; omega
    show (enc48 l[t / 3])[t % 3]? = _
    rw [List.getElem?_eq_getElem h4, getElem!_pos l (t / 3) hj]
    exact congrArg some (getElem!_pos (enc48 l[t / 3]) (t % 3) h4).symm
  · rw [List.getElem?_eq_none (by omega), List.getElem?_eq_none (by rw [flat48_len]; omega)]
/-- A row of edges stands in block g; all else that stood is as it was. -/
def St (w : World) (g sz : Nat) (l : List S48) (w' : World) : Prop := w.grownBy w' (some g) ∧ ∃ cur, w'.heap[g]? = some (.cells cur 48 (0, 0)) ∧ cur.size = sz ∧ cur.toList.take (l.length * 3) = flat48 l
theorem grown_trans {a b c : World} {g : Nat} (h : a.grownBy b (some g)) (k : b.grownBy c (some g)) : a.grownBy c (some g) :=
  ⟨k.os.trans h.os, k.tape.trans h.tape, k.output.trans h.output, Nat.le_trans h.size k.size, fun x hx hn => (k.block x (Nat.lt_of_lt_of_le hx h.size) hn).trans (h.block x hx hn)⟩
def cf48 (x y : S48) : Int := wrap64 (y.f2 - x.f2)
set_option maxHeartbeats 1000000 in
theorem Cm.calls (x y : S48) (W : World) : Calls Try.prog 98 #[.agg (enc48 x).toArray, .agg (enc48 y).toArray] W fun e w' => e = .returned (.int .i64 (cf48 x y)) ∧ ∃ q os', w' = Go.Sort.grow (W.drewN q) os' := by
  unfold enc48
  go_enter Try.func98, Try.ntmps98
  go_wp2
  go_ret
  exact ⟨rfl, 0, _, by rw [Go.Sort.alloc_eq_grow, Go.Sort.alloc_eq_grow, Go.Sort.grow_grow]; rfl⟩
theorem In.calls {w : World} {g cap : Nat} {cur : Array Value} (l rl : List S48) (a b : Nat) (hrl : (Go.Sort.insertionSort (Go.Proofs.ltOf cf48) l.toArray a b).toList = rl) (hrn : rl.length = l.length) (hh : w.heap[g]? = some (.cells cur 48 (0, 0))) (hcs : cur.size = cap * 3) (hlc : l.length ≤ cap) (hl20 : l.length ≤ 20) (ht : cur.toList.take (l.length * 3) = flat48 l) (hab : a ≤ b) (hb : b ≤ l.length) :
    Calls Try.prog 139 #[.slice (some ⟨g, 0, none⟩) l.length cap, .int .i64 a, .int .i64 b, .func (.func 98) #[] #[]] w fun e w' => e = .returned (.tuple #[]) ∧ St w g (cap * 3) rl w' := by
  have eg : ∀ args w, (callFunc 98 args).run Try.prog w = .ok (.enter 98 args) w := enters_of Try.func98 (by kernel_rfl) rfl
  have hfl : (Go.Sort.flatK enc48 3 l.toArray).toList.length = l.length * 3 := by rw [flat48_K, flat48_len]
  have hH : Go.Sort.HoldsK enc48 3 w g 0 l.toArray := by
    have := Pr.holds (enc := id) (ss := (Go.Sort.flatK enc48 3 l.toArray).toList) hh (by rw [hfl, List.map_id, flat48_K]; exact ht)
    exact this
  have hblk : g < w.heap.size := (Array.getElem?_eq_some_iff.1 hh).1
  have hc := Go.Proofs.AnyQ.insertionSortCmpFunc Shf.insEdges 3 Try.isAgg48 Try.sizeOf48 enc48 (fun _ => rfl) (fun x v hv => by simp only [enc48, List.mem_cons, List.not_mem_nil, or_false] at hv; rcases hv with rfl | rfl | rfl <;> rfl) cf48 98 #[] g 0 cap a b l.toArray w eg (fun m os dk _ x y => Cm.calls x y _) hH hblk hab (by simpa using hb) (by simp; omega)
  change Calls Try.prog 139 _ _ _ at hc
  refine (show Calls Try.prog 139 #[.slice (some ⟨g, 0, none⟩) l.length cap, .int .i64 a, .int .i64 b, .func (.func 98) #[] #[]] w _ from by simpa using hc).mono ?_
  rintro e w' ⟨rfl, n, os, rfl⟩
  generalize Go.Sort.insertionSort (Go.Proofs.ltOf cf48) l.toArray a b = r at hrl ⊢
  subst hrl
  have hr : r.toList.length = l.length := hrn
  have h3 : (Go.Sort.flatK enc48 3 r).toList = flat48 r.toList := flat48_K r.toList
  have hfr : (Go.Sort.flatK enc48 3 r).toList.length = l.length * 3 := by rw [h3, flat48_len, hr]
  refine ⟨rfl, Pr.grown (enc := id) _, _, Pr.heap (enc := id) _ hh, by rw [Pr.size, hcs], ?_⟩
  have h2 := Pr.take (enc := id) cur (Go.Sort.flatK enc48 3 r).toList (by rw [hfr, hcs]; omega)
  rw [hfr, List.map_id] at h2
  rw [hr, ← h3]
  exact h2
/-- The stable sort by falling counts. -/
def sortE (l : List S48) : List S48 := l.foldl (insL (Go.Proofs.ltOf cf48)) []
theorem foldl_len (lt : S48 → S48 → Bool) : ∀ (r p : List S48), (r.foldl (insL lt) p).length = p.length + r.length
  | [], p => rfl
  | x :: r, p => by rw [List.foldl_cons, foldl_len lt r, insL_len, List.length_cons]; omega
theorem sortE_len (l : List S48) : (sortE l).length = l.length := by unfold sortE; rw [foldl_len]; simp
def Rl (w : World) (g cap : Nat) (l : List S48) (kq : Nat) (v7 v8 : Value) (w' : World) : Prop :=
  (kq = 2 ∧ v7 = .int .i64 0 ∧ v8 = .int .i64 20 ∧ w' = w) ∨ (kq = 1 ∧ v7 = .int .i64 20 ∧ v8 = .int .i64 40 ∧ l.length = 20 ∧ St w g (cap * 3) (sortE l) w')
set_option maxHeartbeats 800000 in
set_option maxRecDepth 100000 in
theorem Sb.calls {w : World} {g cap : Nat} {cur : Array Value} (l : List S48) (hh : w.heap[g]? = some (.cells cur 48 (0, 0))) (hcs : cur.size = cap * 3) (hlc : l.length ≤ cap) (hl20 : l.length ≤ 20) (ht : cur.toList.take (l.length * 3) = flat48 l) :
    Calls Try.prog 124 #[.slice (some ⟨g, 0, none⟩) l.length cap, .int .i64 (l.length : Int), .func (.func 98) #[] #[]] w fun e w' => e = .returned (.tuple #[]) ∧ St w g (cap * 3) (sortE l) w' := by
  have hcall := In.calls (l := l) (rl := sortE l) 0 l.length (insSort_list (Go.Proofs.ltOf cf48) l) (sortE_len l) hh hcs hlc hl20 ht (Nat.zero_le _) (Nat.le_refl _)
  have HC := Aside0.mk hcall
  have HL := Aside0.mk hlc
  have HN := Aside0.mk hl20
  clear hh hcs ht hcall hlc hl20
  go_enter Try.func124, Try.ntmps124
  go_wp2
  go_loopg [7, 8] 2 (fun kq v7 v8 w' => Rl w g cap l kq v7 v8 w')
  case atStart => exact .inl ⟨rfl, rfl, rfl, rfl⟩
  case round =>
    rcases hrel with ⟨rfl, rfl, rfl, rfl⟩ | ⟨rfl, rfl, rfl, h20, hSt⟩
    · by_cases h20 : l.length = 20
      · have hd : decide (20 ≤ (l.length : Int)) = true := decide_eq_true (by omega)
        have hc2 : Calls Try.prog 139 #[.slice (some ⟨g, 0, none⟩) l.length cap, .int .i64 0, .int .i64 20, .func (.func 98) #[] #[]] wr fun e w'' => e = .returned (.tuple #[]) ∧ St wr g (cap * 3) (sortE l) w'' := by
          have := HC.out
          rw [show ((l.length : Nat) : Int) = 20 by omega] at this
          exact this
        have HD := Aside0.mk hc2
        have H20 := Aside0.mk h20
        clear hc2 h20
        go_wp2_with (go_at_call 139; refine HD.out.mono ?_; rintro e w2 ⟨rfl, hSt⟩; have HS := Aside0.mk hSt; clear hSt)
        go_roundg 1
        case measure => omega
        case rel => exact .inr ⟨rfl, rfl, rfl, H20.out, HS.out⟩
      · have hd : decide (20 ≤ (l.length : Int)) = false := decide_eq_false (by have := HN.out; omega)
        have hd2 : decide (20 < (l.length : Int)) = false := decide_eq_false (by have := HN.out; omega)
        clear h20
        have HD : Aside0 (Calls Try.prog 139 #[.slice (some ⟨g, 0, none⟩) l.length cap, .int .i64 0, .int .i64 (l.length : Int), .func (.func 98) #[] #[]] wr fun e w'' => e = .returned (.tuple #[]) ∧ St wr g (cap * 3) (sortE l) w'') := ⟨HC.out⟩
        go_wp2_with (go_at_call 139; refine HD.out.mono ?_; rintro e w2 ⟨rfl, hSt⟩; have HS := Aside0.mk hSt; clear hSt)
        refine wp_loop_rounds 1 ?_
        rw [rounds_succ]
        go_wp2
        go_end0
        exact ⟨rfl, HS.out⟩
    · have hd : decide (40 ≤ (l.length : Int)) = false := decide_eq_false (by omega)
      have hd2 : decide (20 < (l.length : Int)) = false := decide_eq_false (by omega)
      have HD : Aside0 (Calls Try.prog 139 #[.slice (some ⟨g, 0, none⟩) l.length cap, .int .i64 20, .int .i64 (l.length : Int), .func (.func 98) #[] #[]] wr fun e w'' => e = .returned (.tuple #[]) ∧ St w g (cap * 3) (sortE l) w'') := by
        obtain ⟨hg, cur, hh, hcs, ht⟩ := hSt
        rw [sortE_len] at ht
        have hln := sortE_len l
        have hc2 := In.calls (l := sortE l) (rl := sortE l) 20 20 (by unfold Go.Sort.insertionSort; rw [Go.Sort.insOuter, if_neg (by omega)]) rfl hh hcs (by rw [hln]; exact HL.out) (by omega) (by rw [hln]; exact ht) (Nat.le_refl _) (by omega)
        rw [hln] at hc2
        rw [show (l.length : Int) = 20 by omega]
        refine ⟨hc2.mono ?_⟩
        rintro e w2 ⟨rfl, h1, h2⟩
        exact ⟨rfl, grown_trans hg h1, h2⟩
      clear hSt h20
      go_wp2_with (go_at_call 139; refine HD.out.mono ?_; rintro e w2 ⟨rfl, hSt⟩; have HS := Aside0.mk hSt; clear hSt)
      refine wp_loop_rounds 1 ?_
      rw [rounds_succ]
      go_wp2
      go_end0
      exact ⟨rfl, HS.out⟩
set_option maxHeartbeats 800000 in
set_option maxRecDepth 100000 in
theorem Ss.calls {w : World} {g cap : Nat} {cur : Array Value} (l : List S48) (hh : w.heap[g]? = some (.cells cur 48 (0, 0))) (hcs : cur.size = cap * 3) (hlc : l.length ≤ cap) (hl20 : l.length ≤ 20) (ht : cur.toList.take (l.length * 3) = flat48 l) :
    Calls Try.prog 97 #[.slice (some ⟨g, 0, none⟩) l.length cap, .func (.func 98) #[] #[]] w fun e w' => e = .returned (.tuple #[]) ∧ St w g (cap * 3) (sortE l) w' := by
  have HC := Aside0.mk (Sb.calls l hh hcs hlc hl20 ht)
  clear hh hcs hlc hl20 ht
  go_enter Try.func97, Try.ntmps97
  go_wp2_with (go_at_call 124; refine HC.out.mono ?_; rintro e w2 ⟨rfl, hSt⟩; have HS := Aside0.mk hSt; clear hSt)
  go_end0
  exact ⟨rfl, HS.out⟩
/-- The last block of a chain is the edge's first. -/
theorem La.calls (W : World) (A : Option Addr) (c : Nat) (x : List Int) (ge : Nat) (ef et ec : Int) (hx : (Kd.int .i64).C W A x.length x) (hc : x.length ≤ c) (hne : 0 < x.length) (hb : W.heap[ge]? = some (.cells #[.int .i64 ef, .int .i64 et, .int .i64 ec] 48 (0, 0))) :
    Calls Try.prog 100 #[.slice A x.length c, .pointer (some ⟨ge, 0, none⟩)] W fun e w' => e = .returned (.bool (decide (rd x ((x.length : Int) - 1) = ef))) ∧ Drawn0 W w' := by
  have hu48 := Try.underlying48
  have hbig : x.length ≤ 9223372036854775807 := by have := hx.2.1; simpa [maxLen] using this
  obtain ⟨ji, hji⟩ : ∃ j_ : Int, wrap64 ((x.length : Int) - 1) = j_ := ⟨_, rfl⟩
  have hjiw : IntKind.i64.wrap ((x.length : Int) - 1) = ji := (i64_w _).trans hji
  have hjv : ji = (x.length : Int) - 1 := by rw [← hji]; unfold wrap64; omega
  obtain ⟨ad, e1, hx0⟩ := Kd.at_int hx ji (by omega) (by omega)
  cases e1
  obtain ⟨hz0, hf0, hz1, hf1, hz2, hf2⟩ := bk3 hb
  have hp2 : (0 ≤ ji) = True := eq_true (by omega)
  have hq2 : (ji < (x.length : Int)) = True := eq_true (by omega)
  rw [← hjv]
  clear hjv
  clear hx hb hne hbig
  go_enter Try.func100, Try.ntmps100
  go_wp2
  repeat (go_quiet (fail); try go_wp2)
  go_ret
  exact ⟨by first | rfl | (simp; done) | (simp [*]; done), by repeat (first | exact Drawn0.refl _ | apply Drawn0.step)⟩
/-- The first block of a chain is the edge's second. -/
theorem Fi.calls (W : World) (A : Option Addr) (c : Nat) (x : List Int) (ge : Nat) (ef et ec : Int) (hx : (Kd.int .i64).C W A x.length x) (hc : x.length ≤ c) (hne : 0 < x.length) (hb : W.heap[ge]? = some (.cells #[.int .i64 ef, .int .i64 et, .int .i64 ec] 48 (0, 0))) :
    Calls Try.prog 101 #[.slice A x.length c, .pointer (some ⟨ge, 0, none⟩)] W fun e w' => e = .returned (.bool (decide (rd x 0 = et))) ∧ Drawn0 W w' := by
  have hu48 := Try.underlying48
  obtain ⟨ad, e1, hx0⟩ := Kd.at_int hx 0 (by omega) (by omega)
  cases e1
  obtain ⟨hz0, hf0, hz1, hf1, hz2, hf2⟩ := bk3 hb
  have hq0 : (0 < x.length) = True := eq_true hne
  have hq : ((0 : Int) < (x.length : Int)) = True := eq_true (by omega)
  (try rw [show ((0 : Int)).toNat = 0 from rfl] at hx0)
  (try rw [Addr.add_zero'] at hx0)
  clear hx hb
  go_enter Try.func101, Try.ntmps101
  go_wp2
  repeat (go_quiet (fail); try go_wp2)
  go_ret
  exact ⟨by first | rfl | (simp; done) | (simp [*]; done), by repeat (first | exact Drawn0.refl _ | apply Drawn0.step)⟩
/-! chains, in plain Lean -/
def lastB (e : Int) (c : List Int) : Bool := decide (rd c ((c.length : Int) - 1) = e)
def firstB (e : Int) (c : List Int) : Bool := decide (rd c 0 = e)
def askO (q : List Int → Bool) (c : List Int) : Option Bool := if c = [] then none else some (q c)
/-- The place of the first that fits, -1 for none. -/
def fidx (q : List Int → Bool) : List (List Int) → Nat → Int
  | [], _ => -1
  | c :: cs, i => if q c = true then (i : Int) else fidx q cs (i + 1)
theorem fidx_ask (q : List Int → Bool) : ∀ (C : List (List Int)) (i : Nat), (∀ c ∈ C, c ≠ []) → Kit.idxO (askO q) C i = some (fidx q C i)
  | [], _, _ => rfl
  | c :: cs, i, h => by
    unfold Kit.idxO fidx askO
    rw [if_neg (h c (by simp)), Option.bind_some]
    split
    · rfl
    · exact fidx_ask q cs (i + 1) (fun d hd => h d (by simp [hd]))
theorem fidx_cases (q : List Int → Bool) : ∀ (C : List (List Int)) (i : Nat), fidx q C i = -1 ∨ ∃ j, fidx q C i = ((i + j : Nat) : Int) ∧ j < C.length
  | [], _ => .inl rfl
  | c :: cs, i => by
    unfold fidx
    split
    · exact .inr ⟨0, by simp, by simp⟩
    · rcases fidx_cases q cs (i + 1) with h | ⟨j, h, hj⟩
      · exact .inl h
      · exact .inr ⟨j + 1, by rw [h]; congr 1; omega, by simp only [List.length_cons]; omega⟩
theorem fidx_nat (q : List Int → Bool) (C : List (List Int)) (h : ¬ fidx q C 0 < 0) : ∃ j : Nat, fidx q C 0 = (j : Int) ∧ j < C.length := by
  rcases fidx_cases q C 0 with h1 | ⟨j, h1, h2⟩
  · omega
  · exact ⟨j, by simpa using h1, h2⟩
def mergeC (C : List (List Int)) (f t : Nat) : List (List Int) := (C.set f (C.getD f [] ++ C.getD t [])).eraseIdx t
def stepC (C : List (List Int)) (e : S48) : List (List Int) :=
  if e.f1 = 0 then C else if e.f0 = e.f1 then C else if fidx (lastB e.f0) C 0 < 0 then C else if fidx (firstB e.f1) C 0 < 0 then C else if fidx (lastB e.f0) C 0 = fidx (firstB e.f1) C 0 then C else mergeC C (fidx (lastB e.f0) C 0).toNat (fidx (firstB e.f1) C 0).toNat
def startC (n : Nat) : List (List Int) := (List.range n).map fun b : Nat => [(b : Int)]
def byFirst (C : List (List Int)) : List (List Int) := C.mergeSort fun a b => decide (rd a 0 ≤ rd b 0)
def chainsP (n : Nat) (l : List S48) : List (List Int) := byFirst ((sortE l).foldl stepC (startC n))
/-- Each block stands once, no chain is empty. -/
def Iv (n : Nat) (C : List (List Int)) : Prop := C.flatten.Perm ((List.range n).map fun b : Nat => (b : Int)) ∧ ∀ c ∈ C, c ≠ []
theorem flat_set : ∀ (C : List (List Int)) (f : Nat) (x : List Int), f < C.length → (C.set f (C.getD f [] ++ x)).flatten.Perm (x ++ C.flatten)
  | [], f, x, h => by simp at h
  | c :: cs, 0, x, h => by
    show ((c ++ x) ++ cs.flatten).Perm (x ++ (c ++ cs.flatten))
    rw [List.append_assoc]
    have h1 : (c ++ (x ++ cs.flatten)).Perm (x ++ (c ++ cs.flatten)) := by
      rw [← List.append_assoc, ← List.append_assoc]
      exact (List.perm_append_comm).append_right _
    exact h1
  | c :: cs, f + 1, x, h => by
    have ih := flat_set cs f x (by simpa using h)
    show (c ++ (cs.set f (cs.getD f [] ++ x)).flatten).Perm (x ++ (c ++ cs.flatten))
    refine (ih.append_left c).trans ?_
    rw [← List.append_assoc, ← List.append_assoc]
    exact (List.perm_append_comm).append_right _
theorem flat_erase : ∀ (C : List (List Int)) (t : Nat), t < C.length → C.flatten.Perm (C.getD t [] ++ (C.eraseIdx t).flatten)
  | [], t, h => by simp at h
  | c :: cs, 0, h => List.Perm.refl _
  | c :: cs, t + 1, h => by
    have ih := flat_erase cs t (by simpa using h)
    show (c ++ cs.flatten).Perm (cs.getD t [] ++ (c ++ (cs.eraseIdx t).flatten))
    refine (ih.append_left c).trans ?_
    rw [← List.append_assoc, ← List.append_assoc]
    exact (List.perm_append_comm).append_right _
theorem Iv_merge {n : Nat} {C : List (List Int)} (h : Iv n C) (f t : Nat) (hf : f < C.length) (ht : t < C.length) (hne : f ≠ t) : Iv n (mergeC C f t) := by
  have h1 := flat_set C f (C.getD t []) hf
  have h2 := flat_erase (C.set f (C.getD f [] ++ C.getD t [])) t (by rw [List.length_set]; exact ht)
  have h3 : (C.set f (C.getD f [] ++ C.getD t [])).getD t [] = C.getD t [] := by
    rw [List.getD_eq_getElem?_getD, List.getElem?_set_ne hne, ← List.getD_eq_getElem?_getD]
  rw [h3] at h2
  have h4 := (List.perm_append_left_iff _).1 (h2.symm.trans h1)
  refine ⟨h4.trans h.1, fun c hc => ?_⟩
  have hc2 : c ∈ C.set f (C.getD f [] ++ C.getD t []) := List.mem_of_mem_eraseIdx hc
  rcases List.mem_or_eq_of_mem_set hc2 with h5 | h5
  · exact h.2 c h5
  · rw [h5]
    have : C.getD f [] ∈ C := by rw [List.getD_eq_getElem?_getD, List.getElem?_eq_getElem hf, Option.getD_some]; exact List.getElem_mem _
    have := h.2 _ this
    intro e
    exact this (List.append_eq_nil_iff.1 e).1
theorem Iv_step {n : Nat} {C : List (List Int)} (h : Iv n C) (e : S48) : Iv n (stepC C e) := by
  unfold stepC
  split
  · exact h
  split
  · exact h
  split
  · exact h
  split
  · exact h
  split
  · exact h
  · obtain ⟨i, hi, hi2⟩ := fidx_nat (lastB e.f0) C (by assumption)
    obtain ⟨j, hj, hj2⟩ := fidx_nat (firstB e.f1) C (by assumption)
    have hne : fidx (lastB e.f0) C 0 ≠ fidx (firstB e.f1) C 0 := by assumption
    rw [hi, hj] at hne ⊢
    exact Iv_merge h _ _ (by simpa using hi2) (by simpa using hj2) (by simp; omega)
theorem Iv_start (n : Nat) : Iv n (startC n) := by
  constructor
  · unfold startC
    have : ∀ l : List Nat, (l.map fun b : Nat => [(b : Int)]).flatten = l.map fun b : Nat => (b : Int) := by
      intro l
      induction l with
      | nil => rfl
      | cons x l ih => simp only [List.map_cons, List.flatten_cons, ih]; rfl
    rw [this]
  · intro c hc
    unfold startC at hc
    obtain ⟨b, _, rfl⟩ := List.mem_map.1 hc
    simp
theorem Iv_foldl {n : Nat} : ∀ (l : List S48) (C : List (List Int)), Iv n C → Iv n (l.foldl stepC C)
  | [], _, h => h
  | e :: l, C, h => Iv_foldl l _ (Iv_step h e)
theorem len_flat : ∀ C : List (List Int), (∀ c ∈ C, c ≠ []) → C.length ≤ C.flatten.length
  | [], _ => by simp
  | c :: cs, h => by
    have ih := len_flat cs (fun d hd => h d (by simp [hd]))
    have : 0 < c.length := List.length_pos_iff.2 (h c (by simp))
    rw [List.flatten_cons, List.length_append, List.length_cons]
    omega
theorem Iv_len {n : Nat} {C : List (List Int)} (h : Iv n C) : C.length ≤ n := by
  have := len_flat C h.2
  have h2 := h.1.length_eq
  rw [List.length_map, List.length_range] at h2
  omega
theorem Iv_pos {n : Nat} {C : List (List Int)} (h : Iv n C) (hn : 0 < n) : 0 < C.length := by
  rcases Nat.eq_zero_or_pos C.length with h0 | h0
  · have : C = [] := List.eq_nil_of_length_eq_zero h0
    subst this
    have := h.1.length_eq
    simp at this
    omega
  · exact h0
theorem Iv_elem {n : Nat} {C : List (List Int)} (h : Iv n C) {c : List Int} (hc : c ∈ C) : c.length ≤ n := by
  have h2 := h.1.length_eq
  rw [List.length_map, List.length_range] at h2
  have h3 : c.Sublist C.flatten := List.sublist_flatten_of_mem hc
  have := h3.length_le
  omega
theorem Iv_head {n : Nat} {C : List (List Int)} (h : Iv n C) {c : List Int} (hc : c ∈ C) : 0 ≤ rd c 0 ∧ rd c 0 < n := by
  have hne := h.2 c hc
  have hm : rd c 0 ∈ C.flatten := by
    refine List.mem_flatten.2 ⟨c, hc, ?_⟩
    cases c with
    | nil => exact absurd rfl hne
    | cons x xs => simp [rd]
  have := h.1.mem_iff.1 hm
  obtain ⟨b, hb, e⟩ := List.mem_map.1 this
  rw [← e]
  have := List.mem_range.1 hb
  omega
/-- Chains with the same first block are one chain. -/
theorem Iv_heads {n : Nat} {C : List (List Int)} (h : Iv n C) : C.Pairwise (fun a b => rd a 0 ≠ rd b 0) := by
  have hnd : C.flatten.Nodup := h.1.nodup_iff.2 (List.Pairwise.map (fun b : Nat => (b : Int)) (fun (a b : Nat) (e : a ≠ b) (h : (a : Int) = (b : Int)) => e (by omega)) List.nodup_range)
  have key : ∀ D : List (List Int), (∀ c ∈ D, c ≠ []) → D.flatten.Nodup → D.Pairwise (fun a b => rd a 0 ≠ rd b 0) := by
    intro D
    induction D with
    | nil => intro _ _; exact List.Pairwise.nil
    | cons c cs ih =>
      intro h1 h2
      rw [List.flatten_cons, List.nodup_append] at h2
      refine List.Pairwise.cons (fun d hd e => ?_) (ih (fun x hx => h1 x (by simp [hx])) h2.2.1)
      have hd1 : rd d 0 ∈ d := by
        cases d with
        | nil => exact absurd rfl (h1 [] (by simp [hd]))
        | cons x xs => simp [rd]
      have hc1 : rd c 0 ∈ c := by
        cases c with
        | nil => exact absurd rfl (h1 [] (by simp))
        | cons x xs => simp [rd]
      exact h2.2.2 _ hc1 _ (List.mem_flatten.2 ⟨d, hd, hd1⟩) e
  exact key C h.2 hnd
theorem sorted_uniq : ∀ (A B : List (List Int)), A.Perm B → A.Pairwise (fun a b => rd a 0 < rd b 0) → B.Pairwise (fun a b => rd a 0 < rd b 0) → A = B
  | [], B, hp, _, _ => (List.nil_perm.1 hp).symm
  | a :: A, [], hp, _, _ => absurd hp.length_eq (by simp)
  | a :: A, b :: B, hp, hA, hB => by
    have hA1 := List.pairwise_cons.1 hA
    have hB1 := List.pairwise_cons.1 hB
    have ha : a ∈ b :: B := hp.mem_iff.1 (by simp)
    have hb : b ∈ a :: A := hp.mem_iff.2 (by simp)
    have e : a = b := by
      rcases List.mem_cons.1 ha with h1 | h1
      · exact h1
      · rcases List.mem_cons.1 hb with h2 | h2
        · exact h2.symm
        · have := hB1.1 a h1
          have := hA1.1 b h2
          omega
    subst e
    rw [sorted_uniq A B (List.Perm.cons_inv hp) hA1.2 hB1.2]
theorem strict_of {A : List (List Int)} (h1 : A.Pairwise (fun a b => rd a 0 ≤ rd b 0)) (h2 : A.Pairwise (fun a b => rd a 0 ≠ rd b 0)) : A.Pairwise (fun a b => rd a 0 < rd b 0) := by
  have := h1.and h2
  exact this.imp (fun {a b} h => by have := h.1; have := h.2; omega)
theorem by_first {n : Nat} {C A : List (List Int)} (h : Iv n C) (hp : A.Perm C) (hs : A.Pairwise (fun a b => rd a 0 ≤ rd b 0)) : A = byFirst C := by
  have hC := Iv_heads h
  have hm : (byFirst C).Perm C := List.mergeSort_perm _ _
  have hm2 : (byFirst C).Pairwise (fun a b => rd a 0 ≤ rd b 0) := by
    have := List.pairwise_mergeSort (le := fun a b : List Int => decide (rd a 0 ≤ rd b 0)) (by intro a b c h1 h2; simp at *; omega) (by intro a b; simp; omega) C
    exact this.imp (fun {a b} h => by simpa using h)
  have hne : ∀ {B : List (List Int)}, B.Perm C → B.Pairwise (fun a b => rd a 0 ≠ rd b 0) := fun hB => (hB.pairwise_iff (fun {a b} h => h.symm)).2 hC
  exact sorted_uniq _ _ (hp.trans hm.symm) (strict_of hs (hne hp)) (strict_of hm2 (hne hm))
/-- Element f of rows that lie apart, for one append to its row and its store. -/
theorem Mg.prep {W : World} {base g n cap : Nat} {C : List (List Int)} (h : Kd.S (Kd.slice 3 (Kd.int .i64)) 34 W base (fun _ => True) (.slice (some ⟨g, 0, none⟩) n cap) C) (f : Nat) (hf : f < n) :
    ∃ (okf : Nat → Prop) (vf : Value), (Kd.int .i64).R 3 W base okf vf (C.getD f []) ∧ (∀ k, okf k → k < W.heap.size ∧ k ≠ g) ∧ W.cell? ⟨g, f, none⟩ = some vf ∧ W.frozen? ⟨g, f, none⟩ = false ∧
      ∀ (v1 : Value) (w1 : World) (x' : List Int), (Kd.int .i64).R 3 w1 base (fun k => okf k ∨ W.heap.size ≤ k) v1 x' → W.grownBy w1 vf.ownBlock →
        w1.heap[g]? = W.heap[g]? ∧ w1.cell? ⟨g, f, none⟩ = some vf ∧ w1.frozen? ⟨g, f, none⟩ = false ∧ Kd.S (Kd.slice 3 (Kd.int .i64)) 34 (w1.setCell ⟨g, f, none⟩ v1) base (fun _ => True) (.slice (some ⟨g, 0, none⟩) n cap) (C.set f x') ∧ w1.grownBy (w1.setCell ⟨g, f, none⟩ v1) (some g) := by
  have hgl : g < W.heap.size := Kd.S_lt h g (by simp [Value.ownBlock])
  have h1 : Kd.S (Kd.slice 3 (Kd.int .i64)) 34 W base (fun k => True ∧ ¬ W.heap.size ≤ k) (.slice (some ⟨g, 0, none⟩) n cap) C := Kd.S_mono (Kd.S_bound h) (fun k hk => ⟨trivial, by have := hk.2.2.1; omega⟩)
  obtain ⟨oki, ce, hcl, hM, hcc, hfr, hoki, hH⟩ := Kd.S_elem h1 ([] : List Int) (f : Int) (by omega) (by omega)
  rw [Int.toNat_natCast] at hM hcc hfr
  obtain ⟨vf, rfl, hR⟩ := hM
  have hsz : (Kd.slice 3 (Kd.int .i64)).sz = 1 := rfl
  have hc0 := hcc 0 vf rfl
  have hf0 := hfr 0
  rw [hsz, Nat.mul_one, Nat.add_zero] at hc0 hf0
  refine ⟨oki, vf, hR, fun k hk => ⟨by have := (hoki k hk).1.2; omega, (hoki k hk).2⟩, hc0, hf0, ?_⟩
  intro v1 w1 x' hR1 hg
  have hne : ∀ k, oki k → k ≠ g := fun k hk => (hoki k hk).2
  have hblk : w1.heap[g]? = W.heap[g]? := hg.block g hgl (fun e => hne g (hR.1 g e.symm) rfl)
  have hH1 := Kd.H_grown hH hg (fun k hk => hR.1 k hk)
  have hs := Kd.S_seg (okg := fun k => W.heap.size ≤ k) (okp := fun k => oki k ∨ W.heap.size ≤ k) hH1 (by omega) (by omega) (seg := [v1]) (j := 0) (show 0 + 1 ≤ 1 by omega) (x' := x') ⟨v1, rfl, hR1⟩ (fun _ hk => hk) (fun k hk => ⟨trivial, by omega⟩)
  simp only [Int.toNat_natCast, hsz, Nat.mul_one, Nat.add_zero, World.setCells] at hs
  exact ⟨hblk, (World.cell?_of_block (a := ⟨g, f, none⟩) hblk).trans hc0, (World.frozen?_of_block (a := ⟨g, f, none⟩) hblk).trans hf0, hs.1, hs.2⟩
theorem Dl.calls1 {w : World} {base : Nat} {ok : Nat → Prop} {g n cap : Nat} {L : List (List Int)} (h : Kd.S (Kd.slice 3 (Kd.int .i64)) 34 w base ok (.slice (some ⟨g, 0, none⟩) n cap) L) (k : Nat) (hk : k < n) :
    Calls Try.prog 64 #[.slice (some ⟨g, 0, none⟩) n cap, .int .i64 (k : Int), .int .i64 ((k : Int) + 1)] w fun e w' =>
      e = .returned (.slice (some ⟨g, 0, none⟩) (n - 1) cap) ∧ Kd.S (Kd.slice 3 (Kd.int .i64)) 34 w' base ok (.slice (some ⟨g, 0, none⟩) (n - 1) cap) (L.eraseIdx k) ∧ w.grownBy w' (some g) := Dl.calls h k hk
theorem startC_len (i : Nat) : (startC i).length = i := by simp [startC]
theorem startC_succ (i : Nat) : startC (i + 1) = startC i ++ [[(i : Int)]] := by simp [startC, List.range_succ]
theorem So.form {W : World} {base : Nat} {ok : Nat → Prop} {l : List S48} {v : Value} (h : Kd.R k48 48 W base ok v l) (hv : ∃ b, v.ownBlock = some b) :
    ∃ g cap cur, v = .slice (some ⟨g, 0, none⟩) l.length cap ∧ base ≤ g ∧ W.heap[g]? = some (.cells cur 48 (0, 0)) ∧ cur.size = cap * 3 ∧ l.length ≤ cap ∧ cap ≤ maxLen ∧ cur.toList.take (l.length * 3) = flat48 l := by
  obtain ⟨_, inner, ho, hr⟩ := h
  rcases ho.2 with ⟨e, _⟩ | ⟨g, cap, cur, e, hg, hh, hn, hm, hs, ht⟩
  · obtain ⟨b, hb⟩ := hv
    rw [e] at hb
    simp [Value.ownBlock] at hb
  · exact ⟨g, cap, cur, e, hg, hh, hs, hn, hm, ht.trans (flat48_reps hr)⟩
theorem So.back {W W' : World} {base g cap : Nat} {l : List S48} (h : St W g (cap * 3) l W') (hg : base ≤ g) (hlc : l.length ≤ cap) (hcm : cap ≤ maxLen) : Kd.R k48 48 W' base (fun _ => True) (.slice (some ⟨g, 0, none⟩) l.length cap) l := by
  obtain ⟨_, cur, hh, hs, ht⟩ := h
  refine ⟨fun _ _ => trivial, flat48 l, ⟨flat48_len l, .inr ⟨g, cap, cur, rfl, hg, hh, hlc, hcm, hs, ht⟩⟩, flat48_len l, fun j p hj => ?_⟩
  have hl : ((flat48 l).drop (j * 3)).take 3 = enc48 p := by
    obtain ⟨hjl, rfl⟩ := List.getElem?_eq_some_iff.1 hj
    apply List.ext_getElem?
    intro t
    by_cases ht3 : t < 3
    · rw [List.getElem?_take_of_lt ht3, List.getElem?_drop, flat48_get l (j * 3 + t) (by omega), show (j * 3 + t) / 3 = j by omega, show (j * 3 + t) % 3 = t by omega, getElem!_pos l j hjl]
      have h4 : t < (enc48 l[j]).length := by simpa [enc48] using ht3
      rw [List.getElem?_eq_getElem h4]
      exact congrArg some (getElem!_pos (enc48 l[j]) t h4)
    · rw [List.getElem?_eq_none (by simp; omega), List.getElem?_eq_none (by simp [enc48]; omega)]
  show k48.M W' base _ p (((flat48 l).drop (j * 3)).take 3)
  rw [hl]
  exact k48_mkM _ _ _ p
def impl_chainsOf.f (a0 : Int) (l1 : List S48) : Option (List (List Int)) := if 1 ≤ a0 ∧ a0 ≤ 8 ∧ l1.length ≤ 20 then some (chainsP a0.toNat l1) else none
/-- Chains in rows that lie apart, each block in one. -/
def Cs (w : World) (n : Nat) (C : List (List Int)) (v : Value) (w' : World) : Prop := Kd.S (Kd.slice 3 (Kd.int .i64)) 34 w' w.heap.size (fun _ => True) v C ∧ Iv n C ∧ Below w.heap.size w w'
set_option maxHeartbeats 4000000 in
set_option maxRecDepth 100000 in
theorem impl_chainsOf.calls (a0 : Int) (A1 : Option Addr) (c1 : Nat) (l1 : List S48) (r : List (List Int)) (w : World) (hr1 : Kd.C k48 w A1 l1.length l1) (hc1 : l1.length ≤ c1) (h : impl_chainsOf.f a0 l1 = some r) :
  Calls Try.prog 60 #[.int .i64 a0, .slice A1 l1.length c1] w fun e w' => ∃ v0_ : Value, e = .returned (v0_) ∧ Kd.S (Kd.slice 3 (Kd.int .i64)) 34 w' w.heap.size (fun _ => True) v0_ r ∧ Below w.heap.size w w' := by
 unfold impl_chainsOf.f at h
 by_cases hh : 1 ≤ a0 ∧ a0 ≤ 8 ∧ l1.length ≤ 20
 ·rw [if_pos hh] at h
  obtain rfl := Option.some.inj h
  obtain ⟨h1, h8, h20⟩ := hh
  obtain ⟨n, rfl⟩ : ∃ n : Nat, a0 = (n : Int) := ⟨a0.toNat, by omega⟩
  rw [Int.toNat_natCast]
  have HN := Aside0.mk (show 1 ≤ n ∧ n ≤ 8 by omega)
  have H20 := Aside0.mk h20
  have HR1 := Aside0.mk hr1
  have HC1 := Aside0.mk hc1
  have HB := Aside0.mk (Below.refl w.heap.size w)
  clear h h1 h8 h20 hr1 hc1
  go_enter Try.func60, Try.ntmps60
  go_wp2_with ((with_reducible refine gate_dst (N := 12) rfl ?_); refine Kd.S_lit (Kd.slice 3 (Kd.int .i64)) _ 34 ?hg (N := 12) ?hd (xs := ([] : List (List Int))) (inner := []) (ok := fun _ => True) (okp := fun _ => True) ?hr ?hp (fun _ hk => hk) trivial (Below.refl _ _) (Nat.le_refl _) (by simp) ?_; (case hd => rfl); (case hg => rfl); (case hr => first | (go_simp; done) | (go_simp; rfl)); (case hp => exact (Reps.none _ _)); intro v1 w1 hS hb hg_ hnew_; clear hg_ hnew_; have n0_ := Aside0.mk (Kd.S_lower hS (below_size lB)); have n1_ := Aside0.mk (below_step lB hb); clear HB hS hb; have HS := n0_; have HB := n1_; clear n0_ n1_)
  go_loopg [5, 14] n (fun kq v5 v14 w' => ∃ (i : Nat), v14 = .int .i64 (i : Int) ∧ i ≤ n ∧ n - i ≤ kq ∧ Aside0 (Kd.S (Kd.slice 3 (Kd.int .i64)) 34 w' w.heap.size (fun _ => True) v5 (startC i)) ∧ Aside0 (Below w.heap.size w w'))
  case atStart => exact ⟨0, rfl, Nat.zero_le _, by omega, ⟨lS HS.out⟩, ⟨lB⟩⟩
  case round =>
   obtain ⟨i, rfl, hi, hk, HS, HB⟩ := hrel
   by_cases hlt : i < n
   ·have hd : decide ((i : Int) < (n : Int)) = true := decide_eq_true (by omega)
    have hd0 : decide (i < n) = true := decide_eq_true hlt
    have HLT := Aside0.mk hlt
    have HKK := Aside0.mk hk
    have HWR := Aside0.mk (show wrap64 ((i : Int) + 1) = ((i + 1 : Nat) : Int) by have := HN.out; unfold wrap64; omega)
    go_wp2_with (first | ((with_reducible refine gate_dst (N := 19) rfl ?_); refine Kd.R_lit (Kd.int .i64) _ 3 ?hg (N := 19) ?hd (xs := ([(i : Int)] : List Int)) (inner := [.int .i64 (i : Int)]) (ok := fun _ => True) (okp := fun _ => True) ?hr ?hp (fun _ hk => hk) trivial (Below.refl _ _) (Nat.le_refl _) (by simp) ?_; (case hd => rfl); (case hg => rfl); (case hr => first | (go_simp; done) | (go_simp; rfl)); (case hp => exact (Reps.one (show Kd.M (Kd.int .i64) _ _ _ (i : Int) [.int .i64 (i : Int)] from rfl) (Reps.none _ _))); intro v2 w2 ho hb hg_ hnew_; clear hg_ hnew_; have n0_ := Aside0.mk (Kd.S_elder' (lS HS.out) (Kd.R_base ho) hb); have n1_ := Aside0.mk (Kd.R_tight rfl (Kd.R_lower ho (below_size lB))); have n2_ := Aside0.mk (below_step lB hb); clear HS HB ho hb; have HS := n0_; have HO := n1_; have HB := n2_; clear n0_ n1_ n2_; obtain ⟨A2, c2, e2⟩ := Kd.R_slice HO.out; subst e2) | ((with_reducible refine gate_builtin (b := .append) (xs := #[.tmp 17, .tmp 20]) rfl ?_); at_builtin; refine Kd.S_append (Kd.slice 3 (Kd.int .i64)) (w0 := w) w.heap.size rfl (.tmp 17) (.tmp 20) 24 34 (.slice none 0 0) 24 rfl Try.underlying24 info34 rfl (by decide) (by omega) u5 (startC i) [(i : Int)] [.slice A2 ([(i : Int)] : List Int).length c2] (fun _ => True) (fun k => some k = (Value.slice A2 ([(i : Int)] : List Int).length c2).ownBlock) rfl rfl ?aP ?aK ?aF ?aO ?aB ?aS ?aL ?_; (case aP => exact Kd.M_row (lR HO.out)); (case aK => exact (fun k hk => ⟨trivial, fun e => ((Kd.S_R HS.out).1 k e.symm).2 hk⟩)); (case aF => exact (fun _ _ => trivial)); (case aO => exact (lS HS.out)); (case aB => exact lB); (case aS => exact (below_size lB)); (case aL => rw [startC_len]; have := HN.out; omega); intro v3 w3 hS hb hg hat; have n0_ := Aside0.mk hS; have n1_ := Aside0.mk hb; clear HS HB HO hS hb hg hat; have HS := n0_; have HB := n1_; clear n0_ n1_))
    go_roundg (n - (i + 1))
    case measure => have := HLT.out; have := HKK.out; omega
    case rel => exact ⟨i + 1, by rw [← HWR.out], by have := HLT.out; omega, by have := HLT.out; omega, ⟨by rw [startC_succ]; exact lS HS.out⟩, ⟨lB⟩⟩
   ·have hd : decide ((i : Int) < (n : Int)) = false := decide_eq_false (by omega)
    have hd0 : decide (i < n) = false := decide_eq_false hlt
    have hin : i = n := by omega
    rw [hin] at HS
    clear hin hlt hi hk
    go_wp2_with (first | ((with_reducible refine gate_dst (N := 23) rfl ?_); refine Kd.R_lit k48 _ 48 ?hg (N := 23) ?hd (xs := ([] : List S48)) (inner := []) (ok := fun _ => True) (okp := fun _ => True) ?hr ?hp (fun _ hk => hk) trivial (Below.refl _ _) (Nat.le_refl _) (by simp) ?_; (case hd => rfl); (case hg => rfl); (case hr => first | (go_simp; done) | (go_simp; rfl)); (case hp => exact (Reps.none _ _)); intro v4 w4 ho hb hg_ hnew_; have n0_ := Aside0.mk (Kd.S_below (lS HS.out) hb); have n1_ := Aside0.mk (Kd.R_lower ho (below_size lB)); have n2_ := Aside0.mk (below_step lB hb); have HNW := Aside0.mk hnew_; clear HS HB ho hb hg_ hnew_; have HS := n0_; have HO := n1_; have HB := n2_; clear n0_ n1_ n2_) | ((with_reducible refine gate_builtin (b := .append) (xs := #[.tmp 23, .tmp 24]) rfl ?_); at_builtin; refine Kd.R_append_rows k48 (w0 := w) w.heap.size rfl (.tmp 23) (.tmp 24) 27 48 (.agg #[(.int .i64 0), (.int .i64 0), (.int .i64 0)]) 24 rfl Try.underlying27 info48 rfl (by decide) (by omega) v4 ([] : List S48) l1 _ _ _ (fun _ => True) (fun _ => False) rfl rfl ?aO ?aR (fun _ _ h => h) (fun _ h => h.elim) ?aF ?aB ?aS ?aL ?_; (case aR => exact lC (Kd.C_below HR1.out HB.out)); (case aB => exact lB); (case aF => exact (fun _ _ => trivial)); (case aO => exact (lR HO.out)); (case aS => exact (below_size lB)); (case aL => have := H20.out; simp only [List.length_nil]; omega); intro v5 w5 ho hb hg hat; have n0_ := Aside0.mk (Kd.S_over' (lS HS.out) (Kd.R_typed HO.out) (by decide) hg); have n1_ := Aside0.mk (show Kd.R k48 48 w5 w.heap.size (fun _ => True) v5 l1 from ho); have n2_ := Aside0.mk hb; have HNV := Aside0.mk (show ∃ b, v5.ownBlock = some b from by obtain ⟨b, hb1, _⟩ := HNW.out; rcases hat with hat | ⟨b2, hb2, _⟩; exact ⟨b, hat.trans hb1⟩; exact ⟨b2, hb2⟩); clear HS HB HO HNW ho hb hg hat; have HS := n0_; have HO := n1_; have HB := n2_; clear n0_ n1_ n2_) | ((with_reducible refine gate_callee (f := 97) rfl ?_); obtain ⟨gs, cs, cur, rfl, hbg, hh, hcs, hlc, hcm, ht⟩ := So.form HO.out HNV.out; refine gl_ (some 27) (Try.func97) #[.slice (some ⟨gs, 0, none⟩) l1.length cs, .func (.func 98) #[] #[]] ?_; refine (Ss.calls l1 hh hcs hlc H20.out ht).mono ?_; rintro e w6 ⟨rfl, hSt⟩; refine ⟨_, rfl, ?_⟩; have hlq := sortE_len l1; have n0_ := Aside0.mk (Kd.S_over' (v := .slice (some ⟨gs, 0, none⟩) l1.length cs) (lS HS.out) (Kd.R_typed HO.out) (by decide) hSt.1); have n1_ := Aside0.mk (show Kd.R k48 48 w6 w.heap.size (fun _ => True) (.slice (some ⟨gs, 0, none⟩) l1.length cs) (sortE l1) from by have := So.back hSt hbg (by rw [hlq]; exact hlc) hcm; rwa [hlq] at this); have n2_ := Aside0.mk (Below.grown lB hSt.1 (below_size lB) (fun k hk => by injection hk with hk; subst hk; exact hbg)); clear HS HB HO HNV hbg hh hcs hlc hcm ht hSt hlq; have HS := n0_; have HO := n1_; have HB := n2_; clear n0_ n1_ n2_))
    go_loopg [5, 30] l1.length (fun kq v5 v30 w' => ∃ (j : Nat), v30 = .int .i64 (j : Int) ∧ j ≤ l1.length ∧ l1.length - j ≤ kq ∧ Aside0 (Cs w n (((sortE l1).take j).foldl stepC (startC n)) v5 w') ∧ Aside0 (Kd.R k48 48 w' w.heap.size (fun _ => True) (.slice (some ⟨gs, 0, none⟩) l1.length cs) (sortE l1)))
    case atStart => exact ⟨0, rfl, Nat.zero_le _, by omega, ⟨⟨lS HS.out, Iv_start n, lB⟩⟩, ⟨lR HO.out⟩⟩
    case round =>
     obtain ⟨j, rfl, hj, hk, HCs, HO⟩ := hrel
     obtain ⟨hS_, hI_, hB_⟩ := HCs.out
     have HS := Aside0.mk hS_
     have HI := Aside0.mk hI_
     have HB := Aside0.mk hB_
     clear HCs hS_ hI_ hB_
     by_cases hlt : j < l1.length
     ·have hlq := sortE_len l1
      have HLT := Aside0.mk hlt
      have HKK := Aside0.mk hk
      have HWR := Aside0.mk (show wrap64 ((j : Int) + 1) = ((j + 1 : Nat) : Int) by have := H20.out; unfold wrap64; omega)
      have hd : decide ((j : Int) < (l1.length : Int)) = true := decide_eq_true (by omega)
      have hd0 : decide (j < l1.length) = true := decide_eq_true hlt
      have pj : (0 ≤ (j : Int)) = True := eq_true (by omega)
      have qj : ((j : Int) < (l1.length : Int)) = True := eq_true (by omega)
      obtain ⟨ade, ee, hx0, hx1, hx2⟩ := at_T48 (Kd.R_reads' HO.out).2.2 (j : Int) (by omega) (by rw [hlq]; omega)
      cases ee
      obtain ⟨C, hC⟩ : ∃ C, ((sortE l1).take j).foldl stepC (startC n) = C := ⟨_, rfl⟩
      obtain ⟨e, he⟩ : ∃ e, rd_T48 (sortE l1) (j : Int) = e := ⟨_, rfl⟩
      have HNX0 := Aside0.mk (show ((sortE l1).take (j + 1)).foldl stepC (startC n) = stepC C e from by rw [← hC, ← he, List.take_succ_eq_append_getElem (by omega), List.foldl_append]; show stepC _ _ = _; congr 1; unfold rd_T48; rw [Int.toNat_natCast, List.getD_eq_getElem?_getD, List.getElem?_eq_getElem (by omega), Option.getD_some])
      rw [hC] at HS HI
      rw [he] at hx0 hx1 hx2
      simp only [Int.toNat_natCast, Addr.add_lit, Nat.zero_add] at hx0 hx1 hx2
      clear hC he hlq hlt hk hj
      obtain ⟨A, c, hv⟩ := Kd.S_slice HS.out
      subst hv
      have eg100 : ∀ args w, (callFunc 100 args).run Try.prog w = .ok (.enter 100 args) w := enters_of Try.func100 (by kernel_rfl) rfl
      have eg101 : ∀ args w, (callFunc 101 args).run Try.prog w = .ok (.enter 101 args) w := enters_of Try.func101 (by kernel_rfl) rfl
      have E0 := Aside0.mk eg100
      have E1 := Aside0.mk eg101
      clear eg100 eg101
      by_cases h0 : e.f1 = 0
      ·have HNX := Aside0.mk (show _ = stepC C e from HNX0.out)
       have b0 : (e.f1 == 0) = true := by simp [h0]
       have HST := Aside0.mk (show stepC C e = C from by unfold stepC; rw [if_pos h0])
       clear h0
       go_wp2_with (first | ((with_reducible refine gate_dst (N := 9) rfl ?_); refine bxe 9 #[.int .i64 0, .int .i64 0, .int .i64 0] 48 ?_; intro gb hg w7 hbox hb; have n0_ := Aside0.mk (Kd.S_below (Kd.S_elderB HS.out gb (Nat.le_of_eq hg.symm)) hb); have n1_ := Aside0.mk (Kd.R_below (Kd.R_elderB HO.out gb (Nat.le_of_eq hg.symm)) hb); have n2_ := Aside0.mk (below_step lB hb); have BK := Aside0.mk hbox; have GW := Aside0.mk (show w.heap.size ≤ gb by rw [hg]; exact below_size HB.out); clear HS HO HB hb hbox hg hx0 hx1 hx2; have HS := n0_; have HO := n1_; have HB := n2_; clear n0_ n1_ n2_; obtain ⟨hz0, hf0, hz1, hf1, hz2, hf2⟩ := bk3 BK.out) | (go_at_call 99; clear hz0 hf0 hz1 hf1 hz2 hf2; (with_reducible refine (idx99_ 101 #[.pointer (some ⟨gb, 0, none⟩)] E1.out (askO (firstB e.f1)) A c C _ ?hC ?hp (fidx (firstB e.f1) C 0) ?hI).mono ?_); (case hC => exact (Kd.S_reads' HS.out).2.2); (case hI => exact (fidx_ask _ C 0 HI.out.2)); (case hp => intro W x b A0 c0 hBW hlx hCx hpx; unfold askO at hpx; split at hpx; cases hpx; rename_i hxn; obtain rfl := Option.some.inj hpx; exact (Fi.calls W A0 c0 x gb e.f0 e.f1 e.f2 hCx hlx (List.length_pos_iff.2 hxn) (blk_below BK.out hBW)).mono (fun e_ w_ ⟨h1_, nd_, h2_⟩ => ⟨h1_, by rw [h2_]; exact pw_below_drewN (Below.refl _ _) _⟩)); rintro e_ w9 ⟨rfl, hb⟩; have n0_ := Aside0.mk (Kd.S_below HS.out hb); have n1_ := Aside0.mk (Kd.R_below HO.out hb); have n2_ := Aside0.mk (below_step HB.out hb); have n3_ := Aside0.mk (blk_below BK.out hb); clear hb; clear HS HO HB BK; have HS := n0_; have HO := n1_; have HB := n2_; have BK := n3_; clear n0_ n1_ n2_ n3_; obtain ⟨hz0, hf0, hz1, hf1, hz2, hf2⟩ := bk3 BK.out) | (go_at_call 99; have n0_ := Aside0.mk (Kd.S_far (p := ⟨gb, 2, none⟩) (Kd.S_far (p := ⟨gb, 1, none⟩) (Kd.S_far (p := ⟨gb, 0, none⟩) HS.out (fun _ hk => hk.2) (.int .i64 e.f0)) (fun _ hk => hk.2) (.int .i64 e.f1)) (fun _ hk => hk.2) (.int .i64 e.f2)); have n1_ := Aside0.mk (Kd.R_far (p := ⟨gb, 2, none⟩) (Kd.R_far (p := ⟨gb, 1, none⟩) (Kd.R_far (p := ⟨gb, 0, none⟩) HO.out (fun _ hk => hk.2) (.int .i64 e.f0)) (fun _ hk => hk.2) (.int .i64 e.f1)) (fun _ hk => hk.2) (.int .i64 e.f2)); have n2_ := Aside0.mk (show Below w.heap.size w (((w7.setCell ⟨gb, 0, none⟩ (.int .i64 e.f0)).setCell ⟨gb, 1, none⟩ (.int .i64 e.f1)).setCell ⟨gb, 2, none⟩ (.int .i64 e.f2)) from below_set (below_set (below_set HB.out GW.out) GW.out) GW.out); have n3_ := Aside0.mk (blk_put (cs' := #[.int .i64 e.f0, .int .i64 e.f1, .int .i64 e.f2]) (blk_put (cs' := #[.int .i64 e.f0, .int .i64 e.f1, .int .i64 0]) (blk_put (cs := #[.int .i64 0, .int .i64 0, .int .i64 0]) (cs' := #[.int .i64 e.f0, .int .i64 0, .int .i64 0]) BK.out 0 (.int .i64 e.f0) rfl) 1 (.int .i64 e.f1) rfl) 2 (.int .i64 e.f2) rfl); clear hz0 hf0 hz1 hf1 hz2 hf2; clear HS HO HB BK; have HS := n0_; have HO := n1_; have HB := n2_; have BK := n3_; clear n0_ n1_ n2_ n3_; generalize (((w7.setCell ⟨gb, 0, none⟩ (.int .i64 e.f0)).setCell ⟨gb, 1, none⟩ (.int .i64 e.f1)).setCell ⟨gb, 2, none⟩ (.int .i64 e.f2)) = w8 at HS HO HB BK ⊢; (with_reducible refine (idx99_ 100 #[.pointer (some ⟨gb, 0, none⟩)] E0.out (askO (lastB e.f0)) A c C _ ?hC ?hp (fidx (lastB e.f0) C 0) ?hI).mono ?_); (case hC => exact (Kd.S_reads' HS.out).2.2); (case hI => exact (fidx_ask _ C 0 HI.out.2)); (case hp => intro W x b A0 c0 hBW hlx hCx hpx; unfold askO at hpx; split at hpx; cases hpx; rename_i hxn; obtain rfl := Option.some.inj hpx; exact (La.calls W A0 c0 x gb e.f0 e.f1 e.f2 hCx hlx (List.length_pos_iff.2 hxn) (blk_below BK.out hBW)).mono (fun e_ w_ ⟨h1_, nd_, h2_⟩ => ⟨h1_, by rw [h2_]; exact pw_below_drewN (Below.refl _ _) _⟩)); rintro e_ w9 ⟨rfl, hb⟩; have n0_ := Aside0.mk (Kd.S_below HS.out hb); have n1_ := Aside0.mk (Kd.R_below HO.out hb); have n2_ := Aside0.mk (below_step HB.out hb); have n3_ := Aside0.mk (blk_below BK.out hb); clear hb; clear HS HO HB BK; have HS := n0_; have HO := n1_; have HB := n2_; have BK := n3_; clear n0_ n1_ n2_ n3_; obtain ⟨hz0, hf0, hz1, hf1, hz2, hf2⟩ := bk3 BK.out))
       go_roundg (l1.length - (j + 1))
       case measure => have := HLT.out; have := HKK.out; omega
       case rel => exact ⟨j + 1, by rw [← HWR.out], by have := HLT.out; omega, by have := HLT.out; omega, ⟨⟨by rw [HNX.out, HST.out]; exact Kd.S_mono (lS HS.out) (fun _ _ => trivial), by rw [HNX.out]; exact Iv_step HI.out e, lB⟩⟩, ⟨Kd.R_mono (lR HO.out) (fun _ _ => trivial)⟩⟩
      ·have b0 : (e.f1 == 0) = false := by simp [h0]
       by_cases h1 : e.f0 = e.f1
       ·have HNX := Aside0.mk (show _ = stepC C e from HNX0.out)
        have b1 : (e.f0 == e.f1) = true := by simp [h1]
        have HST := Aside0.mk (show stepC C e = C from by unfold stepC; rw [if_neg h0]; rw [if_pos h1])
        clear h1 h0
        go_wp2_with (first | ((with_reducible refine gate_dst (N := 9) rfl ?_); refine bxe 9 #[.int .i64 0, .int .i64 0, .int .i64 0] 48 ?_; intro gb hg w7 hbox hb; have n0_ := Aside0.mk (Kd.S_below (Kd.S_elderB HS.out gb (Nat.le_of_eq hg.symm)) hb); have n1_ := Aside0.mk (Kd.R_below (Kd.R_elderB HO.out gb (Nat.le_of_eq hg.symm)) hb); have n2_ := Aside0.mk (below_step lB hb); have BK := Aside0.mk hbox; have GW := Aside0.mk (show w.heap.size ≤ gb by rw [hg]; exact below_size HB.out); clear HS HO HB hb hbox hg hx0 hx1 hx2; have HS := n0_; have HO := n1_; have HB := n2_; clear n0_ n1_ n2_; obtain ⟨hz0, hf0, hz1, hf1, hz2, hf2⟩ := bk3 BK.out) | (go_at_call 99; clear hz0 hf0 hz1 hf1 hz2 hf2; (with_reducible refine (idx99_ 101 #[.pointer (some ⟨gb, 0, none⟩)] E1.out (askO (firstB e.f1)) A c C _ ?hC ?hp (fidx (firstB e.f1) C 0) ?hI).mono ?_); (case hC => exact (Kd.S_reads' HS.out).2.2); (case hI => exact (fidx_ask _ C 0 HI.out.2)); (case hp => intro W x b A0 c0 hBW hlx hCx hpx; unfold askO at hpx; split at hpx; cases hpx; rename_i hxn; obtain rfl := Option.some.inj hpx; exact (Fi.calls W A0 c0 x gb e.f0 e.f1 e.f2 hCx hlx (List.length_pos_iff.2 hxn) (blk_below BK.out hBW)).mono (fun e_ w_ ⟨h1_, nd_, h2_⟩ => ⟨h1_, by rw [h2_]; exact pw_below_drewN (Below.refl _ _) _⟩)); rintro e_ w9 ⟨rfl, hb⟩; have n0_ := Aside0.mk (Kd.S_below HS.out hb); have n1_ := Aside0.mk (Kd.R_below HO.out hb); have n2_ := Aside0.mk (below_step HB.out hb); have n3_ := Aside0.mk (blk_below BK.out hb); clear hb; clear HS HO HB BK; have HS := n0_; have HO := n1_; have HB := n2_; have BK := n3_; clear n0_ n1_ n2_ n3_; obtain ⟨hz0, hf0, hz1, hf1, hz2, hf2⟩ := bk3 BK.out) | (go_at_call 99; have n0_ := Aside0.mk (Kd.S_far (p := ⟨gb, 2, none⟩) (Kd.S_far (p := ⟨gb, 1, none⟩) (Kd.S_far (p := ⟨gb, 0, none⟩) HS.out (fun _ hk => hk.2) (.int .i64 e.f0)) (fun _ hk => hk.2) (.int .i64 e.f1)) (fun _ hk => hk.2) (.int .i64 e.f2)); have n1_ := Aside0.mk (Kd.R_far (p := ⟨gb, 2, none⟩) (Kd.R_far (p := ⟨gb, 1, none⟩) (Kd.R_far (p := ⟨gb, 0, none⟩) HO.out (fun _ hk => hk.2) (.int .i64 e.f0)) (fun _ hk => hk.2) (.int .i64 e.f1)) (fun _ hk => hk.2) (.int .i64 e.f2)); have n2_ := Aside0.mk (show Below w.heap.size w (((w7.setCell ⟨gb, 0, none⟩ (.int .i64 e.f0)).setCell ⟨gb, 1, none⟩ (.int .i64 e.f1)).setCell ⟨gb, 2, none⟩ (.int .i64 e.f2)) from below_set (below_set (below_set HB.out GW.out) GW.out) GW.out); have n3_ := Aside0.mk (blk_put (cs' := #[.int .i64 e.f0, .int .i64 e.f1, .int .i64 e.f2]) (blk_put (cs' := #[.int .i64 e.f0, .int .i64 e.f1, .int .i64 0]) (blk_put (cs := #[.int .i64 0, .int .i64 0, .int .i64 0]) (cs' := #[.int .i64 e.f0, .int .i64 0, .int .i64 0]) BK.out 0 (.int .i64 e.f0) rfl) 1 (.int .i64 e.f1) rfl) 2 (.int .i64 e.f2) rfl); clear hz0 hf0 hz1 hf1 hz2 hf2; clear HS HO HB BK; have HS := n0_; have HO := n1_; have HB := n2_; have BK := n3_; clear n0_ n1_ n2_ n3_; generalize (((w7.setCell ⟨gb, 0, none⟩ (.int .i64 e.f0)).setCell ⟨gb, 1, none⟩ (.int .i64 e.f1)).setCell ⟨gb, 2, none⟩ (.int .i64 e.f2)) = w8 at HS HO HB BK ⊢; (with_reducible refine (idx99_ 100 #[.pointer (some ⟨gb, 0, none⟩)] E0.out (askO (lastB e.f0)) A c C _ ?hC ?hp (fidx (lastB e.f0) C 0) ?hI).mono ?_); (case hC => exact (Kd.S_reads' HS.out).2.2); (case hI => exact (fidx_ask _ C 0 HI.out.2)); (case hp => intro W x b A0 c0 hBW hlx hCx hpx; unfold askO at hpx; split at hpx; cases hpx; rename_i hxn; obtain rfl := Option.some.inj hpx; exact (La.calls W A0 c0 x gb e.f0 e.f1 e.f2 hCx hlx (List.length_pos_iff.2 hxn) (blk_below BK.out hBW)).mono (fun e_ w_ ⟨h1_, nd_, h2_⟩ => ⟨h1_, by rw [h2_]; exact pw_below_drewN (Below.refl _ _) _⟩)); rintro e_ w9 ⟨rfl, hb⟩; have n0_ := Aside0.mk (Kd.S_below HS.out hb); have n1_ := Aside0.mk (Kd.R_below HO.out hb); have n2_ := Aside0.mk (below_step HB.out hb); have n3_ := Aside0.mk (blk_below BK.out hb); clear hb; clear HS HO HB BK; have HS := n0_; have HO := n1_; have HB := n2_; have BK := n3_; clear n0_ n1_ n2_ n3_; obtain ⟨hz0, hf0, hz1, hf1, hz2, hf2⟩ := bk3 BK.out))
        go_roundg (l1.length - (j + 1))
        case measure => have := HLT.out; have := HKK.out; omega
        case rel => exact ⟨j + 1, by rw [← HWR.out], by have := HLT.out; omega, by have := HLT.out; omega, ⟨⟨by rw [HNX.out, HST.out]; exact Kd.S_mono (lS HS.out) (fun _ _ => trivial), by rw [HNX.out]; exact Iv_step HI.out e, lB⟩⟩, ⟨Kd.R_mono (lR HO.out) (fun _ _ => trivial)⟩⟩
       ·have b1 : (e.f0 == e.f1) = false := by simp [h1]
        by_cases h2 : fidx (lastB e.f0) C 0 < 0
        ·have HNX := Aside0.mk (show _ = stepC C e from HNX0.out)
         have b2 : decide (fidx (lastB e.f0) C 0 < 0) = true := decide_eq_true h2
         have HST := Aside0.mk (show stepC C e = C from by unfold stepC; rw [if_neg h0]; rw [if_neg h1]; rw [if_pos h2])
         clear h2 h0 h1
         go_wp2_with (first | ((with_reducible refine gate_dst (N := 9) rfl ?_); refine bxe 9 #[.int .i64 0, .int .i64 0, .int .i64 0] 48 ?_; intro gb hg w7 hbox hb; have n0_ := Aside0.mk (Kd.S_below (Kd.S_elderB HS.out gb (Nat.le_of_eq hg.symm)) hb); have n1_ := Aside0.mk (Kd.R_below (Kd.R_elderB HO.out gb (Nat.le_of_eq hg.symm)) hb); have n2_ := Aside0.mk (below_step lB hb); have BK := Aside0.mk hbox; have GW := Aside0.mk (show w.heap.size ≤ gb by rw [hg]; exact below_size HB.out); clear HS HO HB hb hbox hg hx0 hx1 hx2; have HS := n0_; have HO := n1_; have HB := n2_; clear n0_ n1_ n2_; obtain ⟨hz0, hf0, hz1, hf1, hz2, hf2⟩ := bk3 BK.out) | (go_at_call 99; clear hz0 hf0 hz1 hf1 hz2 hf2; (with_reducible refine (idx99_ 101 #[.pointer (some ⟨gb, 0, none⟩)] E1.out (askO (firstB e.f1)) A c C _ ?hC ?hp (fidx (firstB e.f1) C 0) ?hI).mono ?_); (case hC => exact (Kd.S_reads' HS.out).2.2); (case hI => exact (fidx_ask _ C 0 HI.out.2)); (case hp => intro W x b A0 c0 hBW hlx hCx hpx; unfold askO at hpx; split at hpx; cases hpx; rename_i hxn; obtain rfl := Option.some.inj hpx; exact (Fi.calls W A0 c0 x gb e.f0 e.f1 e.f2 hCx hlx (List.length_pos_iff.2 hxn) (blk_below BK.out hBW)).mono (fun e_ w_ ⟨h1_, nd_, h2_⟩ => ⟨h1_, by rw [h2_]; exact pw_below_drewN (Below.refl _ _) _⟩)); rintro e_ w9 ⟨rfl, hb⟩; have n0_ := Aside0.mk (Kd.S_below HS.out hb); have n1_ := Aside0.mk (Kd.R_below HO.out hb); have n2_ := Aside0.mk (below_step HB.out hb); have n3_ := Aside0.mk (blk_below BK.out hb); clear hb; clear HS HO HB BK; have HS := n0_; have HO := n1_; have HB := n2_; have BK := n3_; clear n0_ n1_ n2_ n3_; obtain ⟨hz0, hf0, hz1, hf1, hz2, hf2⟩ := bk3 BK.out) | (go_at_call 99; have n0_ := Aside0.mk (Kd.S_far (p := ⟨gb, 2, none⟩) (Kd.S_far (p := ⟨gb, 1, none⟩) (Kd.S_far (p := ⟨gb, 0, none⟩) HS.out (fun _ hk => hk.2) (.int .i64 e.f0)) (fun _ hk => hk.2) (.int .i64 e.f1)) (fun _ hk => hk.2) (.int .i64 e.f2)); have n1_ := Aside0.mk (Kd.R_far (p := ⟨gb, 2, none⟩) (Kd.R_far (p := ⟨gb, 1, none⟩) (Kd.R_far (p := ⟨gb, 0, none⟩) HO.out (fun _ hk => hk.2) (.int .i64 e.f0)) (fun _ hk => hk.2) (.int .i64 e.f1)) (fun _ hk => hk.2) (.int .i64 e.f2)); have n2_ := Aside0.mk (show Below w.heap.size w (((w7.setCell ⟨gb, 0, none⟩ (.int .i64 e.f0)).setCell ⟨gb, 1, none⟩ (.int .i64 e.f1)).setCell ⟨gb, 2, none⟩ (.int .i64 e.f2)) from below_set (below_set (below_set HB.out GW.out) GW.out) GW.out); have n3_ := Aside0.mk (blk_put (cs' := #[.int .i64 e.f0, .int .i64 e.f1, .int .i64 e.f2]) (blk_put (cs' := #[.int .i64 e.f0, .int .i64 e.f1, .int .i64 0]) (blk_put (cs := #[.int .i64 0, .int .i64 0, .int .i64 0]) (cs' := #[.int .i64 e.f0, .int .i64 0, .int .i64 0]) BK.out 0 (.int .i64 e.f0) rfl) 1 (.int .i64 e.f1) rfl) 2 (.int .i64 e.f2) rfl); clear hz0 hf0 hz1 hf1 hz2 hf2; clear HS HO HB BK; have HS := n0_; have HO := n1_; have HB := n2_; have BK := n3_; clear n0_ n1_ n2_ n3_; generalize (((w7.setCell ⟨gb, 0, none⟩ (.int .i64 e.f0)).setCell ⟨gb, 1, none⟩ (.int .i64 e.f1)).setCell ⟨gb, 2, none⟩ (.int .i64 e.f2)) = w8 at HS HO HB BK ⊢; (with_reducible refine (idx99_ 100 #[.pointer (some ⟨gb, 0, none⟩)] E0.out (askO (lastB e.f0)) A c C _ ?hC ?hp (fidx (lastB e.f0) C 0) ?hI).mono ?_); (case hC => exact (Kd.S_reads' HS.out).2.2); (case hI => exact (fidx_ask _ C 0 HI.out.2)); (case hp => intro W x b A0 c0 hBW hlx hCx hpx; unfold askO at hpx; split at hpx; cases hpx; rename_i hxn; obtain rfl := Option.some.inj hpx; exact (La.calls W A0 c0 x gb e.f0 e.f1 e.f2 hCx hlx (List.length_pos_iff.2 hxn) (blk_below BK.out hBW)).mono (fun e_ w_ ⟨h1_, nd_, h2_⟩ => ⟨h1_, by rw [h2_]; exact pw_below_drewN (Below.refl _ _) _⟩)); rintro e_ w9 ⟨rfl, hb⟩; have n0_ := Aside0.mk (Kd.S_below HS.out hb); have n1_ := Aside0.mk (Kd.R_below HO.out hb); have n2_ := Aside0.mk (below_step HB.out hb); have n3_ := Aside0.mk (blk_below BK.out hb); clear hb; clear HS HO HB BK; have HS := n0_; have HO := n1_; have HB := n2_; have BK := n3_; clear n0_ n1_ n2_ n3_; obtain ⟨hz0, hf0, hz1, hf1, hz2, hf2⟩ := bk3 BK.out))
         go_roundg (l1.length - (j + 1))
         case measure => have := HLT.out; have := HKK.out; omega
         case rel => exact ⟨j + 1, by rw [← HWR.out], by have := HLT.out; omega, by have := HLT.out; omega, ⟨⟨by rw [HNX.out, HST.out]; exact Kd.S_mono (lS HS.out) (fun _ _ => trivial), by rw [HNX.out]; exact Iv_step HI.out e, lB⟩⟩, ⟨Kd.R_mono (lR HO.out) (fun _ _ => trivial)⟩⟩
        ·have b2 : decide (fidx (lastB e.f0) C 0 < 0) = false := decide_eq_false h2
         by_cases h3 : fidx (firstB e.f1) C 0 < 0
         ·have HNX := Aside0.mk (show _ = stepC C e from HNX0.out)
          have b3 : decide (fidx (firstB e.f1) C 0 < 0) = true := decide_eq_true h3
          have HST := Aside0.mk (show stepC C e = C from by unfold stepC; rw [if_neg h0]; rw [if_neg h1]; rw [if_neg h2]; rw [if_pos h3])
          clear h3 h0 h1 h2
          go_wp2_with (first | ((with_reducible refine gate_dst (N := 9) rfl ?_); refine bxe 9 #[.int .i64 0, .int .i64 0, .int .i64 0] 48 ?_; intro gb hg w7 hbox hb; have n0_ := Aside0.mk (Kd.S_below (Kd.S_elderB HS.out gb (Nat.le_of_eq hg.symm)) hb); have n1_ := Aside0.mk (Kd.R_below (Kd.R_elderB HO.out gb (Nat.le_of_eq hg.symm)) hb); have n2_ := Aside0.mk (below_step lB hb); have BK := Aside0.mk hbox; have GW := Aside0.mk (show w.heap.size ≤ gb by rw [hg]; exact below_size HB.out); clear HS HO HB hb hbox hg hx0 hx1 hx2; have HS := n0_; have HO := n1_; have HB := n2_; clear n0_ n1_ n2_; obtain ⟨hz0, hf0, hz1, hf1, hz2, hf2⟩ := bk3 BK.out) | (go_at_call 99; clear hz0 hf0 hz1 hf1 hz2 hf2; (with_reducible refine (idx99_ 101 #[.pointer (some ⟨gb, 0, none⟩)] E1.out (askO (firstB e.f1)) A c C _ ?hC ?hp (fidx (firstB e.f1) C 0) ?hI).mono ?_); (case hC => exact (Kd.S_reads' HS.out).2.2); (case hI => exact (fidx_ask _ C 0 HI.out.2)); (case hp => intro W x b A0 c0 hBW hlx hCx hpx; unfold askO at hpx; split at hpx; cases hpx; rename_i hxn; obtain rfl := Option.some.inj hpx; exact (Fi.calls W A0 c0 x gb e.f0 e.f1 e.f2 hCx hlx (List.length_pos_iff.2 hxn) (blk_below BK.out hBW)).mono (fun e_ w_ ⟨h1_, nd_, h2_⟩ => ⟨h1_, by rw [h2_]; exact pw_below_drewN (Below.refl _ _) _⟩)); rintro e_ w9 ⟨rfl, hb⟩; have n0_ := Aside0.mk (Kd.S_below HS.out hb); have n1_ := Aside0.mk (Kd.R_below HO.out hb); have n2_ := Aside0.mk (below_step HB.out hb); have n3_ := Aside0.mk (blk_below BK.out hb); clear hb; clear HS HO HB BK; have HS := n0_; have HO := n1_; have HB := n2_; have BK := n3_; clear n0_ n1_ n2_ n3_; obtain ⟨hz0, hf0, hz1, hf1, hz2, hf2⟩ := bk3 BK.out) | (go_at_call 99; have n0_ := Aside0.mk (Kd.S_far (p := ⟨gb, 2, none⟩) (Kd.S_far (p := ⟨gb, 1, none⟩) (Kd.S_far (p := ⟨gb, 0, none⟩) HS.out (fun _ hk => hk.2) (.int .i64 e.f0)) (fun _ hk => hk.2) (.int .i64 e.f1)) (fun _ hk => hk.2) (.int .i64 e.f2)); have n1_ := Aside0.mk (Kd.R_far (p := ⟨gb, 2, none⟩) (Kd.R_far (p := ⟨gb, 1, none⟩) (Kd.R_far (p := ⟨gb, 0, none⟩) HO.out (fun _ hk => hk.2) (.int .i64 e.f0)) (fun _ hk => hk.2) (.int .i64 e.f1)) (fun _ hk => hk.2) (.int .i64 e.f2)); have n2_ := Aside0.mk (show Below w.heap.size w (((w7.setCell ⟨gb, 0, none⟩ (.int .i64 e.f0)).setCell ⟨gb, 1, none⟩ (.int .i64 e.f1)).setCell ⟨gb, 2, none⟩ (.int .i64 e.f2)) from below_set (below_set (below_set HB.out GW.out) GW.out) GW.out); have n3_ := Aside0.mk (blk_put (cs' := #[.int .i64 e.f0, .int .i64 e.f1, .int .i64 e.f2]) (blk_put (cs' := #[.int .i64 e.f0, .int .i64 e.f1, .int .i64 0]) (blk_put (cs := #[.int .i64 0, .int .i64 0, .int .i64 0]) (cs' := #[.int .i64 e.f0, .int .i64 0, .int .i64 0]) BK.out 0 (.int .i64 e.f0) rfl) 1 (.int .i64 e.f1) rfl) 2 (.int .i64 e.f2) rfl); clear hz0 hf0 hz1 hf1 hz2 hf2; clear HS HO HB BK; have HS := n0_; have HO := n1_; have HB := n2_; have BK := n3_; clear n0_ n1_ n2_ n3_; generalize (((w7.setCell ⟨gb, 0, none⟩ (.int .i64 e.f0)).setCell ⟨gb, 1, none⟩ (.int .i64 e.f1)).setCell ⟨gb, 2, none⟩ (.int .i64 e.f2)) = w8 at HS HO HB BK ⊢; (with_reducible refine (idx99_ 100 #[.pointer (some ⟨gb, 0, none⟩)] E0.out (askO (lastB e.f0)) A c C _ ?hC ?hp (fidx (lastB e.f0) C 0) ?hI).mono ?_); (case hC => exact (Kd.S_reads' HS.out).2.2); (case hI => exact (fidx_ask _ C 0 HI.out.2)); (case hp => intro W x b A0 c0 hBW hlx hCx hpx; unfold askO at hpx; split at hpx; cases hpx; rename_i hxn; obtain rfl := Option.some.inj hpx; exact (La.calls W A0 c0 x gb e.f0 e.f1 e.f2 hCx hlx (List.length_pos_iff.2 hxn) (blk_below BK.out hBW)).mono (fun e_ w_ ⟨h1_, nd_, h2_⟩ => ⟨h1_, by rw [h2_]; exact pw_below_drewN (Below.refl _ _) _⟩)); rintro e_ w9 ⟨rfl, hb⟩; have n0_ := Aside0.mk (Kd.S_below HS.out hb); have n1_ := Aside0.mk (Kd.R_below HO.out hb); have n2_ := Aside0.mk (below_step HB.out hb); have n3_ := Aside0.mk (blk_below BK.out hb); clear hb; clear HS HO HB BK; have HS := n0_; have HO := n1_; have HB := n2_; have BK := n3_; clear n0_ n1_ n2_ n3_; obtain ⟨hz0, hf0, hz1, hf1, hz2, hf2⟩ := bk3 BK.out))
          go_roundg (l1.length - (j + 1))
          case measure => have := HLT.out; have := HKK.out; omega
          case rel => exact ⟨j + 1, by rw [← HWR.out], by have := HLT.out; omega, by have := HLT.out; omega, ⟨⟨by rw [HNX.out, HST.out]; exact Kd.S_mono (lS HS.out) (fun _ _ => trivial), by rw [HNX.out]; exact Iv_step HI.out e, lB⟩⟩, ⟨Kd.R_mono (lR HO.out) (fun _ _ => trivial)⟩⟩
         ·have b3 : decide (fidx (firstB e.f1) C 0 < 0) = false := decide_eq_false h3
          by_cases h4 : fidx (lastB e.f0) C 0 = fidx (firstB e.f1) C 0
          ·have HNX := Aside0.mk (show _ = stepC C e from HNX0.out)
           have b4 : (fidx (lastB e.f0) C 0 == fidx (firstB e.f1) C 0) = true := by simp [h4]
           have HST := Aside0.mk (show stepC C e = C from by unfold stepC; rw [if_neg h0]; rw [if_neg h1]; rw [if_neg h2]; rw [if_neg h3]; rw [if_pos h4])
           clear h4 h0 h1 h2 h3
           go_wp2_with (first | ((with_reducible refine gate_dst (N := 9) rfl ?_); refine bxe 9 #[.int .i64 0, .int .i64 0, .int .i64 0] 48 ?_; intro gb hg w7 hbox hb; have n0_ := Aside0.mk (Kd.S_below (Kd.S_elderB HS.out gb (Nat.le_of_eq hg.symm)) hb); have n1_ := Aside0.mk (Kd.R_below (Kd.R_elderB HO.out gb (Nat.le_of_eq hg.symm)) hb); have n2_ := Aside0.mk (below_step lB hb); have BK := Aside0.mk hbox; have GW := Aside0.mk (show w.heap.size ≤ gb by rw [hg]; exact below_size HB.out); clear HS HO HB hb hbox hg hx0 hx1 hx2; have HS := n0_; have HO := n1_; have HB := n2_; clear n0_ n1_ n2_; obtain ⟨hz0, hf0, hz1, hf1, hz2, hf2⟩ := bk3 BK.out) | (go_at_call 99; clear hz0 hf0 hz1 hf1 hz2 hf2; (with_reducible refine (idx99_ 101 #[.pointer (some ⟨gb, 0, none⟩)] E1.out (askO (firstB e.f1)) A c C _ ?hC ?hp (fidx (firstB e.f1) C 0) ?hI).mono ?_); (case hC => exact (Kd.S_reads' HS.out).2.2); (case hI => exact (fidx_ask _ C 0 HI.out.2)); (case hp => intro W x b A0 c0 hBW hlx hCx hpx; unfold askO at hpx; split at hpx; cases hpx; rename_i hxn; obtain rfl := Option.some.inj hpx; exact (Fi.calls W A0 c0 x gb e.f0 e.f1 e.f2 hCx hlx (List.length_pos_iff.2 hxn) (blk_below BK.out hBW)).mono (fun e_ w_ ⟨h1_, nd_, h2_⟩ => ⟨h1_, by rw [h2_]; exact pw_below_drewN (Below.refl _ _) _⟩)); rintro e_ w9 ⟨rfl, hb⟩; have n0_ := Aside0.mk (Kd.S_below HS.out hb); have n1_ := Aside0.mk (Kd.R_below HO.out hb); have n2_ := Aside0.mk (below_step HB.out hb); have n3_ := Aside0.mk (blk_below BK.out hb); clear hb; clear HS HO HB BK; have HS := n0_; have HO := n1_; have HB := n2_; have BK := n3_; clear n0_ n1_ n2_ n3_; obtain ⟨hz0, hf0, hz1, hf1, hz2, hf2⟩ := bk3 BK.out) | (go_at_call 99; have n0_ := Aside0.mk (Kd.S_far (p := ⟨gb, 2, none⟩) (Kd.S_far (p := ⟨gb, 1, none⟩) (Kd.S_far (p := ⟨gb, 0, none⟩) HS.out (fun _ hk => hk.2) (.int .i64 e.f0)) (fun _ hk => hk.2) (.int .i64 e.f1)) (fun _ hk => hk.2) (.int .i64 e.f2)); have n1_ := Aside0.mk (Kd.R_far (p := ⟨gb, 2, none⟩) (Kd.R_far (p := ⟨gb, 1, none⟩) (Kd.R_far (p := ⟨gb, 0, none⟩) HO.out (fun _ hk => hk.2) (.int .i64 e.f0)) (fun _ hk => hk.2) (.int .i64 e.f1)) (fun _ hk => hk.2) (.int .i64 e.f2)); have n2_ := Aside0.mk (show Below w.heap.size w (((w7.setCell ⟨gb, 0, none⟩ (.int .i64 e.f0)).setCell ⟨gb, 1, none⟩ (.int .i64 e.f1)).setCell ⟨gb, 2, none⟩ (.int .i64 e.f2)) from below_set (below_set (below_set HB.out GW.out) GW.out) GW.out); have n3_ := Aside0.mk (blk_put (cs' := #[.int .i64 e.f0, .int .i64 e.f1, .int .i64 e.f2]) (blk_put (cs' := #[.int .i64 e.f0, .int .i64 e.f1, .int .i64 0]) (blk_put (cs := #[.int .i64 0, .int .i64 0, .int .i64 0]) (cs' := #[.int .i64 e.f0, .int .i64 0, .int .i64 0]) BK.out 0 (.int .i64 e.f0) rfl) 1 (.int .i64 e.f1) rfl) 2 (.int .i64 e.f2) rfl); clear hz0 hf0 hz1 hf1 hz2 hf2; clear HS HO HB BK; have HS := n0_; have HO := n1_; have HB := n2_; have BK := n3_; clear n0_ n1_ n2_ n3_; generalize (((w7.setCell ⟨gb, 0, none⟩ (.int .i64 e.f0)).setCell ⟨gb, 1, none⟩ (.int .i64 e.f1)).setCell ⟨gb, 2, none⟩ (.int .i64 e.f2)) = w8 at HS HO HB BK ⊢; (with_reducible refine (idx99_ 100 #[.pointer (some ⟨gb, 0, none⟩)] E0.out (askO (lastB e.f0)) A c C _ ?hC ?hp (fidx (lastB e.f0) C 0) ?hI).mono ?_); (case hC => exact (Kd.S_reads' HS.out).2.2); (case hI => exact (fidx_ask _ C 0 HI.out.2)); (case hp => intro W x b A0 c0 hBW hlx hCx hpx; unfold askO at hpx; split at hpx; cases hpx; rename_i hxn; obtain rfl := Option.some.inj hpx; exact (La.calls W A0 c0 x gb e.f0 e.f1 e.f2 hCx hlx (List.length_pos_iff.2 hxn) (blk_below BK.out hBW)).mono (fun e_ w_ ⟨h1_, nd_, h2_⟩ => ⟨h1_, by rw [h2_]; exact pw_below_drewN (Below.refl _ _) _⟩)); rintro e_ w9 ⟨rfl, hb⟩; have n0_ := Aside0.mk (Kd.S_below HS.out hb); have n1_ := Aside0.mk (Kd.R_below HO.out hb); have n2_ := Aside0.mk (below_step HB.out hb); have n3_ := Aside0.mk (blk_below BK.out hb); clear hb; clear HS HO HB BK; have HS := n0_; have HO := n1_; have HB := n2_; have BK := n3_; clear n0_ n1_ n2_ n3_; obtain ⟨hz0, hf0, hz1, hf1, hz2, hf2⟩ := bk3 BK.out))
           go_roundg (l1.length - (j + 1))
           case measure => have := HLT.out; have := HKK.out; omega
           case rel => exact ⟨j + 1, by rw [← HWR.out], by have := HLT.out; omega, by have := HLT.out; omega, ⟨⟨by rw [HNX.out, HST.out]; exact Kd.S_mono (lS HS.out) (fun _ _ => trivial), by rw [HNX.out]; exact Iv_step HI.out e, lB⟩⟩, ⟨Kd.R_mono (lR HO.out) (fun _ _ => trivial)⟩⟩
          ·have b4 : (fidx (lastB e.f0) C 0 == fidx (firstB e.f1) C 0) = false := by simp [h4]
           have HST := Aside0.mk (show stepC C e = mergeC C (fidx (lastB e.f0) C 0).toNat (fidx (firstB e.f1) C 0).toNat from by unfold stepC; rw [if_neg h0]; rw [if_neg h1]; rw [if_neg h2]; rw [if_neg h3]; rw [if_neg h4])
           obtain ⟨fi, hfi, hfl⟩ := fidx_nat (lastB e.f0) C h2
           obtain ⟨ti, hti, htl⟩ := fidx_nat (firstB e.f1) C h3
           have hne : fi ≠ ti := fun h => h4 (by rw [hfi, hti, h])
           have HST2 := Aside0.mk (show ((sortE l1).take (j + 1)).foldl stepC (startC n) = mergeC C fi ti from (HNX0.out.trans HST.out).trans (by rw [hfi, hti]; rfl))
           have HIM := Aside0.mk (Iv_merge HI.out fi ti hfl htl hne)
           have HFI := Aside0.mk hfi
           have HTI := Aside0.mk hti
           have HFL := Aside0.mk hfl
           have HTL := Aside0.mk htl
           clear h0 h1 h2 h3 h4 hfi hti hfl htl hne HNX0 HST
           go_wp2_with (first | ((with_reducible refine gate_dst (N := 9) rfl ?_); refine bxe 9 #[.int .i64 0, .int .i64 0, .int .i64 0] 48 ?_; intro gb hg w7 hbox hb; have n0_ := Aside0.mk (Kd.S_below (Kd.S_elderB HS.out gb (Nat.le_of_eq hg.symm)) hb); have n1_ := Aside0.mk (Kd.R_below (Kd.R_elderB HO.out gb (Nat.le_of_eq hg.symm)) hb); have n2_ := Aside0.mk (below_step lB hb); have BK := Aside0.mk hbox; have GW := Aside0.mk (show w.heap.size ≤ gb by rw [hg]; exact below_size HB.out); clear HS HO HB hb hbox hg hx0 hx1 hx2; have HS := n0_; have HO := n1_; have HB := n2_; clear n0_ n1_ n2_; obtain ⟨hz0, hf0, hz1, hf1, hz2, hf2⟩ := bk3 BK.out) | (go_at_call 99; clear hz0 hf0 hz1 hf1 hz2 hf2; (with_reducible refine (idx99_ 101 #[.pointer (some ⟨gb, 0, none⟩)] E1.out (askO (firstB e.f1)) A c C _ ?hC ?hp (fidx (firstB e.f1) C 0) ?hI).mono ?_); (case hC => exact (Kd.S_reads' HS.out).2.2); (case hI => exact (fidx_ask _ C 0 HI.out.2)); (case hp => intro W x b A0 c0 hBW hlx hCx hpx; unfold askO at hpx; split at hpx; cases hpx; rename_i hxn; obtain rfl := Option.some.inj hpx; exact (Fi.calls W A0 c0 x gb e.f0 e.f1 e.f2 hCx hlx (List.length_pos_iff.2 hxn) (blk_below BK.out hBW)).mono (fun e_ w_ ⟨h1_, nd_, h2_⟩ => ⟨h1_, by rw [h2_]; exact pw_below_drewN (Below.refl _ _) _⟩)); rintro e_ w9 ⟨rfl, hb⟩; have n0_ := Aside0.mk (Kd.S_below HS.out hb); have n1_ := Aside0.mk (Kd.R_below HO.out hb); have n2_ := Aside0.mk (below_step HB.out hb); have n3_ := Aside0.mk (blk_below BK.out hb); clear hb; clear HS HO HB BK; have HS := n0_; have HO := n1_; have HB := n2_; have BK := n3_; clear n0_ n1_ n2_ n3_; obtain ⟨hz0, hf0, hz1, hf1, hz2, hf2⟩ := bk3 BK.out) | (go_at_call 99; have n0_ := Aside0.mk (Kd.S_far (p := ⟨gb, 2, none⟩) (Kd.S_far (p := ⟨gb, 1, none⟩) (Kd.S_far (p := ⟨gb, 0, none⟩) HS.out (fun _ hk => hk.2) (.int .i64 e.f0)) (fun _ hk => hk.2) (.int .i64 e.f1)) (fun _ hk => hk.2) (.int .i64 e.f2)); have n1_ := Aside0.mk (Kd.R_far (p := ⟨gb, 2, none⟩) (Kd.R_far (p := ⟨gb, 1, none⟩) (Kd.R_far (p := ⟨gb, 0, none⟩) HO.out (fun _ hk => hk.2) (.int .i64 e.f0)) (fun _ hk => hk.2) (.int .i64 e.f1)) (fun _ hk => hk.2) (.int .i64 e.f2)); have n2_ := Aside0.mk (show Below w.heap.size w (((w7.setCell ⟨gb, 0, none⟩ (.int .i64 e.f0)).setCell ⟨gb, 1, none⟩ (.int .i64 e.f1)).setCell ⟨gb, 2, none⟩ (.int .i64 e.f2)) from below_set (below_set (below_set HB.out GW.out) GW.out) GW.out); have n3_ := Aside0.mk (blk_put (cs' := #[.int .i64 e.f0, .int .i64 e.f1, .int .i64 e.f2]) (blk_put (cs' := #[.int .i64 e.f0, .int .i64 e.f1, .int .i64 0]) (blk_put (cs := #[.int .i64 0, .int .i64 0, .int .i64 0]) (cs' := #[.int .i64 e.f0, .int .i64 0, .int .i64 0]) BK.out 0 (.int .i64 e.f0) rfl) 1 (.int .i64 e.f1) rfl) 2 (.int .i64 e.f2) rfl); clear hz0 hf0 hz1 hf1 hz2 hf2; clear HS HO HB BK; have HS := n0_; have HO := n1_; have HB := n2_; have BK := n3_; clear n0_ n1_ n2_ n3_; generalize (((w7.setCell ⟨gb, 0, none⟩ (.int .i64 e.f0)).setCell ⟨gb, 1, none⟩ (.int .i64 e.f1)).setCell ⟨gb, 2, none⟩ (.int .i64 e.f2)) = w8 at HS HO HB BK ⊢; (with_reducible refine (idx99_ 100 #[.pointer (some ⟨gb, 0, none⟩)] E0.out (askO (lastB e.f0)) A c C _ ?hC ?hp (fidx (lastB e.f0) C 0) ?hI).mono ?_); (case hC => exact (Kd.S_reads' HS.out).2.2); (case hI => exact (fidx_ask _ C 0 HI.out.2)); (case hp => intro W x b A0 c0 hBW hlx hCx hpx; unfold askO at hpx; split at hpx; cases hpx; rename_i hxn; obtain rfl := Option.some.inj hpx; exact (La.calls W A0 c0 x gb e.f0 e.f1 e.f2 hCx hlx (List.length_pos_iff.2 hxn) (blk_below BK.out hBW)).mono (fun e_ w_ ⟨h1_, nd_, h2_⟩ => ⟨h1_, by rw [h2_]; exact pw_below_drewN (Below.refl _ _) _⟩)); rintro e_ w9 ⟨rfl, hb⟩; have n0_ := Aside0.mk (Kd.S_below HS.out hb); have n1_ := Aside0.mk (Kd.R_below HO.out hb); have n2_ := Aside0.mk (below_step HB.out hb); have n3_ := Aside0.mk (blk_below BK.out hb); clear hb; clear HS HO HB BK; have HS := n0_; have HO := n1_; have HB := n2_; have BK := n3_; clear n0_ n1_ n2_ n3_; obtain ⟨hz0, hf0, hz1, hf1, hz2, hf2⟩ := bk3 BK.out))
           simp only [HFI.out, HTI.out]
           obtain ⟨g, cap, hv, hbg, hgl, hty⟩ := Kd.S_form HS.out (by have := HFL.out; omega)
           injection hv with hA hn_ hc_
           subst hc_
           clear hn_ hty
           obtain ⟨ad, had⟩ : ∃ ad : Addr, ad = ⟨g, 0, none⟩ := ⟨_, rfl⟩
           rw [← had] at hA
           subst hA
           have HS1 : Kd.S (Kd.slice 3 (Kd.int .i64)) 34 w9.drew w.heap.size (fun _ => True) (.slice (some ⟨g, 0, none⟩) C.length c) C := by
            have h_ := Kd.S_mono (ok' := fun _ => True) (Kd.S_drew HS.out) (fun _ _ => trivial)
            rwa [had] at h_
           obtain ⟨okf, vf, hRf, hokf, hcf, hff, hback⟩ := Mg.prep HS1 fi HFL.out
           obtain ⟨ad2, At, ct, e2, hxt, hlt, hCt⟩ := at_L5 (Kd.S_reads' HS1).2.2 (ti : Int) (by omega) (by have := HTL.out; omega)
           cases e2
           simp only [Int.toNat_natCast] at hxt
           have hx1 : w9.drew.cell? (ad.add fi) = some vf := by rw [had, add_plain]; exact hcf
           have hx2 : w9.drew.cell? (ad.add ti) = some (.slice At (rd_L5 C (ti : Int)).length ct) := by rw [had]; exact hxt
           have hx3 : w9.drew.frozen? (ad.add fi) = false := by rw [had, add_plain]; exact hff
           have pf : (0 ≤ (fi : Int)) = True := eq_true (by omega)
           have qf : ((fi : Int) < (C.length : Int)) = True := eq_true (by have := HFL.out; omega)
           have pt : (0 ≤ (ti : Int)) = True := eq_true (by omega)
           have qt : ((ti : Int) < (C.length : Int)) = True := eq_true (by have := HTL.out; omega)
           have hqf : (fi < C.length) = True := eq_true HFL.out
           have hqt : (ti < C.length) = True := eq_true HTL.out
           have HO1 : Kd.R k48 48 w9.drew w.heap.size (fun _ => True) (.slice (some ⟨gs, 0, none⟩) l1.length cs) (sortE l1) := Kd.R_mono (Kd.R_drew HO.out) (fun _ _ => trivial)
           have HB1 : Below w.heap.size w w9.drew := below_drew1 HB.out
           have hlenf : (C.getD fi []).length ≤ 8 := by
            have := Iv_elem HI.out (c := C.getD fi []) (by rw [List.getD_eq_getElem?_getD, List.getElem?_eq_getElem HFL.out, Option.getD_some]; exact List.getElem_mem _)
            have := HN.out
            omega
           have hlent : (rd_L5 C (ti : Int)).length ≤ 8 := by
            have := Iv_elem HI.out (c := rd_L5 C (ti : Int)) (by unfold rd_L5; rw [Int.toNat_natCast, List.getD_eq_getElem?_getD, List.getElem?_eq_getElem HTL.out, Option.getD_some]; exact List.getElem_mem _)
            have := HN.out
            omega
           have A1_ := Aside0.mk HS1
           have A2_ := Aside0.mk hRf
           have A3_ := Aside0.mk hokf
           have A4_ := Aside0.mk @hback
           have A5_ := Aside0.mk hCt
           have A6_ := Aside0.mk HO1
           have A7_ := Aside0.mk HB1
           have A8_ := Aside0.mk hlenf
           have A9_ := Aside0.mk hlent
           have A10_ := Aside0.mk hbg
           have A11_ := Aside0.mk had
           clear HS1 hRf hokf hback hCt HO1 HB1 hlenf hlent hbg had hgl HS HO HB BK hxt hcf hff hlt
           refine start_ (n := 13) (S := fun w' => w'.cell? (ad.add fi) = some vf ∧ w'.cell? (ad.add ti) = some (.slice At (rd_L5 C (ti : Int)).length ct) ∧ w'.frozen? (ad.add fi) = false) (ds := [12]) (bs 13 0) kR rfl kR ⟨hx1, hx2, hx3⟩ (fun hHeld => ?_)
           generalize w9.drew = w10 at A1_ A2_ A3_ A4_ A5_ A6_ A7_ hx1 hx2 hx3 hHeld ⊢
           refine pur_ 0 63 (bs 13 1) kR ?_
           refine pur_ 1 64 (bs 13 3) kR ?_
           refine pur_ 2 65 (bs 13 7) kR ?_
           refine pur_ 3 66 (bs 13 15) kR ?_
           refine pur_ 4 67 (bs 13 31) kR ?_
           refine tak_ 5 68 (bs 13 63) kR hHeld ?_
           refine pur_ 6 69 (bs 13 127) kR ?_
           refine pur_ 7 70 (bs 13 255) kR ?_
           refine pur_ 8 71 (bs 13 511) kR ?_
           refine tak_ 9 72 (bs 13 1023) kR hHeld ?_
           refine one_ (i := 10) (N := some 73) (bs 13 2047) rfl rfl kR (by decide) (fun K hK => ?_)
           refine Kd.R_append_rows_step (Kd.int .i64) (w0 := w) w.heap.size (by rfl) (.tmp 68) (.tmp 72) 34 3 (.int .i64 0) 8 rfl Try.underlying34 info3 rfl (by decide) (by omega) vf (C.getD fi []) (rd_L5 C (ti : Int)) At _ ct (fun k => okf k ∨ w10.heap.size ≤ k) (fun _ => False) rfl rfl ?aO ?aR (fun _ _ h => h) (fun _ h => h.elim) ?aF ?aB ?aS ?aL ?_
           (case aO => exact Kd.R_mono A2_.out (fun _ h => .inl h))
           (case aR => exact A5_.out)
           (case aF => exact (fun k hk => .inr hk))
           (case aB => exact A7_.out)
           (case aS => exact below_size A7_.out)
           (case aL => have := A8_.out; have := A9_.out; omega)
           intro v2 w11 ho hb hg hat
           obtain ⟨hbk, hc1, hf1, hS2, hg2⟩ := A4_.out v2 w11 (C.getD fi [] ++ rd_L5 C (ti : Int)) ho hg
           have HO2 := Kd.R_over' A6_.out (Kd.R_typed A2_.out) (by decide) hg
           obtain ⟨A2, c2, e2⟩ := Kd.R_slice ho
           subst e2
           have hadr : ∀ i : Nat, (ad.add i).block = g := fun i => by rw [A11_.out, add_plain]
           refine hK.out _ _ ⟨by rw [A11_.out, add_plain]; exact hc1, (World.cell?_of_block (a := ad.add ti) (by rw [hadr]; exact hbk)).trans hHeld.2.1, by rw [A11_.out, add_plain]; exact hf1⟩ (fun hHeld => ?_)
           clear hK K
           refine norm_ (a' := ?_) ?_ ?_
           rotate_left
           ·show Act.put _ (some 73) _ = _
            simp only [Act.put, List.setIfInBounds_toArray, List.set_cons_zero, List.set_cons_succ, i64_w, i32_w]
            rfl
           refine pur_ 11 74 (bs 13 4095) kR ?_
           refine last_ (i := 12) (N := none) (bs 13 8191) rfl rfl kR (by decide) (fun K hK => ?_)
           have hs0_ := hHeld.1
           have hs1_ := hHeld.2.2
           refine skip_ (w1 := World.setCell _ (ad.add fi) (.slice A2 (C.getD fi [] ++ rd_L5 C (ti : Int)).length c2)) (by rfl) rfl (by first | (go_simp; done) | (go_simp; rfl)) ?_
           refine hK.out _ _ ?_
           clear hK K
           refine done_ kR ?_
           have HB2 : Below w.heap.size w (w11.setCell ⟨g, fi, none⟩ (.slice A2 (C.getD fi [] ++ rd_L5 C (ti : Int)).length c2)) := Below.grown hb hg2 (below_size hb) (fun k hk => by injection hk with hk; subst hk; exact A10_.out)
           have hty2 : ∀ k, (Value.slice (some ⟨g, 0, none⟩) C.length c).ownBlock = some k → ∃ cells, w11.heap[k]? = some (.cells cells 34 (0, 0)) := by
            intro k hk
            obtain rfl : g = k := by simpa [Value.ownBlock] using hk
            rw [hbk]
            exact Kd.S_typed A1_.out g rfl
           have HO3 := Kd.R_over' (v := .slice (some ⟨g, 0, none⟩) C.length c) HO2 hty2 (by decide) hg2
           have hadd : ad.add fi = ⟨g, fi, none⟩ := by rw [A11_.out, add_plain]
           rw [hadd]
           have HD1 := Aside0.mk hS2
           have HD2 := Aside0.mk HB2
           have HD3 := Aside0.mk HO3
           have had2 := A11_.out
           clear hg2 hty2 HO2 HB2 HO3 hS2 hadd hadr hHeld hs0_ hs1_ hbk hc1 hf1 ho hb hg hat A1_ A2_ A3_ A4_ A5_ A6_ A7_ A8_ A9_ hx1 hx2 hx3 pf qf pt qt hqf hqt
           generalize w11.setCell ⟨g, fi, none⟩ (.slice A2 (C.getD fi [] ++ rd_L5 C (ti : Int)).length c2) = w12 at HD1 HD2 HD3 ⊢
           clear A11_
           subst had2
           have hwt : IntKind.i64.wrap ((ti : Int) + 1) = ((ti + 1 : Nat) : Int) := (i64_w _).trans (by have := HTL.out; have := Iv_len HI.out; have := HN.out; unfold wrap64; omega)
           go_wp2_with (go_at_call 64; (with_reducible refine (Dl.calls1 HD1.out ti HTL.out).mono ?_); rintro e_ w13 ⟨rfl, hS, hg⟩; have n0_ := Aside0.mk hS; have n1_ := Aside0.mk (Kd.R_over' (v := .slice (some ⟨g, 0, none⟩) C.length c) HD3.out (Kd.S_typed HD1.out) (by decide) hg); have n2_ := Aside0.mk (Below.grown HD2.out hg (below_size HD2.out) (fun k hk => by injection hk with hk; subst hk; exact A10_.out)); clear HD1 HD2 HD3 hS hg; have HS := n0_; have HO := n1_; have HB := n2_; clear n0_ n1_ n2_)
           go_roundg (l1.length - (j + 1))
           case measure => have := HLT.out; have := HKK.out; omega
           case rel => exact ⟨j + 1, by rw [← HWR.out], by have := HLT.out; omega, by have := HLT.out; omega, ⟨⟨by rw [HST2.out]; exact lS HS.out, by rw [HST2.out]; exact HIM.out, lB⟩⟩, ⟨lR HO.out⟩⟩
     ·have hd : decide ((j : Int) < (l1.length : Int)) = false := decide_eq_false (by omega)
      have hd0 : decide (j < l1.length) = false := decide_eq_false hlt
      have hlq := sortE_len l1
      rw [List.take_of_length_le (show (sortE l1).length ≤ j by omega)] at HS HI
      obtain ⟨C, hC⟩ : ∃ C, (sortE l1).foldl stepC (startC n) = C := ⟨_, rfl⟩
      rw [hC] at HS HI
      have HCC := Aside0.mk hC
      obtain ⟨g, cap, hv, hbg, hgl, hty⟩ := Kd.S_form HS.out (Iv_pos HI.out (by have := HN.out; omega))
      subst hv
      have HG := Aside0.mk hbg
      have HCL := Aside0.mk (Iv_len HI.out)
      clear hlq hC hbg hgl hty hlt hj hk
      go_wp2_with (go_at_call 102; (with_reducible refine (Sf.calls HS.out ?hp ?h12 ?hne ?hb).mono ?_); (case hp => exact Iv_pos HI.out (by have := HN.out; omega)); (case h12 => have := HCL.out; have := HN.out; omega); (case hne => exact HI.out.2); (case hb => exact (fun c hc => by have := Iv_head HI.out hc; have := HN.out; omega)); rintro e_ w13 ⟨rfl, L2, hp, hs, hS, hg⟩; have n0_ := Aside0.mk hS; have n1_ := Aside0.mk (Below.grown HB.out hg (below_size HB.out) (fun k hk => by injection hk with hk; subst hk; exact HG.out)); have HBF := Aside0.mk (by_first HI.out hp hs); clear HS HB hp hs hS hg; have HS := n0_; have HB := n1_; clear n0_ n1_)
      go_ret
      exact ⟨_, rfl, by show Kd.S _ 34 _ _ _ _ (byFirst ((sortE l1).foldl stepC (startC n))); rw [HCC.out, ← HBF.out]; exact lS HS.out, lB⟩
 ·rw [if_neg hh] at h
  cases h


end Go.Proofs.Ytpnhlccdhflogaa.Q
