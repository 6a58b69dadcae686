/- The reference's sort and the library's tell the same rising row. Conditions: none. -/
import Derived.Test.YtnocadhibajaoaaPH
import Derived.Test.YtnocadhibajaoaaQx0
import Derived.Test.YtnocadhibajaoaaQx5
import Derived.Test.YtnocadhibajaoaaQx6
import Derived.Test.YtnocadhibajaoaaQx7
import Derived.Test.YtnocadhibajaoaaQx15
set_option linter.unusedVariables false
set_option linter.unusedSimpArgs false
set_option linter.unusedSectionVars false
namespace Go.Proofs.Ytnocadhibajaoaa.Pure
open Go.RowKit Go.Proofs.Ytnocadhibajaoaa.Q Go.Proofs.YtnocadhibajaoaaW.PrintWords Go.Proofs.YtnocadhibajaoaaW.PrintLast Go.Proofs.Ytnocadhibajaoaa.Kit
/-- x put into a rising row. -/
def insL (x : Int) : List Int → List Int
  | [] => [x]
  | y :: ys => if y < x then y :: insL x ys else x :: y :: ys
def srt (s : List Int) : List Int → List Int
  | [] => s
  | x :: xs => srt (insL x s) xs
theorem insL_len (x : Int) : ∀ s, (insL x s).length = s.length + 1
  | [] => rfl
  | y :: ys => by unfold insL; split <;> simp [insL_len x ys]
theorem insL_mem (x a : Int) : ∀ s, a ∈ insL x s ↔ a = x ∨ a ∈ s
  | [] => by simp [insL]
  | y :: ys => by
    unfold insL
    split
    · simp only [List.mem_cons, insL_mem x a ys]; constructor <;> (intro h; rcases h with h | h | h <;> simp [h])
    · simp
def Rising (s : List Int) : Prop := s.Pairwise (· < ·)
theorem insL_rising (x : Int) : ∀ s, Rising s → x ∉ s → Rising (insL x s)
  | [], _, _ => by simp [insL, Rising]
  | y :: ys, h, hx => by
    simp only [Rising, List.pairwise_cons] at h
    simp only [List.mem_cons, not_or] at hx
    unfold insL
    split
    · rename_i hlt
      simp only [Rising, List.pairwise_cons]
      refine ⟨fun a ha => ?_, insL_rising x ys h.2 hx.2⟩
      rcases (insL_mem x a ys).1 ha with rfl | ha
      · exact hlt
      · exact h.1 a ha
    · rename_i hge
      simp only [Rising, List.pairwise_cons]
      refine ⟨fun a ha => ?_, h.1, h.2⟩
      rcases List.mem_cons.1 ha with rfl | ha
      · omega
      · have := h.1 a ha; omega
theorem insL_snoc (x y : Int) (h : x < y) : ∀ s, insL x (s ++ [y]) = insL x s ++ [y]
  | [] => by simp only [List.nil_append, insL]; rw [if_neg (by omega)]; rfl
  | z :: zs => by
    simp only [List.cons_append, insL]
    split
    · rw [insL_snoc x y h zs]; rfl
    · simp
theorem insL_end (x : Int) : ∀ s, (∀ y ∈ s, y < x) → insL x s = s ++ [x]
  | [], _ => rfl
  | y :: ys, h => by
    unfold insL
    rw [if_pos (h y (by simp)), insL_end x ys (fun z hz => h z (by simp [hz]))]; rfl
theorem srt_len : ∀ (xs s : List Int), (srt s xs).length = s.length + xs.length
  | [], s => by simp [srt]
  | x :: xs, s => by simp only [srt]; rw [srt_len xs, insL_len]; simp; omega
theorem srt_mem (a : Int) : ∀ (xs s : List Int), a ∈ srt s xs ↔ a ∈ s ∨ a ∈ xs
  | [], s => by simp [srt]
  | x :: xs, s => by
    simp only [srt]; rw [srt_mem a xs, insL_mem]; simp only [List.mem_cons]
    rw [or_assoc, or_left_comm]

theorem put_l0 (x : Int) : ∀ (post pre : List Int), x ∉ post → pre.length + post.length ≤ 1048576 →
    Ev (fun k => spec_l1Put.l0 k (pre ++ post) x (pre.length : Int)) (pre ++ insL x post)
  | [], pre, hx, hb => by
    simp at hb
    refine Ev.step (fun k => by simp only [spec_l1Put.l0]; rw [if_neg (by simp)]) ?_
    refine ite_t (by omega) (ite_t (by simp) (bind_ev (Ev.now _) (ite_t (by simp; omega) (bind_ev (Ev.now _) (ite_t (by simp; omega) (bind_ev (Ev.now _) (bind_ev (Ev.now _) (ite_t (by simp; omega) (some_ev ?_)))))))))
    simp [insL]
  | y :: post, pre, hx, hb => by
    simp only [List.mem_cons, not_or] at hx
    simp at hb
    refine Ev.step (fun k => by
      simp only [spec_l1Put.l0]
      rw [if_pos (by simp; omega), if_pos (by omega), rd_at rfl, w_succ (by omega)]) ?_
    unfold insL
    by_cases h : y < x
    · refine ite_t h ?_
      rw [if_pos h]
      have ih := put_l0 x post (pre ++ [y]) hx.2 (by simp; omega)
      simpa using ih
    · refine ite_f h (ite_f (fun e => hx.1 e.symm) ?_)
      rw [if_neg h]
      refine ite_t (by simp; omega) (bind_ev (Ev.now _) (ite_t (by simp; omega) (bind_ev (Ev.now _) (ite_t (by simp; omega) (bind_ev (Ev.now _) (bind_ev (Ev.now _) (ite_t (by simp; omega) (some_ev ?_))))))))
      simp
theorem put_ev (x : Int) (s : List Int) (hx : x ∉ s) (hb : s.length ≤ 1048576) : Ev (fun k => spec_l1Put.f k s x) (insL x s) := by
  have := put_l0 x s [] hx (by simpa using hb)
  unfold spec_l1Put.f
  simpa using this
theorem sorted_l0 (l : List Int) (hb : l.length ≤ 10000) : ∀ (post pre s : List Int), l = pre ++ post → s.length ≤ pre.length → post.Nodup → (∀ x ∈ post, x ∉ s) →
    Ev (fun k => spec_l14Sorted.l0 k s l (l.length : Int) (pre.length : Int)) (srt s post)
  | [], pre, s, hl, hs, hn, hd => by
    have : l.length = pre.length := by rw [hl]; simp
    refine Ev.step (fun k => by simp only [spec_l14Sorted.l0]; rw [if_neg (by omega)]) ?_
    exact some_ev rfl
  | x :: post, pre, s, hl, hs, hn, hd => by
    have hn' : l.length = pre.length + (post.length + 1) := by rw [hl]; simp
    have hr : rd l (pre.length : Int) = x := by rw [hl]; exact rd_at rfl
    simp only [List.nodup_cons] at hn
    refine Ev.step (fun k => by simp only [spec_l14Sorted.l0]; rw [if_pos (by omega), if_pos (by omega), if_pos (by omega), hr, w_succ (by omega)]) ?_
    refine bind_ev (put_ev x s (hd x (by simp)) (by omega)) ?_
    have ih := sorted_l0 l hb post (pre ++ [x]) (insL x s) (by simp [hl]) (by rw [insL_len]; simp; omega) hn.2 (fun y hy he => by
      rcases (insL_mem x y s).1 he with rfl | he
      · exact hn.1 hy
      · exact hd y (by simp [hy]) he)
    simpa [srt] using ih
theorem sorted_ev (l : List Int) (hb : l.length ≤ 10000) (hn : l.Nodup) : Ev (fun k => spec_l14Sorted.f k l) (srt [] l) := by
  have := sorted_l0 l hb l [] [] rfl (by simp) hn (by simp)
  unfold spec_l14Sorted.f
  simpa using this

theorem srt_rising : ∀ (xs s : List Int), Rising s → xs.Nodup → (∀ x ∈ xs, x ∉ s) → Rising (srt s xs)
  | [], s, h, _, _ => h
  | x :: xs, s, h, hn, hd => by
    simp only [List.nodup_cons] at hn
    refine srt_rising xs (insL x s) (insL_rising x s h (hd x (by simp))) hn.2 (fun y hy he => ?_)
    rcases (insL_mem x y s).1 he with rfl | he
    · exact hn.1 hy
    · exact hd y (by simp [hy]) he
theorem merge_srt (l : List Int) (hn : l.Nodup) : (l.mergeSort fun x y => decide (x ≤ y)) = srt [] l := by
  have hr := srt_rising l [] (by simp [Rising]) hn (by simp)
  refine List.Perm.eq_of_pairwise (le := fun a b : Int => decide (a ≤ b) = true) (fun a b _ _ h1 h2 => ?_) (List.pairwise_mergeSort (fun a b c h1 h2 => ?_) (fun a b => ?_) l) ?_ ?_
  · have := of_decide_eq_true h1; have := of_decide_eq_true h2; omega
  · have := of_decide_eq_true h1; have := of_decide_eq_true h2; exact decide_eq_true (by omega)
  · by_cases h : a ≤ b
    · simp [h]
    · have : b ≤ a := by omega
      simp [this]
  · exact hr.imp (fun {a b} h => decide_eq_true (by omega))
  · refine (List.mergeSort_perm l _).trans ((List.perm_ext_iff_of_nodup hn (hr.imp (fun {a b} h => by omega))).2 (fun a => ?_))
    rw [srt_mem]; simp
theorem sort_ev (l : List Int) (hb : l.length ≤ 10000) (hn : l.Nodup) : Ev (fun k => slices_Sort_int_int.f l) (srt [] l) := by
  unfold slices_Sort_int_int.f
  exact ite_t (by omega) (some_ev (merge_srt l hn))
theorem nodup_le {α : Type} [DecidableEq α] : ∀ (l s : List α), l.Nodup → (∀ x ∈ l, x ∈ s) → l.length ≤ s.length
  | [], s, _, _ => by simp
  | x :: l, s, hn, hs => by
    have hx := hs x (by simp)
    have h1 := nodup_le l (s.erase x) (List.nodup_cons.1 hn).2 (fun y hy => by
      have hne : y ≠ x := fun e => (List.nodup_cons.1 hn).1 (e ▸ hy)
      exact (List.mem_erase_of_ne hne).2 (hs y (by simp [hy])))
    have h2 := List.length_erase_of_mem hx
    have h3 : 0 < s.length := List.length_pos_of_mem hx
    simp only [List.length_cons]
    omega
theorem has_iff (l : List Int) (x : Int) : has l x = true ↔ x ∈ l := by
  unfold has; simp
theorem atI_mem : ∀ (i : Nat) (os : List S45) (x : Int), atI i os x ≥ 0 → ∃ o ∈ os, o.f0 = x
  | i, [], x, h => by simp [atI] at h
  | i, o :: os, x, h => by
    unfold atI at h
    split at h
    · rename_i he; exact ⟨o, by simp, he⟩
    · obtain ⟨o', h1, h2⟩ := atI_mem (i + 1) os x h
      exact ⟨o', by simp [h1], h2⟩
theorem rdT_mem (os : List S45) (t : Int) (h0 : 0 ≤ t) (h1 : t < os.length) : rd_T45 os t ∈ os := by
  obtain ⟨n, rfl⟩ := Int.eq_ofNat_of_zero_le h0
  have hn : n < os.length := by omega
  have h5 : rd_T45 (os.take n ++ os[n] :: os.drop (n + 1)) ((n : Nat) : Int) = os[n] := rdat_T45 (by simp; omega)
  have e : os = os.take n ++ os[n] :: os.drop (n + 1) := by simp
  rw [← e] at h5
  rw [h5]
  exact List.getElem_mem hn
/-- Names that are taken once each. -/
def Once (os : List S45) (a : List Int) : Prop := a.Nodup ∧ ∀ x ∈ a, at_ os x ≥ 0
theorem Once.len {os : List S45} {a : List Int} (h : Once os a) : a.length ≤ os.length := by
  have := nodup_le a (os.map (·.f0)) h.1 (fun x hx => by
    obtain ⟨o, h1, h2⟩ := atI_mem 0 os x (h.2 x hx)
    exact List.mem_map.2 ⟨o, h1, h2⟩)
  simpa using this
theorem Once.snoc {os : List S45} {a : List Int} {x : Int} (h : Once os a) (h0 : at_ os x ≥ 0) (hx : x ∉ a) : Once os (a ++ [x]) := by
  refine ⟨List.nodup_append.2 ⟨h.1, by simp, fun y hy z hz => ?_⟩, fun y hy => ?_⟩
  · simp at hz; subst hz; exact fun e => hx (e ▸ hy)
  · rcases List.mem_append.1 hy with hy | hy
    · exact h.2 y hy
    · simp at hy; subst hy; exact h0
/-- The object of a name counts. -/
def okc (os : List S45) (y : Bool) (x : Int) : Bool := !y || !(rd_T45 os (at_ os x)).f1
def addY (os : List S45) (y : Bool) (a : List Int) : List Int → List Int
  | [] => a
  | x :: xs => if at_ os x ≥ 0 ∧ x ∉ a ∧ okc os y x = true then addY os y (a ++ [x]) xs else addY os y a xs
theorem addY_app (os : List S45) (y : Bool) : ∀ (xs ys a : List Int), addY os y a (xs ++ ys) = addY os y (addY os y a xs) ys
  | [], ys, a => rfl
  | x :: xs, ys, a => by
    simp only [List.cons_append, addY]
    split <;> exact addY_app os y xs ys _
theorem addY_pre (os : List S45) (y : Bool) : ∀ (xs a : List Int), ∃ t, addY os y a xs = a ++ t
  | [], a => ⟨[], by simp [addY]⟩
  | x :: xs, a => by
    simp only [addY]
    split
    · obtain ⟨t, ht⟩ := addY_pre os y xs (a ++ [x])
      exact ⟨x :: t, by rw [ht]; simp⟩
    · exact addY_pre os y xs a
theorem addY_once {os : List S45} {y : Bool} : ∀ (xs a : List Int), Once os a → Once os (addY os y a xs)
  | [], a, h => h
  | x :: xs, a, h => by
    simp only [addY]
    split
    · rename_i hc
      exact addY_once xs _ (h.snoc hc.1 hc.2.1)
    · exact addY_once xs a h
section
variable (os : List S45) (rs nt : List Int) (nx : Int) (y : Bool) (hb : os.length ≤ 24) (hnm : ∀ o ∈ os, 0 ≤ o.f0)
include hb hnm
theorem at_iff (x : Int) (hl : link os x = true) : x ≥ 0 ↔ at_ os x ≥ 0 := by
  constructor
  · intro h
    unfold link at hl
    rcases (by simpa using hl : x = -1 ∨ 0 ≤ at_ os x) with e | e
    · omega
    · exact e
  · intro h
    obtain ⟨o, h1, h2⟩ := atI_mem 0 os x h
    have := hnm o h1
    omega
theorem young_okc (x : Int) (h : at_ os x ≥ 0) : young os x = !(rd_T45 os (at_ os x)).f1 := by unfold young; simp [h]
theorem reach_l2 (x10 : Int) (R : List Int) (l : List Int) (hl : l.length ≤ 10000000) : ∀ (post pre a : List Int), l = pre ++ post → Once os a → (∀ x ∈ post, link os x = true) →
    Ev (fun k => spec_l14Reach.l1 k y (addY os y a post) (wrap64 (x10 + 1)) os rs nt nx) R →
    Ev (fun k => spec_l14Reach.l2 k y a x10 l (l.length : Int) (pre.length : Int) os rs nt nx) R
  | [], pre, a, he, ha, hx, h => by
    have : l.length = pre.length := by rw [he]; simp
    refine Ev.step (fun k => by simp only [spec_l14Reach.l2]; rw [if_neg (by omega)]) ?_
    exact h
  | x :: post, pre, a, he, ha, hx, h => by
    have hn' : l.length = pre.length + (post.length + 1) := by rw [he]; simp
    have hr : rd l (pre.length : Int) = x := by rw [he]; exact rd_at rfl
    have hal := ha.len
    have ih := fun a' h1 h2 => reach_l2 x10 R l hl post (pre ++ [x]) a' (by simp [he]) h1 (fun y hy => hx y (by simp [hy])) h2
    have hat := at_iff os hb hnm x (hx x (by simp))
    refine Ev.step (fun k => by simp only [spec_l14Reach.l2]; rw [if_pos (by omega), if_pos (by omega), if_pos (by omega), hr, w_succ (by omega)]) ?_
    simp only [addY] at h
    by_cases h0 : x ≥ 0
    · refine ite_t h0 (bind_ev (spec_has a x (by omega)) ?_)
      have h0' := hat.1 h0
      by_cases hm : x ∈ a
      · refine ite_t ((has_iff a x).2 hm) ?_
        rw [if_neg (fun e => e.2.1 hm)] at h
        simpa using ih a ha h
      · refine ite_f (fun e => hm ((has_iff a x).1 e)) ?_
        cases hy : y with
        | false =>
          rw [hy] at h ih
          refine ite_f (by decide) (ite_t (by omega) ?_)
          rw [if_pos ⟨h0', hm, by simp [okc]⟩] at h
          simpa using ih _ (ha.snoc h0' hm) h
        | true =>
          rw [hy] at h ih
          refine ite_t rfl (bind_ev (spec_young os rs nt nx x (by omega)) ?_)
          rw [young_okc os hb hnm x h0']
          cases ho : (rd_T45 os (at_ os x)).f1 with
          | true =>
            refine ite_f (by simp) ?_
            rw [if_neg (fun e => by have := e.2.2; simp [okc, ho] at this)] at h
            simpa using ih a ha h
          | false =>
            refine ite_t (by simp) (ite_t (by omega) ?_)
            rw [if_pos ⟨h0', hm, by simp [okc, ho]⟩] at h
            simpa using ih _ (ha.snoc h0' hm) h
    · refine ite_f h0 ?_
      rw [if_neg (fun e => h0 (hat.2 e.1))] at h
      simpa using ih a ha h
theorem reach_l0 (R : List Int) (l : List Int) (hl : l.length ≤ 10000000) : ∀ (post pre a : List Int), l = pre ++ post → Once os a → (∀ x ∈ post, link os x = true) →
    Ev (fun k => spec_l14Reach.l1 k y (addY os y a post) 0 os rs nt nx) R →
    Ev (fun k => spec_l14Reach.l0 k y a l (l.length : Int) (pre.length : Int) os rs nt nx) R
  | [], pre, a, he, ha, hx, h => by
    have : l.length = pre.length := by rw [he]; simp
    refine Ev.step (fun k => by simp only [spec_l14Reach.l0]; rw [if_neg (by omega)]) ?_
    exact h
  | x :: post, pre, a, he, ha, hx, h => by
    have hn' : l.length = pre.length + (post.length + 1) := by rw [he]; simp
    have hr : rd l (pre.length : Int) = x := by rw [he]; exact rd_at rfl
    have hal := ha.len
    have ih := fun a' h1 h2 => reach_l0 R l hl post (pre ++ [x]) a' (by simp [he]) h1 (fun y hy => hx y (by simp [hy])) h2
    have hat := at_iff os hb hnm x (hx x (by simp))
    refine Ev.step (fun k => by simp only [spec_l14Reach.l0]; rw [if_pos (by omega), if_pos (by omega), if_pos (by omega), hr, w_succ (by omega)]) ?_
    simp only [addY] at h
    by_cases h0 : x ≥ 0
    · refine ite_t h0 (bind_ev (spec_has a x (by omega)) ?_)
      have h0' := hat.1 h0
      by_cases hm : x ∈ a
      · refine ite_t ((has_iff a x).2 hm) ?_
        rw [if_neg (fun e => e.2.1 hm)] at h
        simpa using ih a ha h
      · refine ite_f (fun e => hm ((has_iff a x).1 e)) ?_
        cases hy : y with
        | false =>
          rw [hy] at h ih
          refine ite_f (by decide) (ite_t (by omega) ?_)
          rw [if_pos ⟨h0', hm, by simp [okc]⟩] at h
          simpa using ih _ (ha.snoc h0' hm) h
        | true =>
          rw [hy] at h ih
          refine ite_t rfl (bind_ev (spec_young os rs nt nx x (by omega)) ?_)
          rw [young_okc os hb hnm x h0']
          cases ho : (rd_T45 os (at_ os x)).f1 with
          | true =>
            refine ite_f (by simp) ?_
            rw [if_neg (fun e => by have := e.2.2; simp [okc, ho] at this)] at h
            simpa using ih a ha h
          | false =>
            refine ite_t (by simp) (ite_t (by omega) ?_)
            rw [if_pos ⟨h0', hm, by simp [okc, ho]⟩] at h
            simpa using ih _ (ha.snoc h0' hm) h
    · refine ite_f h0 ?_
      rw [if_neg (fun e => h0 (hat.2 e.1))] at h
      simpa using ih a ha h
theorem reach_main (a2 : Nat) (hf : ∀ o : S45, fn_67.f a2 o.f0 o.f1 o.f2 = some (!y || !o.f1)) (hlk : ∀ o ∈ os, o.f2.length = 2 ∧ ∀ x ∈ o.f2, link os x = true) : ∀ (M : Nat) (out todo : List Int), M ≤ 9000000 → 3 * (os.length - out.length) + todo.length ≤ M → Once os out → (∀ x ∈ todo, link os x = true) →
    ∃ R : List Int, Once os R ∧ Ev (fun k => impl_Heap_from.l0 k a2 out todo os rs nt nx) (srt [] R) ∧ Ev (fun k => spec_l14Reach.l1 k y (addY os y out todo) (out.length : Int) os rs nt nx) R
  | M, out, [], hM, hm, ho, ht => by
    have hol := ho.len
    refine ⟨out, ho, ?_, ?_⟩
    · refine Ev.step (fun k => by simp only [impl_Heap_from.l0]; rw [if_neg (by simp)]) ?_
      exact bind_ev (sort_ev out (by omega) ho.1) (Ev.now _)
    · show Ev (fun k => spec_l14Reach.l1 k y out (out.length : Int) os rs nt nx) _
      refine Ev.step (fun k => by simp only [spec_l14Reach.l1]; rw [if_neg (show ¬ ((out.length : Int) < (out.length : Int)) by omega)]) ?_
      exact Ev.now _
  | 0, out, x :: rest, hM, hm, ho, ht => by simp at hm
  | M + 1, out, x :: rest, hM, hm, ho, ht => by
    have hol := ho.len
    simp only [List.length_cons] at hm
    have hx := ht x (by simp)
    have hrest : ∀ y ∈ rest, link os y = true := fun y hy => ht y (by simp [hy])
    have hr : rd (x :: rest) 0 = x := rd_at (pre := []) rfl
    have hd : (x :: rest).drop (1 : Int).toNat = rest := rfl
    have hlt := at_lt os x
    have step : ∀ {R : List Int}, Ev (fun k => if at_ os x ≥ 0 then (if 0 ≤ at_ os x then (if at_ os x < (os.length : Int) then ((fn_67.f a2 ((rd_T45 os (at_ os x)).f0) ((rd_T45 os (at_ os x)).f1) ((rd_T45 os (at_ os x)).f2)).bind fun t426 => (if t426 = true then ((slices_Contains_int_int.f k out x).bind fun t427 => (if t427 = true then (impl_Heap_from.l0 k a2 out rest os rs nt nx) else (if out.length < 17592186044416 then (if rest.length + ((rd_T45 os (at_ os x)).f2).length < 17592186044416 then (impl_Heap_from.l0 k a2 (out ++ [x]) (rest ++ ((rd_T45 os (at_ os x)).f2)) os rs nt nx) else (none)) else (none)))) else (impl_Heap_from.l0 k a2 out rest os rs nt nx))) else (none)) else (none)) else (impl_Heap_from.l0 k a2 out rest os rs nt nx)) R → Ev (fun k => impl_Heap_from.l0 k a2 out (x :: rest) os rs nt nx) R := by
      intro R h
      refine Ev.step (fun k => by simp only [impl_Heap_from.l0]; rw [hr, hd, if_pos (by simp; try omega), if_pos (by simp; try omega), if_pos (by simp; try omega), impl_at os rs nt nx x]) ?_
      exact bind_ev (Ev.now _) (bind_ev (Ev.now _) h)
    by_cases hc : at_ os x ≥ 0 ∧ x ∉ out ∧ okc os y x = true
    · obtain ⟨h0, hmem, hok⟩ := hc
      obtain ⟨l1, l2⟩ := hlk _ (rdT_mem os (at_ os x) h0 hlt)
      have ho' := ho.snoc h0 hmem
      have ho'l := ho'.len
      simp only [List.length_append, List.length_singleton] at ho'l
      have hrl : ∀ z ∈ rest ++ (rd_T45 os (at_ os x)).f2, link os z = true := fun z hz => by
        rcases List.mem_append.1 hz with hz | hz
        · exact hrest z hz
        · exact l2 z hz
      obtain ⟨R, hR, h1, h2⟩ := reach_main a2 hf hlk M (out ++ [x]) (rest ++ (rd_T45 os (at_ os x)).f2) (by omega) (by simp only [List.length_append, List.length_singleton, l1]; omega) ho' hrl
      refine ⟨R, hR, ?_, ?_⟩
      · refine step (ite_t h0 (ite_t h0 (ite_t hlt (bind_ev (const_ev (hf _)) (ite_t hok (bind_ev (impl_has out x (by omega)) (ite_f (fun e => hmem ((has_iff out x).1 e)) ?_)))))))
        exact ite_t (by omega) (ite_t (by omega) h1)
      · simp only [addY]; rw [if_pos ⟨h0, hmem, hok⟩]
        have hpre := addY_pre os y rest (out ++ [x])
        have hgood := addY_once (y := y) rest (out ++ [x]) ho'
        rw [addY_app] at h2
        obtain ⟨t, ht'⟩ := hpre
        generalize hSS : addY os y (out ++ [x]) rest = S at h2 ht' hgood ⊢
        have hrS : rd S (out.length : Int) = x := by rw [ht']; rw [List.append_assoc]; exact rd_at rfl
        have hSl : S.length = out.length + (1 + t.length) := by rw [ht']; simp; omega
        have hSlen := hgood.len
        refine Ev.step (fun k => by simp only [spec_l14Reach.l1]; rw [if_pos (by omega), if_pos (by omega), hrS]) ?_
        refine bind_ev (spec_at os rs nt nx x (by omega)) (ite_t h0 (ite_t hlt ?_))
        have := reach_l2 os rs nt nx y hb hnm (out.length : Int) R ((rd_T45 os (at_ os x)).f2) (by omega) ((rd_T45 os (at_ os x)).f2) [] S rfl hgood l2 (by
          rw [w_succ (by omega)]
          simpa using h2)
        exact this
    · obtain ⟨R, hR, h1, h2⟩ := reach_main a2 hf hlk M out rest (by omega) (by omega) ho hrest
      refine ⟨R, hR, ?_, ?_⟩
      · by_cases h0 : at_ os x ≥ 0
        · by_cases hok : okc os y x = true
          · by_cases hmem : x ∈ out
            · exact step (ite_t h0 (ite_t h0 (ite_t hlt (bind_ev (const_ev (hf _)) (ite_t hok (bind_ev (impl_has out x (by omega)) (ite_t ((has_iff out x).2 hmem) h1)))))))
            · exact absurd ⟨h0, hmem, hok⟩ hc
          · exact step (ite_t h0 (ite_t h0 (ite_t hlt (bind_ev (const_ev (hf _)) (ite_f hok h1)))))
        · exact step (ite_f h0 h1)
      · simp only [addY]; rw [if_neg hc]; exact h2
end
theorem objsOk_all {os : List S45} {nt : List Int} {n : Int} : ∀ (i : Nat) (l : List S45), objsOk os nt n i l = true → ∀ o ∈ l, 0 ≤ o.f0 ∧ o.f2.length = 2 ∧ ∀ x ∈ o.f2, link os x = true
  | _, [], _, o, ho => by simp at ho
  | i, p :: post, h, o, ho => by
    unfold objsOk at h
    simp only [Bool.and_eq_true] at h
    rcases List.mem_cons.1 ho with rfl | ho
    · have h1 := h.1
      unfold objOk objHd at h1
      simp only [Bool.and_eq_true, Bool.not_eq_true', decide_eq_false_iff_not, decide_eq_true_eq, List.all_eq_true] at h1
      refine ⟨by omega, h1.1.2, fun x hx => ?_⟩
      have := h1.2 x hx
      unfold lk at this
      simp only [Bool.and_eq_true] at this
      exact this.1
    · exact objsOk_all (i + 1) post h.2 o ho
theorem notedOk_at {os : List S45} {nt : List Int} : ∀ (i : Nat) (l : List Int), notedOk os nt i l = true → ∀ x ∈ l, at_ os x ≥ 0
  | _, [], _, x, hx => by simp at hx
  | i, z :: post, h, x, hx => by
    unfold notedOk at h
    simp only [Bool.and_eq_true, decide_eq_true_eq] at h
    rcases List.mem_cons.1 hx with rfl | hx
    · exact h.1.1.1
    · exact notedOk_at (i + 1) post h.2 x hx
theorem goodH_facts {os : List S45} {rs nt : List Int} {n : Int} (h : goodH os rs nt n = true) : os.length ≤ 24 ∧ rs.length = 6 ∧ (∀ o ∈ os, 0 ≤ o.f0 ∧ o.f2.length = 2 ∧ ∀ x ∈ o.f2, link os x = true) ∧ (∀ x ∈ rs, link os x = true) ∧ ∀ x ∈ nt, at_ os x ≥ 0 := by
  unfold goodH at h
  simp only [Bool.and_eq_true, Bool.not_eq_true', decide_eq_false_iff_not, decide_eq_true_eq, List.all_eq_true] at h
  obtain ⟨⟨⟨⟨⟨h1, h2⟩, _⟩, h3⟩, h4⟩, h5⟩ := h
  exact ⟨by omega, h2, objsOk_all 0 os h3, h4, notedOk_at 0 nt h5⟩
/-- From some names, both ways tell the same row. -/
theorem from_both (os : List S45) (rs nt : List Int) (n : Int) (y : Bool) (a2 : Nat) (hf : ∀ o : S45, fn_67.f a2 o.f0 o.f1 o.f2 = some (!y || !o.f1)) (hb : os.length ≤ 24) (ho : ∀ o ∈ os, 0 ≤ o.f0 ∧ o.f2.length = 2 ∧ ∀ x ∈ o.f2, link os x = true)
    (l : List Int) (hl : l.length ≤ 8000000) (hx : ∀ x ∈ l, link os x = true) :
    ∃ R : List Int, R.length ≤ 24 ∧ R.Nodup ∧ Ev (fun k => impl_Heap_from.f k os rs nt n l a2) (srt [] R) ∧ Ev (fun k => spec_l14Reach.f k os rs nt n l y) R := by
  have hnm : ∀ o ∈ os, 0 ≤ o.f0 := fun o h => (ho o h).1
  have h0 : Once os [] := ⟨by simp, by simp⟩
  obtain ⟨R, hR, e1, e2⟩ := reach_main os rs nt n y hb hnm a2 hf (fun o h => (ho o h).2) 9000000 [] l (by omega) (by simp; omega) h0 hx
  refine ⟨R, Nat.le_trans hR.len hb, hR.1, ?_, ?_⟩
  · unfold impl_Heap_from.f
    refine bind_ev (Ev.now _) (ite_t (by simp; omega) ?_)
    simpa using e1
  · unfold spec_l14Reach.f
    have := reach_l0 os rs nt n y hb hnm R l (by omega) l [] [] rfl h0 hx (by simpa using e2)
    simpa using this
end Go.Proofs.Ytnocadhibajaoaa.Pure
