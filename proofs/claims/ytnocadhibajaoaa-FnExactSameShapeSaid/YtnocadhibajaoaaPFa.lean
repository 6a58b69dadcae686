/- The reference's reach, step by step. Conditions: none. -/
import Derived.Test.YtnocadhibajaoaaPH
import Derived.Test.YtnocadhibajaoaaQx0
import Derived.Test.YtnocadhibajaoaaQx4
set_option linter.unusedVariables false
set_option linter.unusedSimpArgs false
set_option linter.unusedSectionVars false
namespace Go.Proofs.Ytnocadhibajaoaa.Pure
open Go.RowKit Go.Proofs.Ytnocadhibajaoaa.Q Go.Proofs.YtnocadhibajaoaaW.PrintWords Go.Proofs.YtnocadhibajaoaaW.PrintLast Go.Proofs.Ytnocadhibajaoaa.Kit
theorem nodup_le {α : Type} [DecidableEq α] : ∀ (l s : List α), l.Nodup → (∀ x ∈ l, x ∈ s) → l.length ≤ s.length
  | [], s, _, _ => by simp
  | x :: l, s, hn, hs => by
    have hx := hs x (by simp)
    have h1 := nodup_le l (s.erase x) (List.nodup_cons.1 hn).2 (fun y hy => by
      have hne : y ≠ x := fun e => (List.nodup_cons.1 hn).1 (e ▸ hy)
      exact (List.mem_erase_of_ne hne).2 (hs y (by simp [hy])))
    have h2 := List.length_erase_of_mem hx
    have h3 : 0 < s.length := List.length_pos_of_mem hx
    simp only [List.length_cons]
    omega
theorem has_iff (l : List Int) (x : Int) : has l x = true ↔ x ∈ l := by
  unfold has; simp
theorem atI_mem : ∀ (i : Nat) (os : List S45) (x : Int), atI i os x ≥ 0 → ∃ o ∈ os, o.f0 = x
  | i, [], x, h => by simp [atI] at h
  | i, o :: os, x, h => by
    unfold atI at h
    split at h
    · rename_i he; exact ⟨o, by simp, he⟩
    · obtain ⟨o', h1, h2⟩ := atI_mem (i + 1) os x h
      exact ⟨o', by simp [h1], h2⟩
theorem rdT_mem (os : List S45) (t : Int) (h0 : 0 ≤ t) (h1 : t < os.length) : rd_T45 os t ∈ os := by
  obtain ⟨n, rfl⟩ := Int.eq_ofNat_of_zero_le h0
  have hn : n < os.length := by omega
  have h5 : rd_T45 (os.take n ++ os[n] :: os.drop (n + 1)) ((n : Nat) : Int) = os[n] := rdat_T45 (by simp; omega)
  have e : os = os.take n ++ os[n] :: os.drop (n + 1) := by simp
  rw [← e] at h5
  rw [h5]
  exact List.getElem_mem hn
/-- Names that are taken once each. -/
def Once (os : List S45) (a : List Int) : Prop := a.Nodup ∧ ∀ x ∈ a, at_ os x ≥ 0
theorem Once.len {os : List S45} {a : List Int} (h : Once os a) : a.length ≤ os.length := by
  have := nodup_le a (os.map (·.f0)) h.1 (fun x hx => by
    obtain ⟨o, h1, h2⟩ := atI_mem 0 os x (h.2 x hx)
    exact List.mem_map.2 ⟨o, h1, h2⟩)
  simpa using this
theorem Once.snoc {os : List S45} {a : List Int} {x : Int} (h : Once os a) (h0 : at_ os x ≥ 0) (hx : x ∉ a) : Once os (a ++ [x]) := by
  refine ⟨List.nodup_append.2 ⟨h.1, by simp, fun y hy z hz => ?_⟩, fun y hy => ?_⟩
  · simp at hz; subst hz; exact fun e => hx (e ▸ hy)
  · rcases List.mem_append.1 hy with hy | hy
    · exact h.2 y hy
    · simp at hy; subst hy; exact h0
/-- The object of a name counts. -/
def okc (os : List S45) (y : Bool) (x : Int) : Bool := !y || !(rd_T45 os (at_ os x)).f1
def addY (os : List S45) (y : Bool) (a : List Int) : List Int → List Int
  | [] => a
  | x :: xs => if at_ os x ≥ 0 ∧ x ∉ a ∧ okc os y x = true then addY os y (a ++ [x]) xs else addY os y a xs
theorem addY_app (os : List S45) (y : Bool) : ∀ (xs ys a : List Int), addY os y a (xs ++ ys) = addY os y (addY os y a xs) ys
  | [], ys, a => rfl
  | x :: xs, ys, a => by
    simp only [List.cons_append, addY]
    split <;> exact addY_app os y xs ys _
theorem addY_pre (os : List S45) (y : Bool) : ∀ (xs a : List Int), ∃ t, addY os y a xs = a ++ t
  | [], a => ⟨[], by simp [addY]⟩
  | x :: xs, a => by
    simp only [addY]
    split
    · obtain ⟨t, ht⟩ := addY_pre os y xs (a ++ [x])
      exact ⟨x :: t, by rw [ht]; simp⟩
    · exact addY_pre os y xs a
theorem addY_once {os : List S45} {y : Bool} : ∀ (xs a : List Int), Once os a → Once os (addY os y a xs)
  | [], a, h => h
  | x :: xs, a, h => by
    simp only [addY]
    split
    · rename_i hc
      exact addY_once xs _ (h.snoc hc.1 hc.2.1)
    · exact addY_once xs a h
section
variable (os : List S45) (rs nt : List Int) (nx : Int) (y : Bool) (hb : os.length ≤ 24) (hnm : ∀ o ∈ os, 0 ≤ o.f0)
include hb hnm
theorem at_iff (x : Int) (hl : link os x = true) : x ≥ 0 ↔ at_ os x ≥ 0 := by
  constructor
  · intro h
    unfold link at hl
    rcases (by simpa using hl : x = -1 ∨ 0 ≤ at_ os x) with e | e
    · omega
    · exact e
  · intro h
    obtain ⟨o, h1, h2⟩ := atI_mem 0 os x h
    have := hnm o h1
    omega
theorem young_okc (x : Int) (h : at_ os x ≥ 0) : young os x = !(rd_T45 os (at_ os x)).f1 := by unfold young; simp [h]
theorem reach_l2 (x10 : Int) (R : List Int) (l : List Int) (hl : l.length ≤ 10000000) : ∀ (post pre a : List Int), l = pre ++ post → Once os a → (∀ x ∈ post, link os x = true) →
    Ev (fun k => spec_l14Reach.l1 k y (addY os y a post) (wrap64 (x10 + 1)) os rs nt nx) R →
    Ev (fun k => spec_l14Reach.l2 k y a x10 l (l.length : Int) (pre.length : Int) os rs nt nx) R
  | [], pre, a, he, ha, hx, h => by
    have : l.length = pre.length := by rw [he]; simp
    refine Ev.step (fun k => by simp only [spec_l14Reach.l2]; rw [if_neg (by omega)]) ?_
    exact h
  | x :: post, pre, a, he, ha, hx, h => by
    have hn' : l.length = pre.length + (post.length + 1) := by rw [he]; simp
    have hr : rd l (pre.length : Int) = x := by rw [he]; exact rd_at rfl
    have hal := ha.len
    have ih := fun a' h1 h2 => reach_l2 x10 R l hl post (pre ++ [x]) a' (by simp [he]) h1 (fun y hy => hx y (by simp [hy])) h2
    have hat := at_iff os hb hnm x (hx x (by simp))
    refine Ev.step (fun k => by simp only [spec_l14Reach.l2]; rw [if_pos (by omega), if_pos (by omega), if_pos (by omega), hr, w_succ (by omega)]) ?_
    simp only [addY] at h
    by_cases h0 : x ≥ 0
    · refine ite_t h0 (bind_ev (spec_has a x (by omega)) ?_)
      have h0' := hat.1 h0
      by_cases hm : x ∈ a
      · refine ite_t ((has_iff a x).2 hm) ?_
        rw [if_neg (fun e => e.2.1 hm)] at h
        simpa using ih a ha h
      · refine ite_f (fun e => hm ((has_iff a x).1 e)) ?_
        cases hy : y with
        | false =>
          rw [hy] at h ih
          refine ite_f (by decide) (ite_t (by omega) ?_)
          rw [if_pos ⟨h0', hm, by simp [okc]⟩] at h
          simpa using ih _ (ha.snoc h0' hm) h
        | true =>
          rw [hy] at h ih
          refine ite_t rfl (bind_ev (spec_young os rs nt nx x (by omega)) ?_)
          rw [young_okc os hb hnm x h0']
          cases ho : (rd_T45 os (at_ os x)).f1 with
          | true =>
            refine ite_f (by simp) ?_
            rw [if_neg (fun e => by have := e.2.2; simp [okc, ho] at this)] at h
            simpa using ih a ha h
          | false =>
            refine ite_t (by simp) (ite_t (by omega) ?_)
            rw [if_pos ⟨h0', hm, by simp [okc, ho]⟩] at h
            simpa using ih _ (ha.snoc h0' hm) h
    · refine ite_f h0 ?_
      rw [if_neg (fun e => h0 (hat.2 e.1))] at h
      simpa using ih a ha h
theorem reach_l0 (R : List Int) (l : List Int) (hl : l.length ≤ 10000000) : ∀ (post pre a : List Int), l = pre ++ post → Once os a → (∀ x ∈ post, link os x = true) →
    Ev (fun k => spec_l14Reach.l1 k y (addY os y a post) 0 os rs nt nx) R →
    Ev (fun k => spec_l14Reach.l0 k y a l (l.length : Int) (pre.length : Int) os rs nt nx) R
  | [], pre, a, he, ha, hx, h => by
    have : l.length = pre.length := by rw [he]; simp
    refine Ev.step (fun k => by simp only [spec_l14Reach.l0]; rw [if_neg (by omega)]) ?_
    exact h
  | x :: post, pre, a, he, ha, hx, h => by
    have hn' : l.length = pre.length + (post.length + 1) := by rw [he]; simp
    have hr : rd l (pre.length : Int) = x := by rw [he]; exact rd_at rfl
    have hal := ha.len
    have ih := fun a' h1 h2 => reach_l0 R l hl post (pre ++ [x]) a' (by simp [he]) h1 (fun y hy => hx y (by simp [hy])) h2
    have hat := at_iff os hb hnm x (hx x (by simp))
    refine Ev.step (fun k => by simp only [spec_l14Reach.l0]; rw [if_pos (by omega), if_pos (by omega), if_pos (by omega), hr, w_succ (by omega)]) ?_
    simp only [addY] at h
    by_cases h0 : x ≥ 0
    · refine ite_t h0 (bind_ev (spec_has a x (by omega)) ?_)
      have h0' := hat.1 h0
      by_cases hm : x ∈ a
      · refine ite_t ((has_iff a x).2 hm) ?_
        rw [if_neg (fun e => e.2.1 hm)] at h
        simpa using ih a ha h
      · refine ite_f (fun e => hm ((has_iff a x).1 e)) ?_
        cases hy : y with
        | false =>
          rw [hy] at h ih
          refine ite_f (by decide) (ite_t (by omega) ?_)
          rw [if_pos ⟨h0', hm, by simp [okc]⟩] at h
          simpa using ih _ (ha.snoc h0' hm) h
        | true =>
          rw [hy] at h ih
          refine ite_t rfl (bind_ev (spec_young os rs nt nx x (by omega)) ?_)
          rw [young_okc os hb hnm x h0']
          cases ho : (rd_T45 os (at_ os x)).f1 with
          | true =>
            refine ite_f (by simp) ?_
            rw [if_neg (fun e => by have := e.2.2; simp [okc, ho] at this)] at h
            simpa using ih a ha h
          | false =>
            refine ite_t (by simp) (ite_t (by omega) ?_)
            rw [if_pos ⟨h0', hm, by simp [okc, ho]⟩] at h
            simpa using ih _ (ha.snoc h0' hm) h
    · refine ite_f h0 ?_
      rw [if_neg (fun e => h0 (hat.2 e.1))] at h
      simpa using ih a ha h
end
theorem objsOk_all {os : List S45} {nt : List Int} {n : Int} : ∀ (i : Nat) (l : List S45), objsOk os nt n i l = true → ∀ o ∈ l, 0 ≤ o.f0 ∧ o.f2.length = 2 ∧ ∀ x ∈ o.f2, link os x = true
  | _, [], _, o, ho => by simp at ho
  | i, p :: post, h, o, ho => by
    unfold objsOk at h
    simp only [Bool.and_eq_true] at h
    rcases List.mem_cons.1 ho with rfl | ho
    · have h1 := h.1
      unfold objOk objHd at h1
      simp only [Bool.and_eq_true, Bool.not_eq_true', decide_eq_false_iff_not, decide_eq_true_eq, List.all_eq_true] at h1
      refine ⟨by omega, h1.1.2, fun x hx => ?_⟩
      have := h1.2 x hx
      unfold lk at this
      simp only [Bool.and_eq_true] at this
      exact this.1
    · exact objsOk_all (i + 1) post h.2 o ho
theorem notedOk_at {os : List S45} {nt : List Int} : ∀ (i : Nat) (l : List Int), notedOk os nt i l = true → ∀ x ∈ l, at_ os x ≥ 0
  | _, [], _, x, hx => by simp at hx
  | i, z :: post, h, x, hx => by
    unfold notedOk at h
    simp only [Bool.and_eq_true, decide_eq_true_eq] at h
    rcases List.mem_cons.1 hx with rfl | hx
    · exact h.1.1.1
    · exact notedOk_at (i + 1) post h.2 x hx
theorem goodH_facts {os : List S45} {rs nt : List Int} {n : Int} (h : goodH os rs nt n = true) : os.length ≤ 24 ∧ rs.length = 6 ∧ (∀ o ∈ os, 0 ≤ o.f0 ∧ o.f2.length = 2 ∧ ∀ x ∈ o.f2, link os x = true) ∧ (∀ x ∈ rs, link os x = true) ∧ ∀ x ∈ nt, at_ os x ≥ 0 := by
  unfold goodH at h
  simp only [Bool.and_eq_true, Bool.not_eq_true', decide_eq_false_iff_not, decide_eq_true_eq, List.all_eq_true] at h
  obtain ⟨⟨⟨⟨⟨h1, h2⟩, _⟩, h3⟩, h4⟩, h5⟩ := h
  exact ⟨by omega, h2, objsOk_all 0 os h3, h4, notedOk_at 0 nt h5⟩
end Go.Proofs.Ytnocadhibajaoaa.Pure
