/- SameShape: the order that the shape's walk makes is the reference's reach. Conditions: none. -/
import Derived.Test.YtnocadhibajaoaaPFa
import Derived.Test.YtnocadhibajaoaaPShp
import Derived.Test.YtnocadhibajaoaaQx0
import Derived.Test.YtnocadhibajaoaaQx4
set_option linter.unusedVariables false
set_option linter.unusedSimpArgs false
set_option linter.unusedSectionVars false
namespace Go.Proofs.Ytnocadhibajaoaa.Pure
open Go.RowKit Go.Proofs.Ytnocadhibajaoaa.Q Go.Proofs.YtnocadhibajaoaaW.PrintWords Go.Proofs.YtnocadhibajaoaaW.PrintLast Go.Proofs.Ytnocadhibajaoaa.Kit
/-- The links of a name's object. -/
def lks (os : List S45) (x : Int) : List Int := (rd_T45 os (at_ os x)).f2
/-- The walk over the order: place, order, told so far; whole order, told in the end. -/
inductive ShR (os : List S45) : Nat → List Int → List Int → List Int → List Int → Prop
  | done {i : Nat} {a out : List Int} : i = a.length → ShR os i a out a out
  | step {i : Nat} {a out R o : List Int} {x : Int} : a[i]? = some x → ShR os (i + 1) (numL a (lks os x)).1 (out ++ (numL a (lks os x)).2) R o → ShR os i a out R o
section
variable (os : List S45) (rs nt : List Int) (nx : Int) (hb : os.length ≤ 24) (hnm : ∀ o ∈ os, 0 ≤ o.f0)
include hb hnm
theorem num_addY (a : List Int) (x : Int) (xs : List Int) (hx : link os x = true) : addY os false (num a x).1 xs = addY os false a (x :: xs) := by
  have hat := at_iff os hb hnm x hx
  unfold num
  show _ = if at_ os x ≥ 0 ∧ x ∉ a ∧ okc os false x = true then addY os false (a ++ [x]) xs else addY os false a xs
  by_cases h : x < 0
  · rw [if_pos h, if_neg (fun e => by have := hat.2 e.1; omega)]
  · rw [if_neg h]
    by_cases hm : x ∈ a
    · rw [if_pos hm, if_neg (fun e => e.2.1 hm)]
    · rw [if_neg hm, if_pos ⟨hat.1 (by omega), hm, by simp [okc]⟩]
theorem numL_addY : ∀ (xs a : List Int), (∀ x ∈ xs, link os x = true) → (numL a xs).1 = addY os false a xs
  | [], a, _ => rfl
  | x :: xs, a, h => by
    show (numL (num a x).1 xs).1 = _
    rw [numL_addY xs _ (fun y hy => h y (by simp [hy])), num_addY os hb hnm a x xs (h x (by simp))]
theorem once_pos {a : List Int} (h : Once os a) : ∀ x ∈ a, 0 ≤ x := by
  intro x hx
  obtain ⟨o, h1, h2⟩ := atI_mem 0 os x (h.2 x hx)
  have := hnm o h1
  omega
theorem shape_walk (hlk : ∀ o ∈ os, o.f2.length = 2 ∧ ∀ x ∈ o.f2, link os x = true) : ∀ (M i : Nat) (a : List Int), Once os a → i ≤ a.length → os.length - i ≤ M →
    ∃ R : List Int, Once os R ∧ (∃ u, R = a ++ u) ∧ Ev (fun k => spec_l14Reach.l1 k false a (i : Int) os rs nt nx) R ∧ ∀ out, ShR os i a out R (out ++ (R.drop i).flatMap fun x => (lks os x).map (nm R)) := by
  intro M
  induction M with
  | zero =>
    intro i a ha hi hM
    have hal := ha.len
    have e : i = a.length := by omega
    refine ⟨a, ha, ⟨[], by simp⟩, ?_, fun out => ?_⟩
    · refine Ev.step (fun k => by simp only [spec_l14Reach.l1]; rw [if_neg (show ¬ ((i : Int) < (a.length : Int)) by omega)]) ?_
      exact Ev.now _
    · subst e
      simp only [List.drop_length, List.flatMap_nil, List.append_nil]
      exact ShR.done rfl
  | succ M ih =>
    intro i a ha hi hM
    have hal := ha.len
    by_cases e : i = a.length
    · refine ⟨a, ha, ⟨[], by simp⟩, ?_, fun out => ?_⟩
      · refine Ev.step (fun k => by simp only [spec_l14Reach.l1]; rw [if_neg (show ¬ ((i : Int) < (a.length : Int)) by omega)]) ?_
        exact Ev.now _
      · subst e
        simp only [List.drop_length, List.flatMap_nil, List.append_nil]
        exact ShR.done rfl
    · have hlt : i < a.length := by omega
      obtain ⟨x, hx⟩ : ∃ x, a[i]? = some x := ⟨a[i], List.getElem?_eq_getElem hlt⟩
      have hxm : x ∈ a := List.mem_of_getElem? hx
      have hrd : rd a (i : Int) = x := by unfold rd; rw [Int.toNat_natCast, List.getD_eq_getElem?_getD, hx]; rfl
      have hat := ha.2 x hxm
      have hal2 := at_lt os x
      have hom := rdT_mem os (at_ os x) hat hal2
      obtain ⟨hl2, hll⟩ := hlk _ hom
      have hnu := numL_addY os hb hnm (lks os x) a hll
      obtain ⟨u, hu⟩ := numL_pre (lks os x) a
      have hon := addY_once (y := false) (lks os x) a ha
      rw [← hnu] at hon
      obtain ⟨R, hR, ⟨v, hv⟩, hev, hsh⟩ := ih (i + 1) (numL a (lks os x)).1 hon (by rw [hu]; simp; omega) (by omega)
      refine ⟨R, hR, ⟨u ++ v, by rw [hv, hu]; simp⟩, ?_, fun out => ?_⟩
      · refine Ev.step (fun k => by simp only [spec_l14Reach.l1]; rw [if_pos (show (i : Int) < (a.length : Int) by omega), if_pos (show (0 : Int) ≤ (i : Int) by omega), hrd]) ?_
        refine bind_ev (spec_at os rs nt nx x (by omega)) (ite_t hat (ite_t hal2 ?_))
        have := reach_l2 os rs nt nx false hb hnm (i : Int) R (lks os x) (by show (rd_T45 os (at_ os x)).f2.length ≤ _; omega) (lks os x) [] a rfl ha hll (by rw [← hnu, w_succ (by omega)]; exact hev)
        simp only [List.length_nil, Int.natCast_zero] at this
        exact this
      · refine ShR.step hx ?_
        have h1 := hsh (out ++ (numL a (lks os x)).2)
        have hRp := once_pos os hb hnm hR
        have h2 := numL_nm (lks os x) a (u ++ v) (by rw [← List.append_assoc, ← hu, ← hv]; exact hRp) ⟨v, by rw [hu]; simp⟩
        have eR : a ++ (u ++ v) = R := by rw [hv, hu]; simp
        rw [eR] at h2
        have hxR : R[i]? = some x := by rw [← eR, List.getElem?_append_left hlt]; exact hx
        have hdr : R.drop i = x :: R.drop (i + 1) := by
          obtain ⟨hl, he⟩ := List.getElem?_eq_some_iff.1 hxR
          rw [List.drop_eq_getElem_cons hl, he]
        rw [hdr, List.flatMap_cons, ← List.append_assoc, ← h2]
        exact h1
end
end Go.Proofs.Ytnocadhibajaoaa.Pure
