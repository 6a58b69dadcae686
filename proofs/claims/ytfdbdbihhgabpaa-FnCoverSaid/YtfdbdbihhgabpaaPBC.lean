/- BestCover: the program and the reference answer alike. Conditions: none. -/
import Derived.Test.YtfdbdbihhgabpaaPGood
import Derived.Test.YtfdbdbihhgabpaaDataN
import Derived.Test.YtfdbdbihhgabpaaQx0
import Derived.Test.YtfdbdbihhgabpaaQx3
import Derived.Test.YtfdbdbihhgabpaaQx4
import Derived.Test.YtfdbdbihhgabpaaQx6
import Derived.Test.YtfdbdbihhgabpaaQx7
set_option linter.unusedVariables false
set_option linter.unusedSimpArgs false
set_option linter.unusedSectionVars false
namespace Go.Proofs.Ytfdbdbihhgabpaa.Pure
open Go.RowKit Go.Proofs.Ytfdbdbihhgabpaa.Q Go.Proofs.YtfdbdbihhgabpaaW.PrintWords Go.Proofs.YtfdbdbihhgabpaaW.PrintLast Go.Proofs.Ytfdbdbihhgabpaa.Kit Go.Proofs.Ytfdbdbihhgabpaa.Wf

theorem szAt_le (t : List Int) (q : Nat) : szAt t q ≤ t.length := by
  unfold szAt
  split
  · simp; omega
  · omega
section
variable (t : List Int) (l : List S57) (F : List Int) (ht : TreeOk t) (hl : l.length ≤ 1000) (hp : ∀ p ∈ l, KindsOk p.f0) (hF : F.length = t.length)
include ht hl hp hF
theorem lay39_neg (out : List S63) (q : Nat) (rest : List Int) (hq : q < t.length) (ho : out.length ≤ 1000) (hn : rd F q < 0) : Ev (fun k => impl_lay_39.l0 k t l out ((q : Int) :: rest) F) (out ++ [⟨q, rd F q⟩]) := by
  have h0 : rd ((q : Int) :: rest) 0 = q := rfl
  refine Ev.step (fun k => by simp only [impl_lay_39.l0]; rw [if_pos (by simp), if_pos (by simp), h0]) ?_
  refine bind_ev (a := rd F q) (const_ev ?_) (ite_t (by omega) (bind_ev (Ev.now _) (ite_t hn (Ev.now _))))
  unfold impl_BestCover_1.f
  rw [if_pos (by omega), if_pos (by omega)]
theorem lay39_pos (out : List S63) (q : Nat) (rest : List Int) (R : List S63) (hq : q < t.length) (ho : out.length ≤ 1000) (hr : rest.length ≤ 1000) (hg : rd F q ≥ 0) (hl2 : rd F q < l.length) (h : Ev (fun k => impl_lay_39.l0 k t l (out ++ [⟨q, rd F q⟩]) ((fitAt t q (rd_T57 l (rd F q))).1 ++ rest) F) R) : Ev (fun k => impl_lay_39.l0 k t l out ((q : Int) :: rest) F) R := by
  have h0 : rd ((q : Int) :: rest) 0 = q := rfl
  have hpk := hp _ (rdT_mem l _ hg hl2)
  have hfl : (fitAt t q (rd_T57 l (rd F q))).1.length ≤ 10 := by
    have := fitF_len t.length (rd_T57 l (rd F q)).f0 (t.drop q) []
    have := hpk.2.1
    unfold fitAt; simp at *; omega
  refine Ev.step (fun k => by simp only [impl_lay_39.l0]; rw [if_pos (by simp), if_pos (by simp), h0]) ?_
  refine bind_ev (a := rd F q) (const_ev ?_) (ite_t (by omega) (bind_ev (Ev.now _) (ite_f (by omega) (ite_t hg (ite_t hl2 (bind_ev (impl_fits t q _ ht hq hpk) (ite_t (by simp; omega) (bind_ev (Ev.now _) (ite_t ?_ h)))))))))
  · unfold impl_BestCover_1.f
    rw [if_pos (by omega), if_pos (by omega)]
  · simp; omega
end
theorem covF_ok (t : List Int) (l : List S57) (ht : TreeOk t) (hp : ∀ p ∈ l, KindsOk p.f0) : Inv t l (cov0 t l t.length (List.replicate t.length 0, List.replicate t.length 0)).2 0 ∧ (cov0 t l t.length (List.replicate t.length 0, List.replicate t.length 0)).2.length = t.length ∧ (cov0 t l t.length (List.replicate t.length 0, List.replicate t.length 0)).1.length = t.length := by
  have := cov0_inv hp t.length (List.replicate t.length 0) (List.replicate t.length 0) (Nat.le_refl _) (by simp) (fun q hq hql _ => by omega)
  simpa using this
theorem best_both (t : List Int) (l : List S57) (hb : t.length ≤ 1048576) (hb2 : l.length ≤ 1048576) :
    ∃ o : List S63 × Int × Bool, o.1.length ≤ 40 ∧ Ev (fun k => spec_BestCover.f k t l) o ∧ Ev (fun k => impl_BestCover.f k t l) o := by
  unfold spec_BestCover.f impl_BestCover.f
  have sj : ∀ (r : List S63 × Int × Bool), r = ([], 0, false) → Ev (fun k => spec_BestCover.j0 k t l true) r ∧ Ev (fun k => impl_BestCover.j0 k t l true) r := by
    intro r hr
    subst hr
    exact ⟨Ev.step (fun k => by simp only [spec_BestCover.j0]; rw [if_pos trivial]) (Ev.now _), Ev.step (fun k => by simp only [impl_BestCover.j0]; rw [if_pos trivial]) (Ev.now _)⟩
  by_cases h1 : treeB t = true
  · by_cases h2 : patsB l = true
    · have ht := treeB_ok h1
      obtain ⟨hl, hp2⟩ := patsB_ok h2
      have hp : ∀ p ∈ l, KindsOk p.f0 := fun p h => (hp2 p h).1
      have hb' := ht.2.1
      have hb0 := ht.1
      obtain ⟨hI, hF, hC⟩ := covF_ok t l ht hp
      have s1 := spec_cov t l ht (by omega) hp
      have i1 := impl_cov t l ht (by omega) hp
      revert hI hF hC s1 i1
      generalize cov0 t l t.length (List.replicate t.length 0, List.replicate t.length 0) = CF
      obtain ⟨C, F⟩ := CF
      simp only
      intro hI hF hC s1 i1
      have hV : ∀ q : Nat, q < t.length → rd F q ≥ 0 → rd F q < l.length ∧ (fitAt t q (rd_T57 l (rd F q))).2 = true := fun q hq h => ⟨(hI q (by omega) hq h).1, (hI q (by omega) hq h).2.1⟩
      have hW : Whole t l F := fun q hq h => (hI q (by omega) hq h).2.2
      have key : ∃ o : List S63 × Int × Bool, o.1.length ≤ 40 ∧ Ev (fun k => (spec_l9Pieces.f k t l 0 F []).bind fun bt => if bt.2 = true then (if 0 < (C.length : Int) then some (bt.1, rd C 0, true) else none) else some ([], 0, false)) o ∧
          Ev (fun k => if rd F 0 < 0 then some ([], 0, false) else (impl_lay_39.f k t l F).bind fun x => if 0 < (C.length : Int) then some (x, rd C 0, true) else none) o := by
        by_cases hn : rd F 0 < 0
        · refine ⟨([], 0, false), by simp, bind_ev (a := ([], false)) (Ev.step (fun k => by simp only [spec_l9Pieces.f]; rw [if_pos (by omega), if_pos (by omega), if_pos hn]) (Ev.now _)) (ite_f (by simp) (Ev.now _)), ite_t hn (Ev.now _)⟩
        · have hz := szAt_le t 0
          rcases (lay_both t l F ht (by omega) hp hF hV (fun k out left => impl_lay_39.l0 k t l out left F) (fun out q rest => lay39_neg t l F ht (by omega) hp hF out q rest) (fun out q rest R => lay39_pos t l F ht (by omega) hp hF out q rest R) (szAt t 0)).1 0 [] (by omega) (Nat.le_refl _) (by simp; omega) with ⟨ps, p1, p2, p3, p4⟩ | ⟨ps, x, p1, p2, p3, p4, p5, p6⟩
          · refine ⟨(ps, rd C 0, true), by simp only; omega, bind_ev p3 (ite_t rfl (ite_t (by omega) (some_ev (by simp)))), ite_f hn (bind_ev ?_ (ite_t (by omega) (Ev.now _)))⟩
            have := p4 [] ps (by simp; omega) (Ev.step (fun k => by simp only [impl_lay_39.l0]; rw [if_neg (by simp)]) (some_ev (by simp)))
            unfold impl_lay_39.f
            simpa using this
          · exact absurd (p4 hW) hn
      obtain ⟨o, ho, e1, e2⟩ := key
      refine ⟨o, ho, ?_, ?_⟩
      · refine bind_ev (spec_tree t hb) (ite_t h1 (bind_ev (spec_pats l hb2) ?_))
        rw [h2]
        refine Ev.step (fun k => by simp only [spec_BestCover.j0]; rw [if_neg (by simp)]) ?_
        exact bind_ev s1 e1
      · refine bind_ev (impl_tree t hb) (ite_t h1 (bind_ev (impl_pats l) ?_))
        rw [h2]
        refine Ev.step (fun k => by simp only [impl_BestCover.j0]; rw [if_neg (by simp)]) ?_
        exact bind_ev i1 (ite_t (by simp only; omega) e2)
    · obtain ⟨a, b⟩ := sj _ rfl
      have h2' : patsB l = false := by simpa using h2
      refine ⟨([], 0, false), by simp, bind_ev (spec_tree t hb) (ite_t h1 (bind_ev (spec_pats l hb2) ?_)), bind_ev (impl_tree t hb) (ite_t h1 (bind_ev (impl_pats l) ?_))⟩
      · rw [h2']; exact a
      · rw [h2']; exact b
  · obtain ⟨a, b⟩ := sj _ rfl
    exact ⟨([], 0, false), by simp, bind_ev (spec_tree t hb) (ite_f h1 a), bind_ev (impl_tree t hb) (ite_f h1 b)⟩
end Go.Proofs.Ytfdbdbihhgabpaa.Pure
