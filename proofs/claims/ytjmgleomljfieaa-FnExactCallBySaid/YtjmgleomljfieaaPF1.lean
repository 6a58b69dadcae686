/- Worlds: what is found upwards, by the program and by the reference; who is below whom. Conditions: none. -/
import Derived.Test.YtjmgleomljfieaaPF0
import Derived.Test.YtjmgleomljfieaaQx0
import Derived.Test.YtjmgleomljfieaaQx4
import Derived.Test.YtjmgleomljfieaaQx7
set_option linter.unusedVariables false
set_option linter.unusedSimpArgs false
namespace Go.Proofs.Ytjmgleomljfieaa.Pure
open Go.RowKit Go.Proofs.Ytjmgleomljfieaa.Q Go.Proofs.YtjmgleomljfieaaW.PrintWords Go.Proofs.YtjmgleomljfieaaW.PrintLast Go.Proofs.Ytjmgleomljfieaa.Kit Go.Proofs.Ytjmgleomljfieaa.Wf

theorem rd_mem {l : List Int} {i : Int} (h0 : 0 ≤ i) (h : i < l.length) : rd l i ∈ l := by
  unfold rd; rw [List.getD_eq_getElem?_getD]
  have : i.toNat < l.length := by omega
  simp [this]

/-- What is found upwards from a class (0 for none), by both alike. -/
theorem find_both (ws : List S82) (st : Int) (hg : goodW ws st = true) (name : Int) (h0 : 0 ≤ name) (h4 : name ≤ 4) : ∀ (m : Nat) (i : Int), i < m → -1 ≤ i → i < ws.length →
    ∃ r : Int, Ev (fun k => spec_l12Find.l0 k i name ws st) r ∧ Ev (fun k => impl_World_find.l0 k i name ws st) r ∧ 0 ≤ r ∧ r ≤ 1000
  | 0, i, hm, h1, h2 => ⟨0, Ev.step (fun k => by simp only [spec_l12Find.l0]; rw [if_neg (by omega)]) (Ev.now _), Ev.step (fun k => by simp only [impl_World_find.l0]; rw [if_neg (by omega), if_pos (by omega)]) (Ev.now _), by omega, by omega⟩
  | m + 1, i, hm, h1, h2 => by
    by_cases hi : i < 0
    · exact ⟨0, Ev.step (fun k => by simp only [spec_l12Find.l0]; rw [if_neg (by omega)]) (Ev.now _), Ev.step (fun k => by simp only [impl_World_find.l0]; rw [if_neg (by omega), if_pos (by omega)]) (Ev.now _), by omega, by omega⟩
    · obtain ⟨j, rfl⟩ := Int.eq_ofNat_of_zero_le (show 0 ≤ i by omega)
      obtain ⟨c, hc, hrd⟩ := rdT82_some (ws := ws) (j := j) (by omega)
      have ok := classOk hg hc
      have hm5 : name < c.f1.length := by rw [ok.five]; omega
      have ht := ok.all _ (rd_mem h0 hm5)
      by_cases hz : rd c.f1 name = 0
      · obtain ⟨r, i1, i2, i3⟩ := find_both ws st hg name h0 h4 m c.f0 (by have := ok.hi; omega) ok.lo (by have := ok.hi; omega)
        refine ⟨r, ?_, ?_, i3⟩
        · refine Ev.step (fun k => by
            simp only [spec_l12Find.l0]
            rw [if_pos (by omega), if_pos (by omega), if_pos (by omega), if_pos h0, hrd, if_pos hm5, if_neg (by omega)]) i1
        · refine Ev.step (fun k => by
            simp only [impl_World_find.l0]
            rw [if_pos (by omega), if_pos (by omega), if_pos (by omega), if_pos h0, hrd, if_pos hm5, if_pos hz]) i2
      · refine ⟨rd c.f1 name, ?_, ?_, ht⟩
        · refine Ev.step (fun k => by
            simp only [spec_l12Find.l0]
            rw [if_pos (by omega), if_pos (by omega), if_pos (by omega), if_pos h0, hrd, if_pos hm5, if_pos (by omega)]) (Ev.now _)
        · refine Ev.step (fun k => by
            simp only [impl_World_find.l0]
            rw [if_pos (by omega), if_pos (by omega), if_pos (by omega), if_pos h0, hrd, if_pos hm5, if_neg hz, if_neg (by omega)]) (Ev.now _)
end Go.Proofs.Ytjmgleomljfieaa.Pure
