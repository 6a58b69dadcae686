/- Worlds: what is found upwards, by the program and by the reference; who is below whom. Conditions: none. -/
import Derived.Test.YtjmgleomljfieaaPW0
import Derived.Test.YtjmgleomljfieaaQx0
import Derived.Test.YtjmgleomljfieaaQx4
set_option linter.unusedVariables false
set_option linter.unusedSimpArgs false
namespace Go.Proofs.Ytjmgleomljfieaa.Pure
open Go.RowKit Go.Proofs.Ytjmgleomljfieaa.Q Go.Proofs.YtjmgleomljfieaaW.PrintWords Go.Proofs.YtjmgleomljfieaaW.PrintLast Go.Proofs.Ytjmgleomljfieaa.Kit Go.Proofs.Ytjmgleomljfieaa.Wf

theorem goodCs_at : ∀ (cs : List S82) (i j : Nat) (c : S82), goodCs i cs = true → cs[j]? = some c → goodC (i + j) c = true
  | [], i, j, c, h, hc => by simp at hc
  | d :: cs, i, 0, c, h, hc => by
    simp only [goodCs, Bool.and_eq_true] at h
    simp at hc; subst hc; exact h.1
  | d :: cs, i, j + 1, c, h, hc => by
    simp only [goodCs, Bool.and_eq_true] at h
    have := goodCs_at cs (i + 1) j c h.2 (by simpa using hc)
    rwa [show i + 1 + j = i + (j + 1) by omega] at this
theorem rdT82_some {ws : List S82} {j : Nat} (h : j < ws.length) : ∃ c, ws[j]? = some c ∧ rd_T82 ws (j : Int) = c :=
  ⟨ws[j], by simp [h], by unfold rd_T82; rw [Int.toNat_natCast, List.getD_eq_getElem?_getD]; simp [h]⟩
structure ClassOk (j : Nat) (c : S82) : Prop where
  lo : -1 ≤ c.f0
  hi : c.f0 < j
  five : c.f1.length = 5
  all : ∀ t ∈ c.f1, 0 ≤ t ∧ t ≤ 1000
theorem classOk {ws : List S82} {st : Int} (hg : goodW ws st = true) {j : Nat} {c : S82} (hc : ws[j]? = some c) : ClassOk j c := by
  simp only [goodW, Bool.and_eq_true] at hg
  have h := goodCs_at ws 0 j c hg.1.1 hc
  simp only [goodC, Bool.and_eq_true, decide_eq_true_eq, Nat.zero_add, List.all_eq_true] at h
  exact ⟨h.1.1.1, h.1.1.2, h.1.2, fun t ht => by have := h.2 t ht; unfold goodT at this; exact (inB_iff _ _ _).1 this⟩
theorem spec_class (ws : List S82) (st i : Int) : spec_l12Class.f ws st i = some (inB i 0 (ws.length - 1)) := by
  unfold spec_l12Class.f inB
  split
  · congr 1; simp; omega
  · rfl
theorem goodW_len {ws : List S82} {st : Int} (hg : goodW ws st = true) : 1 ≤ ws.length ∧ ws.length ≤ 8 := by
  simp only [goodW, Bool.and_eq_true] at hg
  have := (inB_iff _ _ _).1 hg.1.2
  omega

end Go.Proofs.Ytjmgleomljfieaa.Pure
