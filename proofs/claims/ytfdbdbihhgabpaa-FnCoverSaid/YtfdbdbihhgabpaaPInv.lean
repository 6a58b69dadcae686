/- Where a pattern is told, it fits, and at its places patterns are told. Conditions: none. -/
import Derived.Test.YtfdbdbihhgabpaaPBest
import Derived.Test.YtfdbdbihhgabpaaDataN
import Derived.Test.YtfdbdbihhgabpaaQx0
set_option linter.unusedVariables false
set_option linter.unusedSimpArgs false
set_option linter.unusedSectionVars false
namespace Go.Proofs.Ytfdbdbihhgabpaa.Pure
open Go.RowKit Go.Proofs.Ytfdbdbihhgabpaa.Q Go.Proofs.YtfdbdbihhgabpaaW.PrintWords Go.Proofs.YtfdbdbihhgabpaaW.PrintLast Go.Proofs.Ytfdbdbihhgabpaa.Kit

theorem rdT_mem (l : List S57) (j : Int) (h0 : 0 ≤ j) (h1 : j < l.length) : rd_T57 l j ∈ l := by
  obtain ⟨n, rfl⟩ := Int.eq_ofNat_of_zero_le h0
  have hn : n < l.length := by omega
  have h5 : rd_T57 (l.take n ++ l[n] :: l.drop (n + 1)) ((n : Nat) : Int) = l[n] := rdat_T57 (by simp; omega)
  have e : l = l.take n ++ l[n] :: l.drop (n + 1) := by simp
  rw [← e] at h5
  rw [h5]
  exact List.getElem_mem hn
theorem rd_set_ne (F : List Int) (n : Nat) (v m : Int) (h0 : 0 ≤ m) (h : m ≠ n) : rd (F.set n v) m = rd F m := by
  obtain ⟨k, rfl⟩ := Int.eq_ofNat_of_zero_le h0
  have : n ≠ k := by omega
  simp [rd, List.getD, List.getElem?_set_ne this]
theorem rd_set_eq (F : List Int) (n : Nat) (v : Int) (h : n < F.length) : rd (F.set n v) (n : Int) = v := by
  simp [rd, List.getD, h]
def Val (t : List Int) (l : List S57) (F : List Int) (q : Nat) : Prop :=
  rd F q < l.length ∧ (fitAt t q (rd_T57 l (rd F q))).2 = true ∧ ∀ h ∈ (fitAt t q (rd_T57 l (rd F q))).1, rd F h ≥ 0
def Inv (t : List Int) (l : List S57) (F : List Int) (lo : Nat) : Prop := ∀ q : Nat, lo ≤ q → q < t.length → rd F q ≥ 0 → Val t l F q
theorem val_set {t : List Int} {l : List S57} {F : List Int} {at_ : Nat} {v : Int} (hp : ∀ p ∈ l, KindsOk p.f0) {q : Nat} (hq : at_ < q) (hl : q < t.length) (h0 : rd F q ≥ 0) (h : Val t l F q) : Val t l (F.set at_ v) q := by
  have e : rd (F.set at_ v) (q : Int) = rd F q := rd_set_ne F at_ v q (by omega) (by omega)
  unfold Val at h ⊢
  rw [e]
  refine ⟨h.1, h.2.1, fun y hy => ?_⟩
  have := fitAt_places hl (hp _ (rdT_mem l _ h0 h.1)) y hy
  rw [rd_set_ne F at_ v y (by omega) (by omega)]
  exact h.2.2 y hy
theorem step_inv {t : List Int} {l pp ps : List S57} {p : S57} (hl : l = pp ++ p :: ps) (hp : ∀ p ∈ l, KindsOk p.f0) {at_ : Nat} (h1 : at_ < t.length) {C F : List Int} (hF : F.length = t.length) (h : Inv t l F at_) : Inv t l (stepC t at_ pp.length p (C, F)).2 at_ := by
  have key : (hol C F (fitAt t at_ p).1 (fitAt t at_ p).2 p.f1).1 = true → Inv t l (F.set at_ (pp.length : Int)) at_ := by
    intro hk q hq hql h0
    obtain ⟨k1, k2⟩ := hol_ok C F _ _ _ hk
    rcases Nat.lt_or_ge at_ q with hlt | hge
    · rw [rd_set_ne F at_ _ q (by omega) (by omega)] at h0
      exact val_set hp hlt hql h0 (h q hq hql h0)
    · obtain rfl : q = at_ := by omega
      have e : rd (F.set q (pp.length : Int)) (q : Int) = (pp.length : Int) := rd_set_eq F q _ (by omega)
      have e2 : rd_T57 l (pp.length : Int) = p := by rw [hl]; exact rdat_T57 rfl
      unfold Val
      rw [e, e2]
      refine ⟨by rw [hl]; simp; omega, k1, fun y hy => ?_⟩
      have := fitAt_places hql (hp p (by rw [hl]; simp)) y hy
      rw [rd_set_ne F q _ y (by omega) (by omega)]
      exact k2 y hy
  unfold stepC updC
  split
  · rename_i hk
    split
    · simpa using key hk
    · split
      · simpa using key hk
      · exact h
  · exact h
theorem cov1_inv {t : List Int} {l : List S57} (hp : ∀ p ∈ l, KindsOk p.f0) {at_ : Nat} (h1 : at_ < t.length) : ∀ (ps pp : List S57) (C F : List Int), l = pp ++ ps → F.length = t.length → Inv t l F at_ → Inv t l (cov1 t at_ pp.length ps (C, F)).2 at_
  | [], pp, C, F, hl, hF, h => h
  | p :: ps, pp, C, F, hl, hF, h => by
    have hlen := updC_len C F at_ pp.length (hol C F (fitAt t at_ p).1 (fitAt t at_ p).2 p.f1).1 (hol C F (fitAt t at_ p).1 (fitAt t at_ p).2 p.f1).2
    have := cov1_inv hp h1 ps (pp ++ [p]) (stepC t at_ pp.length p (C, F)).1 (stepC t at_ pp.length p (C, F)).2 (by simp [hl]) (by unfold stepC; exact hlen.2.trans hF) (step_inv hl hp h1 hF h)
    simpa [cov1] using this
theorem cov0_inv {t : List Int} {l : List S57} (hp : ∀ p ∈ l, KindsOk p.f0) : ∀ (n : Nat) (C F : List Int), n ≤ t.length → F.length = t.length → Inv t l F n → Inv t l (cov0 t l n (C, F)).2 0 ∧ (cov0 t l n (C, F)).2.length = t.length ∧ (cov0 t l n (C, F)).1.length = C.length
  | 0, C, F, hn, hF, h => ⟨h, hF, rfl⟩
  | n + 1, C, F, hn, hF, h => by
    have h2 := cov1_len t n 0 l (C, F.set n (-1))
    have h0 : Inv t l (F.set n (-1)) n := by
      intro q hq hql h0
      rcases Nat.lt_or_ge n q with hlt | hge
      · rw [rd_set_ne F n _ q (by omega) (by omega)] at h0
        exact val_set hp hlt hql h0 (h q (by omega) hql h0)
      · obtain rfl : q = n := by omega
        rw [rd_set_eq F q _ (by omega)] at h0
        omega
    have h3 := cov1_inv hp (by omega : n < t.length) l [] C (F.set n (-1)) rfl (by simpa using hF) h0
    have ih := cov0_inv hp n (cov1 t n 0 l (C, F.set n (-1))).1 (cov1 t n 0 l (C, F.set n (-1))).2 (by omega) (h2.2.trans (by simpa using hF)) h3
    simp only [cov0]
    exact ⟨ih.1, ih.2.1, ih.2.2.trans h2.1⟩
end Go.Proofs.Ytfdbdbihhgabpaa.Pure
