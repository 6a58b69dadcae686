/- EnterAt: the program and the reference fill the same variables; what is handed back is held as it was marked. Conditions: none. -/
import Derived.Test.YtpoddnhfnphdcaaPFr
import Derived.Test.YtpoddnhfnphdcaaGoodFnExactEnterAt
import Derived.KernelRfl
import Derived.Test.YtpoddnhfnphdcaaQx0
import Derived.Test.YtpoddnhfnphdcaaQx2
set_option linter.unusedVariables false
set_option linter.unusedSimpArgs false
namespace Go.Proofs.Ytpoddnhfnphdcaa.Pure
open Go.RowKit Go.Proofs.Ytpoddnhfnphdcaa.Q Go.Proofs.YtpoddnhfnphdcaaW.PrintWords Go.Proofs.YtpoddnhfnphdcaaW.PrintLast Go.Proofs.Ytpoddnhfnphdcaa.Kit Go.Proofs.Ytpoddnhfnphdcaa.Wf
def entered (a b : List Int) : List Int := a ++ b ++ List.replicate (5 - b.length) 0
theorem spec_enter (a b t : List Int) (ha : a.length = 3) (hb : b.length ≤ 4) : Ev (fun k => spec_l13Enter.f k a b t) (entered a b) := by
  refine ⟨20, fun n hn => ?_⟩
  obtain ⟨m, rfl⟩ := Nat.exists_eq_add_of_le hn
  rw [Nat.add_comm]
  match a, ha with
  | [x, y, z], _ =>
    match b, hb with
    | [], _ => show spec_l13Enter.f (m + 20) [x, y, z] [] t = some _; kernel_rfl
    | [p], _ => show spec_l13Enter.f (m + 20) [x, y, z] [p] t = some _; kernel_rfl
    | [p, q], _ => show spec_l13Enter.f (m + 20) [x, y, z] [p, q] t = some _; kernel_rfl
    | [p, q, r], _ => show spec_l13Enter.f (m + 20) [x, y, z] [p, q, r] t = some _; kernel_rfl
    | [p, q, r, s], _ => show spec_l13Enter.f (m + 20) [x, y, z] [p, q, r, s] t = some _; kernel_rfl
theorem impl_enter_ok (a b t : List Int) (ha : a.length = 3) (hb : b.length ≤ 4) : impl_enter.f a b t = some (entered a b) := by
  unfold impl_enter.f entered
  rw [if_pos ⟨ha, by omega⟩]
theorem enter_both (a b t : List Int) (ha : a.length ≤ 1048576) (hb : b.length ≤ 1048576) (hc : t.length ≤ 1048576) :
    ∃ o : List Int × Bool, o.1.length ≤ 1048576 ∧ Ev (fun k => spec_EnterAt.f k a b t) o ∧ impl_EnterAt.f a b t = some o := by
  unfold spec_EnterAt.f impl_EnterAt.f
  rw [impl_frame]
  simp only [Option.bind_some]
  by_cases h : goodFrame a b t = true
  · have h' := h
    simp only [goodFrame, Bool.and_eq_true, decide_eq_true_eq] at h'
    have ha3 := h'.1.1.1.1.1
    have hb4 := h'.1.1.1.1.2
    refine ⟨(entered a b, true), by simp [entered]; omega, ?_, ?_⟩
    · exact bind_ev (spec_frame a b t ha hb hc) (ite_t h (bind_ev (spec_enter a b t ha3 hb4) (Ev.now _)))
    · rw [if_pos h, impl_enter_ok a b t ha3 hb4]; rfl
  · exact ⟨([], false), by simp, bind_ev (spec_frame a b t ha hb hc) (ite_f h (Ev.now _)), by rw [if_neg h]⟩
theorem FnExactEnterAt (y : S24) (hp : wf_S24 y) : ∃ k, laws_FnExactEnterAt.f k y.f0 y.f1 y.f2 = some true := by
  obtain ⟨z, ⟨k1, hz⟩, hz2⟩ := szFrame_ok y 1048576 (by omega) (by omega) hp
  unfold laws_FnExactEnterAt.f
  by_cases h : z < 0
  · exact ⟨k1, if_pos ⟨z, hz k1 (Nat.le_refl _), .inl h⟩⟩
  · have hl := (hz2 (by omega)).2
    have hl2 : bd_S27 (cv_S24 y) := hl
    obtain ⟨k2, ht⟩ := toFrame_ev y hl
    obtain ⟨⟨o, b⟩, ho, ⟨k3, h1⟩, h2⟩ := enter_both (cv_S24 y).f0 (cv_S24 y).f1 (cv_S24 y).f2 hl2.1 hl2.2.1 hl2.2.2
    simp only at ho
    obtain ⟨k5, he⟩ := eqFrame_ev _ hl2
    obtain ⟨k6, hq⟩ := eqIntS_ev o ho
    obtain ⟨k7, hh⟩ := heldIntS_ev o.length 1 (by omega) (by omega) (by omega)
    obtain ⟨k8, hk⟩ := markIntS_ev o 1 (by omega) (by omega) (by omega)
    have hc2 : (1 + ((cv_S24 y).f0.length : Nat) + ((cv_S24 y).f1.length : Nat) + ((cv_S24 y).f2.length : Nat) : Int) < 2305843009213693952 := by
      have h3 := hl2.1
      have h4 := hl2.2.1
      have h5 := hl2.2.2
      omega
    generalize hk' : k1 + k2 + k3 + k5 + k6 + k7 + k8 = k
    exact ⟨k, if_pos ⟨z, hz k (by omega), .inr ⟨h, _, _, _, ht k (by omega), _, _, h1 k (by omega), _, _, _, ht k (by omega), _, h2, hq k (by omega), _, _, _, ht k (by omega), he k (by omega), hc2, hq k (by omega), _, _, hk k (by omega), by omega, hh k (by omega),
      _, _, _, ht k (by omega), _, h2, hq k (by omega), hh k (by omega), trivial⟩⟩⟩
end Go.Proofs.Ytpoddnhfnphdcaa.Pure
