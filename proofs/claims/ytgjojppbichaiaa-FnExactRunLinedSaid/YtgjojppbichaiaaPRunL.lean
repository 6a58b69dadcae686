/- RunLined: the law. Conditions: none. -/
import Derived.Test.YtgjojppbichaiaaPRun
import Derived.Test.YtgjojppbichaiaaGoodFnExactRunLined
set_option linter.unusedVariables false
set_option linter.unusedSimpArgs false
namespace Go.Proofs.Ytgjojppbichaiaa.Pure
open Go.RowKit Go.Proofs.Ytgjojppbichaiaa.Q Go.Proofs.YtgjojppbichaiaaW.PrintWords Go.Proofs.YtgjojppbichaiaaW.PrintLast Go.Proofs.Ytgjojppbichaiaa.Kit Go.Proofs.Ytgjojppbichaiaa.Wf
theorem cntLS_le : ∀ (l : List S86), markLStepS_cnt l ≤ l.length * 3
  | [] => by simp [markLStepS_cnt]
  | x :: xs => by
    have ih := cntLS_le xs
    simp only [markLStepS_cnt, markLStepS_cnt1, List.length_cons]
    omega
theorem cntGS_le : ∀ (l : List S63), markGuardS_cnt l ≤ l.length * 4
  | [] => by simp [markGuardS_cnt]
  | x :: xs => by
    have ih := cntGS_le xs
    simp only [markGuardS_cnt, markGuardS_cnt1, List.length_cons]
    omega
theorem FnExactRunLined (y : S32) (hp : wf_S32 y) (a : Int) (_ : (Lit.int .i64 a).wf = true) : ∃ k, laws_FnExactRunLined.f k y.f0 y.f1 a = some true := by
  obtain ⟨z, ⟨k1, hz⟩, hz2⟩ := szLined_ok y 1048576 (by omega) (by omega) hp
  unfold laws_FnExactRunLined.f
  by_cases h : z < 0
  · exact ⟨k1, if_pos ⟨z, hz k1 (Nat.le_refl _), .inl h⟩⟩
  · have hl := (hz2 (by omega)).2
    have hs : (cv_S32 y).f0.length ≤ 1048576 := by simpa [cv_S32] using hl.1
    have hg : (cv_S32 y).f1.length ≤ 1048576 := by simpa [cv_S32] using hl.2
    obtain ⟨k2, ht⟩ := toLined_ev y hl
    obtain ⟨k3, h1⟩ := spec_runL (cv_S32 y).f0 (cv_S32 y).f1 a hs hg
    obtain ⟨k4, h2⟩ := impl_runL (cv_S32 y).f0 (cv_S32 y).f1 a hs hg
    have ho := runL_len (cv_S32 y).f0 (cv_S32 y).f1 a
    generalize runL (cv_S32 y).f0 (cv_S32 y).f1 a = r at h1 h2 ho
    obtain ⟨o, c, n, b⟩ := r
    simp only at ho
    obtain ⟨k5, he⟩ := eqLined_ev _ ⟨hs, hg⟩
    obtain ⟨k6, hq⟩ := eqIntS_ev o (by omega)
    obtain ⟨k7, hh⟩ := heldIntS_ev o.length 1 (by omega) (by omega) (by omega)
    obtain ⟨k8, hk⟩ := markIntS_ev o 1 (by omega) (by omega) (by omega)
    have hc2 : (1 + (markLStepS_cnt (cv_S32 y).f0 : Nat) + (markGuardS_cnt (cv_S32 y).f1 : Nat) : Int) < 2305843009213693952 := by
      have h3 := cntLS_le (cv_S32 y).f0
      have h4 := cntGS_le (cv_S32 y).f1
      omega
    generalize hk' : k1 + k2 + k3 + k4 + k5 + k6 + k7 + k8 = k
    exact ⟨k, if_pos ⟨z, hz k (by omega), .inr ⟨h, _, _, ht k (by omega), _, _, _, _, h1 k (by omega), _, _, ht k (by omega), _, h2 k (by omega), hq k (by omega), _, _, ht k (by omega), he k (by omega), hc2, hq k (by omega), _, _, hk k (by omega), by omega, hh k (by omega),
      _, _, ht k (by omega), _, h2 k (by omega), hq k (by omega), hh k (by omega), trivial⟩⟩⟩
end Go.Proofs.Ytgjojppbichaiaa.Pure
