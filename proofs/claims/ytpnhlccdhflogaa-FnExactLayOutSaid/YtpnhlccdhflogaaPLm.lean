/- The law FnExactLayOut. Conditions: none. -/
import Derived.Test.YtpnhlccdhflogaaPLo
import Derived.Test.YtpnhlccdhflogaaPMk
import Derived.Test.YtpnhlccdhflogaaQx0
import Derived.Test.YtpnhlccdhflogaaQx1
import Derived.Test.YtpnhlccdhflogaaQx4
import Derived.Test.YtpnhlccdhflogaaQx7
import Derived.Test.YtpnhlccdhflogaaQx8
set_option linter.unusedVariables false
set_option linter.unusedSimpArgs false
set_option linter.unusedSectionVars false
namespace Go.Proofs.Ytpnhlccdhflogaa.Pure
open Go.RowKit Go.Proofs.Ytpnhlccdhflogaa.Q Go.Proofs.YtpnhlccdhflogaaW.PrintWords Go.Proofs.YtpnhlccdhflogaaW.PrintLast Go.Proofs.Ytpnhlccdhflogaa.Kit Go.Proofs.Ytpnhlccdhflogaa.Wf
theorem FnExactLayOut (a : Int) (_ : (Lit.int .i64 a).wf = true) (x : List S77) (hx : x.length ≤ maxLen ∧ ∀ y ∈ x, wf_S77 y) : ∃ k, laws_FnExactLayOut.f k a x = some true := by
  obtain ⟨z, ⟨k1, hz⟩, hz2⟩ := szEdgeS_ok x 1048576 (by omega) (by omega) hx.1
  unfold laws_FnExactLayOut.f
  by_cases h : z < 0
  · refine ⟨k1, ?_⟩
    rw [show laws_szEdgeS.f x 1048576 = some z from hz k1 (Nat.le_refl _), Option.bind_some, if_pos h]
  · have hb := (hz2 (by omega)).2
    have ht := toEdgeS_ev x hb
    have hb2 : (x.map cv_S77).length ≤ 1048576 := by simpa using hb
    obtain ⟨⟨o, b⟩, ho1, h1, h2⟩ := lay_both a (x.map cv_S77) hb2
    simp only at ho1
    have hq := eqIntS_ev o (by omega)
    have he := eqEdgeS_ev (x.map cv_S77) hb2
    obtain ⟨⟨m, ml⟩, hm, hm0⟩ := markEdgeS_ev (x.map cv_S77) hb2
    have hmk := markIntS_ev o 1 (by omega) (by omega) (by omega)
    have hh := heldIntS_ev o.length 1 (by omega) (by omega) (by omega)
    have key : Ev (fun k => laws_FnExactLayOut.j0 k a x o b (x.map cv_S77) o b (b != b)) true := by
      refine Ev.step (fun k => by simp only [laws_FnExactLayOut.j0]; rw [if_neg (by simp)]) ?_
      refine bind_ev ht (bind_ev he (ite_t rfl (bind_ev hm (ite_f (by simpa using hm0) (bind_ev hq (ite_t rfl ?_))))))
      refine Ev.step (fun k => by simp only [laws_FnExactLayOut.j1]; rw [if_neg (by simp)]) ?_
      refine bind_ev hmk (bind_ev hh (ite_f (by omega) (ite_t rfl (bind_ev ht ?_))))
      rw [h2]
      simp only [Option.bind_some]
      refine bind_ev hq (ite_t rfl ?_)
      refine Ev.step (fun k => by simp only [laws_FnExactLayOut.j2]; rw [if_neg (by simp)]) ?_
      exact bind_ev hh (ite_f (by omega) (ite_t rfl (Ev.now _)))
    have all : Ev (fun k => (laws_szEdgeS.f x 1048576).bind fun t260 => (if t260 < 0 then (some true) else ((laws_toEdgeS.f k x).bind fun t261 => ((spec_LayOut.f k a t261).bind fun bt264 => ((laws_toEdgeS.f k x).bind fun t268 => ((impl_LayOut.f a t268).bind fun bt271 => ((laws_eqIntS.f k bt271.1 bt264.1).bind fun t275 => (if t275 = true then (laws_FnExactLayOut.j0 k a x bt264.1 bt264.2 t268 bt271.1 bt271.2 (bt271.2 != bt264.2)) else (laws_FnExactLayOut.j0 k a x bt264.1 bt264.2 t268 bt271.1 bt271.2 true))))))))) true := by
      refine bind_ev ⟨k1, hz⟩ (ite_f h (bind_ev ht (bind_ev h1 (bind_ev ht ?_))))
      rw [h2]
      simp only [Option.bind_some]
      exact bind_ev hq (ite_t rfl key)
    obtain ⟨k, hk⟩ := all
    exact ⟨k, hk k (Nat.le_refl _)⟩
end Go.Proofs.Ytpnhlccdhflogaa.Pure
