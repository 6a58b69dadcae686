/- Marks of rows of edges. Conditions: none. -/
import Derived.Test.YtpnhlccdhflogaaDataN
import Derived.Test.YtpnhlccdhflogaaQx0
import Derived.Test.YtpnhlccdhflogaaQx1
set_option linter.unusedVariables false
set_option linter.unusedSimpArgs false
set_option linter.unusedSectionVars false
namespace Go.Proofs.Ytpnhlccdhflogaa.Pure
open Go.RowKit Go.Proofs.Ytpnhlccdhflogaa.Q Go.Proofs.YtpnhlccdhflogaaW.PrintWords Go.Proofs.YtpnhlccdhflogaaW.PrintLast Go.Proofs.Ytpnhlccdhflogaa.Kit Go.Proofs.Ytpnhlccdhflogaa.Wf
theorem markEdgeS_l0 : ∀ (post pre : List S48) (n : Int), pre.length + post.length ≤ 1048576 → 0 ≤ n → n + 3 * post.length < 2305843009213693952 + 3 * 1048576 →
    ∃ r : Int × List S48, Ev (fun k => laws_markEdgeS.l0 k (pre ++ post) n (pre.length : Int)) r ∧ 0 ≤ r.1
  | [], pre, n, hb, h0, hn => ⟨(n, pre ++ []), by
      refine Ev.step (fun k => by simp only [laws_markEdgeS.l0]; rw [if_neg (by simp)]) ?_
      simpa using Ev.now _, h0⟩
  | x :: post, pre, n, hb, h0, hn => by
    simp only [List.length_cons] at hb hn
    obtain ⟨r, ih, hr⟩ := markEdgeS_l0 post (pre ++ [⟨n, n + 1, n + 1 + 1⟩]) (n + 1 + 1 + 1) (by simp; omega) (by omega) (by omega)
    refine ⟨r, ?_, hr⟩
    refine Ev.step (fun k => by
      simp only [laws_markEdgeS.l0]
      rw [if_pos (by simp; omega), if_pos (by omega), Int.toNat_natCast, set_at rfl]) ?_
    simp only [Option.bind_some]
    rw [set_at rfl, rdat_T48 rfl, rdat_T48 rfl, rdat_T48 rfl, set_at rfl, w_succ (by omega), w64 (x := n + 1) (by omega) (by omega), w64 (x := n + 1 + 1) (by omega) (by omega), w64 (x := n + 1 + 1 + 1) (by omega) (by omega)]
    simpa using ih
theorem markEdgeS_ev (l : List S48) (hb : l.length ≤ 1048576) : ∃ r : Int × List S48, Ev (fun k => laws_markEdgeS.f k l 1) r ∧ 0 ≤ r.1 := by
  have h := markEdgeS_l0 l [] 1 (by simp; omega) (by omega) (by omega)
  unfold laws_markEdgeS.f
  simpa using h
end Go.Proofs.Ytpnhlccdhflogaa.Pure
