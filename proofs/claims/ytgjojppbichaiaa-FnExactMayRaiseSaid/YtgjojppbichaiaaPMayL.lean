/- FnExactMayRaise: the program and the reference tell the same codes, and each mark lies. Conditions: none. -/
import Derived.Test.YtgjojppbichaiaaPMay
import Derived.Test.YtgjojppbichaiaaDataN
import Derived.Test.YtgjojppbichaiaaQx0
import Derived.Test.YtgjojppbichaiaaQx6
import Derived.Test.YtgjojppbichaiaaQx7
set_option linter.unusedVariables false
set_option linter.unusedSimpArgs false
namespace Go.Proofs.Ytgjojppbichaiaa.Pure
open Go.RowKit Go.Proofs.Ytgjojppbichaiaa.Q Go.Proofs.YtgjojppbichaiaaW.PrintWords Go.Proofs.YtgjojppbichaiaaW.PrintLast Go.Proofs.Ytgjojppbichaiaa.Kit Go.Proofs.Ytgjojppbichaiaa.Wf
def markXC_mk (n : Int) : List S76 → List S76
  | [] => []
  | _ :: xs => ⟨n, n + 1⟩ :: markXC_mk (n + 2) xs
theorem markXC_l0 : ∀ (post pre : List S76) (n : Int), pre.length + post.length ≤ 1048576 → 0 ≤ n → n + 2 * post.length ≤ 4611686018427387904 →
    Ev (fun k => laws_markXCellS.l0 k (pre ++ post) n (pre.length : Int)) (n + 2 * post.length, pre ++ markXC_mk n post)
  | [], pre, n, hb, h0, hn => by
    refine Ev.step (fun k => by simp only [laws_markXCellS.l0]; rw [if_neg (by simp)]) ?_
    simpa [markXC_mk] using Ev.now _
  | x :: post, pre, n, hb, h0, hn => by
    simp only [List.length_cons] at hn hb
    have ih := markXC_l0 post (pre ++ [⟨n, n + 1⟩]) (n + 2) (by simp; omega) (by omega) (by omega)
    have hrd : ∀ y : S76, rd_T76 (pre ++ y :: post) (pre.length : Int) = y := fun y => by unfold rd_T76; rw [Int.toNat_natCast]; exact Kit.getD_at rfl
    have e1 : wrap64 (n + 1) = n + 1 := Kit.w64 (by omega) (by omega)
    have e2 : wrap64 (n + 1 + 1) = n + 2 := (Kit.w64 (by omega) (by omega)).trans (by omega)
    have ew : wrap64 ((pre.length : Int) + 1) = ((pre.length + 1 : Nat) : Int) := Kit.w_succ (by omega)
    refine Ev.step (fun k => by
      simp only [laws_markXCellS.l0]
      rw [if_pos (by simp; omega), if_pos (by omega)]) ?_
    simp only [Option.bind_some, Int.toNat_natCast, Kit.set_mid, hrd, ew, e1, e2]
    have e : n + 2 + 2 * (post.length : Int) = n + 2 * ((x :: post).length : Int) := by simp; omega
    rw [e] at ih
    simpa [markXC_mk] using ih
theorem markXC_ev (l : List S76) (n : Int) (hb : l.length ≤ 1048576) (h0 : 0 ≤ n) (hn : n ≤ 1048576) : Ev (fun k => laws_markXCellS.f k l n) (n + 2 * l.length, markXC_mk n l) := by
  have h := markXC_l0 l [] n (by simpa using hb) h0 (by omega)
  unfold laws_markXCellS.f
  simpa using h
theorem mj2_ev (m : Nat) (c : Int) (hm : m ≤ 1048576) (hc : c = 1 + m) : Ev (fun k => laws_FnExactMayRaise.j2 k (from_ 1 m) c false) true := by
  refine Ev.step (fun k => by simp only [laws_FnExactMayRaise.j2]; rw [if_neg (by simp)]) ?_
  refine bind_ev (heldIntS_ev m 1 (by omega) (by omega) (by omega)) ?_
  exact ite_f (by omega) (ite_t hc.symm (Ev.now _))
theorem FnExactMayRaise (l : List S78) (hp : l.length ≤ maxLen ∧ ∀ x ∈ l, wf_S78 x) : ∃ k, laws_FnExactMayRaise.f k l = some true := by
  refine Ev.rounds ?_
  obtain ⟨z, hz, hz2⟩ := szXCellS_ok l 1048576 (by omega) (by omega) hp.1
  unfold laws_FnExactMayRaise.f
  refine bind_ev hz ?_
  by_cases h : z < 0
  · exact ite_t h (Ev.now _)
  · have hl := (hz2 (by omega)).2
    have hm : (l.map cv_S78).length ≤ 1048576 := by simpa using hl
    have ht := toXCellS_ev l hl
    have h1 := spec_mayOf (l.map cv_S78) hm
    have h2 := impl_mayOf (l.map cv_S78)
    have h3 := mayOf_len (l.map cv_S78)
    generalize mayOf (l.map cv_S78) = o at h1 h2 h3
    obtain ⟨s, b⟩ := o
    simp only at h3
    have heq : Ev (fun k => laws_eqIntS.f k s s) true := eqIntS_ev s (by omega)
    have hbn : (b != b) = false := by cases b <;> rfl
    refine ite_f h (bind_ev ht (bind_ev h1 (bind_ev ht (bind_ev (const_ev h2) (bind_ev heq (ite_t rfl ?_))))))
    rw [hbn]
    have hJ2 := mj2_ev s.length (1 + s.length) (by omega) rfl
    have hJ1 : Ev (fun k => laws_FnExactMayRaise.j1 k l s b s false) true := by
      refine Ev.step (fun k => by simp only [laws_FnExactMayRaise.j1]; rw [if_neg (by simp)]) ?_
      refine bind_ev (markIntS_ev s 1 (by omega) (by omega) (by omega)) ?_
      refine bind_ev (heldIntS_ev s.length 1 (by omega) (by omega) (by omega)) ?_
      refine ite_f (by omega) (ite_t rfl (bind_ev ht (bind_ev (const_ev h2) (bind_ev heq (ite_t rfl ?_)))))
      rw [hbn]
      exact hJ2
    refine Ev.step (fun k => by simp only [laws_FnExactMayRaise.j0]; rw [if_neg (by simp)]) ?_
    refine bind_ev ht (bind_ev (eqXCellS_ev _ hm) (ite_t rfl (bind_ev (markXC_ev _ 1 hm (by omega) (by omega)) (ite_f (by simp only; omega) (bind_ev heq (ite_t (by simp) ?_))))))
    rw [hbn]
    exact hJ1
end Go.Proofs.Ytgjojppbichaiaa.Pure
