/- What the laws' own helpers come to: sizes, copies, comparisons, marks. Conditions: none. -/
import Derived.Test.YtpoddnhfnphdcaaKit
import Derived.Test.YtpoddnhfnphdcaaWf
import Derived.Test.YtpoddnhfnphdcaaQx0
import Derived.Test.YtpoddnhfnphdcaaQx1
import Derived.Test.YtpoddnhfnphdcaaQx3
set_option linter.unusedVariables false
set_option linter.unusedSimpArgs false
namespace Go.Proofs.Ytpoddnhfnphdcaa.Pure
open Go.RowKit Go.Proofs.Ytpoddnhfnphdcaa.Q Go.Proofs.YtpoddnhfnphdcaaW.PrintWords Go.Proofs.YtpoddnhfnphdcaaW.PrintLast Go.Proofs.Ytpoddnhfnphdcaa.Kit Go.Proofs.Ytpoddnhfnphdcaa.Wf

theorem szIntS_ok (l : List Int) (n : Int) (h0 : 0 ≤ n) (h : n ≤ 1048576) (hm : l.length ≤ maxLen) : ∃ r, Ev (fun k => laws_szIntS.f l n) r ∧ (0 ≤ r → r ≤ n ∧ l.length ≤ 1048576) := by
  unfold maxLen at hm
  unfold laws_szIntS.f
  rw [w64 (by omega) (by omega)]
  by_cases h : n - (l.length : Int) < 0
  · rw [if_pos h]; exact ⟨_, Ev.now _, by omega⟩
  · rw [if_neg h]; exact ⟨_, Ev.now _, by omega⟩
def bd_S24 (x : S24) : Prop := x.f0.length ≤ 1048576 ∧ x.f1.length ≤ 1048576 ∧ x.f2.length ≤ 1048576
theorem szFrame_ok (x : S24) (n : Int) (h0 : 0 ≤ n) (h : n ≤ 1048576) (hp : wf_S24 x) : ∃ r, Ev (fun k => laws_szFrame.f x.f0 x.f1 x.f2 n) r ∧ (0 ≤ r → r ≤ n ∧ bd_S24 x) := by
  obtain ⟨q0, q1, q2⟩ := hp
  unfold laws_szFrame.f
  obtain ⟨z0, hz0, hy0⟩ := szIntS_ok x.f0 n (by omega) (by omega) q0.1
  by_cases c0 : z0 < 0
  · exact ⟨-1, bind_ev hz0 (ite_t c0 (Ev.now _)), by omega⟩
  have b0 := hy0 (by omega)
  obtain ⟨z1, hz1, hy1⟩ := szIntS_ok x.f1 z0 (by omega) (by omega) q1.1
  by_cases c1 : z1 < 0
  · exact ⟨-1, bind_ev hz0 (ite_f c0 (bind_ev hz1 (ite_t c1 (Ev.now _)))), by omega⟩
  have b1 := hy1 (by omega)
  obtain ⟨z2, hz2, hy2⟩ := szIntS_ok x.f2 z1 (by omega) (by omega) q2.1
  by_cases c2 : z2 < 0
  · exact ⟨-1, bind_ev hz0 (ite_f c0 (bind_ev hz1 (ite_f c1 (bind_ev hz2 (ite_t c2 (Ev.now _)))))), by omega⟩
  have b2 := hy2 (by omega)
  exact ⟨z2, bind_ev hz0 (ite_f c0 (bind_ev hz1 (ite_f c1 (bind_ev hz2 (ite_f c2 ((Ev.now _))))))), fun _ => ⟨by omega, b0.2, b1.2, b2.2⟩⟩
theorem toIntS_l0 : ∀ (post pre : List Int) (pre' post' : List Int), pre'.length = pre.length → post'.length = post.length → pre.length + post.length ≤ 1048576 → 
    Ev (fun k => laws_toIntS.l0 k (pre ++ post) (pre' ++ post') (pre.length : Int)) (pre' ++ post)
  | [], pre, pre', post', h1, h2, hb => by
    obtain rfl : post' = [] := List.length_eq_zero_iff.1 h2
    refine Ev.step (fun k => by simp only [laws_toIntS.l0]; rw [if_neg (by simp)]) (by simpa using Ev.now _)
  | x :: post, pre, pre', y :: post', h1, h2, hb => by
    have ih := toIntS_l0 post (pre ++ [x]) (pre' ++ [x]) post' (by simp [h1]) (by simpa using h2) (by simp at hb ⊢; omega)
    refine Ev.step (fun k => by
      simp only [laws_toIntS.l0]
      rw [if_pos (by simp; omega), if_pos (by omega), if_pos (by simp [h1]; omega), rd_at rfl, Int.toNat_natCast, set_at h1.symm, w_succ (by simp at hb; omega)]) ?_
    simpa using ih
theorem toIntS_ev (l : List Int) (hb : l.length ≤ 1048576) : Ev (fun k => laws_toIntS.f k l) l := by
  have h := toIntS_l0 l [] [] (List.replicate l.length 0) rfl (by simp) (by simpa using hb)
  unfold laws_toIntS.f
  refine ite_t (by omega) (ite_t (by have := hb; simp; omega) ?_)
  simpa using h
def cv_S24 (x : S24) : S27 := ⟨x.f0, x.f1, x.f2⟩
theorem toFrame_ev (x : S24) (hb : bd_S24 x) : Ev (fun k => laws_toFrame.f k x.f0 x.f1 x.f2) ((cv_S24 x).f0, (cv_S24 x).f1, (cv_S24 x).f2) := by
  unfold laws_toFrame.f
  refine bind_ev (toIntS_ev _ hb.1) ?_
  refine bind_ev (toIntS_ev _ hb.2.1) ?_
  refine bind_ev (toIntS_ev _ hb.2.2) ?_
  exact Ev.now _
theorem eqIntS_l0 : ∀ (post pre : List Int), pre.length + post.length ≤ 1048576 → 
    Ev (fun k => laws_eqIntS.l0 k (pre ++ post) (pre ++ post) (pre.length : Int)) true
  | [], pre, hb => Ev.step (fun k => by simp only [laws_eqIntS.l0]; rw [if_neg (by simp)]) (Ev.now _)
  | x :: post, pre, hb => by
    have ih := eqIntS_l0 post (pre ++ [x]) (by simp at hb ⊢; omega)
    refine Ev.step (fun k => by
      simp only [laws_eqIntS.l0]
      rw [if_pos (by simp; omega), if_pos (by omega), if_pos (by simp; omega), if_pos trivial, w_succ (by simp at hb; omega)]) ?_
    simpa using ih
theorem eqIntS_ev (l : List Int) (hb : l.length ≤ 1048576) : Ev (fun k => laws_eqIntS.f k l l) true := by
  have h := eqIntS_l0 l [] (by simpa using hb)
  unfold laws_eqIntS.f
  exact ite_t rfl (by simpa using h)
def bd_S27 (x : S27) : Prop := x.f0.length ≤ 1048576 ∧ x.f1.length ≤ 1048576 ∧ x.f2.length ≤ 1048576
theorem eqFrame_ev (x : S27) (hb : bd_S27 x) : Ev (fun k => laws_eqFrame.f k x.f0 x.f1 x.f2 x.f0 x.f1 x.f2) true := by
  unfold laws_eqFrame.f
  repeat first | exact Ev.now _ | refine ite_t rfl ?_ | refine ite_f (by simp) ?_ | refine bind_ev (eqIntS_ev x.f0 hb.1) ?_ | refine bind_ev (eqIntS_ev x.f1 hb.2.1) ?_ | refine bind_ev (eqIntS_ev x.f2 hb.2.2) ?_
theorem markIntS_l0 : ∀ (post pre : List Int) (n : Int), pre.length + post.length < 4611686018427387904 → 0 ≤ n → n + post.length < 4611686018427387904 →
    Ev (fun k => laws_markIntS.l0 k (pre ++ post) n (pre.length : Int)) (n + post.length, pre ++ from_ n post.length)
  | [], pre, n, hb, h0, hn => by
    refine Ev.step (fun k => by simp only [laws_markIntS.l0]; rw [if_neg (by simp)]) ?_
    simpa [from_] using Ev.now _
  | x :: post, pre, n, hb, h0, hn => by
    have ih := markIntS_l0 post (pre ++ [n]) (n + 1) (by simp at hb ⊢; omega) (by omega) (by simp at hn ⊢; omega)
    refine Ev.step (fun k => by
      simp only [laws_markIntS.l0]
      rw [if_pos (by simp; omega), if_pos (by omega), Int.toNat_natCast, set_at rfl, w_succ (by simp at hb; omega), w64 (x := n + 1) (by omega) (by simp at hn; omega)]) ?_
    have e : n + 1 + (post.length : Int) = n + ((x :: post).length : Int) := by simp; omega
    rw [e] at ih
    simpa [from_] using ih
theorem markIntS_ev (l : List Int) (n : Int) (hb : l.length < 2305843009213693952) (h0 : 0 ≤ n) (hn : n < 2305843009213693952) : Ev (fun k => laws_markIntS.f k l n) (n + l.length, from_ n l.length) := by
  have h := markIntS_l0 l [] n (by simp; omega) h0 (by omega)
  unfold laws_markIntS.f
  simpa using h
theorem heldIntS_l0 : ∀ (m : Nat) (pre : List Int) (n : Int), pre.length + m < 4611686018427387904 → 0 ≤ n → n + m < 4611686018427387904 →
    Ev (fun k => laws_heldIntS.l0 k (pre ++ from_ n m) n (pre.length : Int)) (n + m)
  | 0, pre, n, hb, h0, hn => by
    have e : from_ n 0 = [] := rfl
    rw [e]
    refine Ev.step (fun k => by simp only [laws_heldIntS.l0]; rw [if_neg (by simp)]) ?_
    simpa using Ev.now _
  | m + 1, pre, n, hb, h0, hn => by
    have ih := heldIntS_l0 m (pre ++ [n]) (n + 1) (by simp at hb ⊢; omega) (by omega) (by simp at hn ⊢; omega)
    have e0 : from_ n (m + 1) = n :: from_ (n + 1) m := rfl
    rw [e0]
    refine Ev.step (fun k => by
      simp only [laws_heldIntS.l0]
      rw [if_pos (by simp; omega), if_pos (by omega), if_pos (rd_at rfl), w_succ (by omega), w64 (x := n + 1) (by omega) (by omega)]) ?_
    have e : n + 1 + (m : Int) = n + ((m + 1 : Nat) : Int) := by omega
    rw [e] at ih
    simpa using ih
theorem heldIntS_ev (m : Nat) (n : Int) (hb : m < 2305843009213693952) (h0 : 0 ≤ n) (hn : n < 2305843009213693952) : Ev (fun k => laws_heldIntS.f k (from_ n m) n) (n + m) := by
  have h := heldIntS_l0 m [] n (by simp; omega) h0 (by omega)
  unfold laws_heldIntS.f
  simpa using h
end Go.Proofs.Ytpoddnhfnphdcaa.Pure
