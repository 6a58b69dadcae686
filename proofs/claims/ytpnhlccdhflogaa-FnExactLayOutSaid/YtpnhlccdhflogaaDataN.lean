/- What the laws' own helpers come to: sizes, copies, comparisons, marks. Conditions: none. -/
import Derived.Test.YtpnhlccdhflogaaKit
import Derived.Test.YtpnhlccdhflogaaWf
import Derived.Test.YtpnhlccdhflogaaQx0
import Derived.Test.YtpnhlccdhflogaaQx1
import Derived.Test.YtpnhlccdhflogaaQx7
import Derived.Test.YtpnhlccdhflogaaQx8
set_option linter.unusedVariables false
set_option linter.unusedSimpArgs false
namespace Go.Proofs.Ytpnhlccdhflogaa.Pure
open Go.RowKit Go.Proofs.Ytpnhlccdhflogaa.Q Go.Proofs.YtpnhlccdhflogaaW.PrintWords Go.Proofs.YtpnhlccdhflogaaW.PrintLast Go.Proofs.Ytpnhlccdhflogaa.Kit Go.Proofs.Ytpnhlccdhflogaa.Wf

theorem szEdgeS_ok (l : List S77) (n : Int) (h0 : 0 ≤ n) (h : n ≤ 1048576) (hm : l.length ≤ maxLen) : ∃ r, Ev (fun k => laws_szEdgeS.f l n) r ∧ (0 ≤ r → r ≤ n ∧ l.length ≤ 1048576) := by
  unfold maxLen at hm
  unfold laws_szEdgeS.f
  rw [w64 (by omega) (by omega)]
  by_cases h : n - (l.length : Int) < 0
  · rw [if_pos h]; exact ⟨_, Ev.now _, by omega⟩
  · rw [if_neg h]; exact ⟨_, Ev.now _, by omega⟩
def cv_S77 (x : S77) : S48 := ⟨x.f0, x.f1, x.f2⟩
theorem toEdge_ev (x : S77) : Ev (fun k => laws_toEdge.f x.f0 x.f1 x.f2) ((cv_S77 x).f0, (cv_S77 x).f1, (cv_S77 x).f2) := by
  unfold laws_toEdge.f
  exact Ev.now _
theorem rdat_T77 {pre : List S77} {x : S77} {post : List S77} {n : Nat} (h : n = pre.length) : rd_T77 (pre ++ x :: post) (n : Int) = x := by
  unfold rd_T77; rw [Int.toNat_natCast]; exact getD_at h
theorem toEdgeS_l0 : ∀ (post pre : List S77) (pre' post' : List S48), pre'.length = pre.length → post'.length = post.length → pre.length + post.length ≤ 1048576 → 
    Ev (fun k => laws_toEdgeS.l0 k (pre ++ post) (pre' ++ post') (pre.length : Int)) (pre' ++ (post.map cv_S77))
  | [], pre, pre', post', h1, h2, hb => by
    obtain rfl : post' = [] := List.length_eq_zero_iff.1 h2
    refine Ev.step (fun k => by simp only [laws_toEdgeS.l0]; rw [if_neg (by simp)]) (by simpa using Ev.now _)
  | x :: post, pre, pre', y :: post', h1, h2, hb => by
    have ih := toEdgeS_l0 post (pre ++ [x]) (pre' ++ [(cv_S77 x)]) post' (by simp [h1]) (by simpa using h2) (by simp at hb ⊢; omega)
    refine Ev.step (fun k => by
      simp only [laws_toEdgeS.l0]
      rw [if_pos (by simp; omega), if_pos (by omega), rdat_T77 rfl]) ?_
    refine bind_ev (toEdge_ev x ) ?_
    refine ite_t (by simp [h1]; omega) ?_
    rw [Int.toNat_natCast, set_at h1.symm, w_succ (by simp at hb; omega)]
    simpa using ih
theorem toEdgeS_ev (l : List S77) (hb : l.length ≤ 1048576) : Ev (fun k => laws_toEdgeS.f k l) (l.map cv_S77) := by
  have h := toEdgeS_l0 l [] [] (List.replicate l.length z48) rfl (by simp) (by simpa using hb)
  unfold laws_toEdgeS.f
  refine ite_t (by omega) (ite_t (by have := hb; simp; omega) ?_)
  simpa using h
theorem eqEdge_ev (x : S48) : Ev (fun k => laws_eqEdge.f x.f0 x.f1 x.f2 x.f0 x.f1 x.f2) true := by
  unfold laws_eqEdge.f
  repeat first | exact Ev.now _ | refine ite_t rfl ?_ | refine ite_f (by simp) ?_
theorem rdat_T48 {pre : List S48} {x : S48} {post : List S48} {n : Nat} (h : n = pre.length) : rd_T48 (pre ++ x :: post) (n : Int) = x := by
  unfold rd_T48; rw [Int.toNat_natCast]; exact getD_at h
theorem eqEdgeS_l0 : ∀ (post pre : List S48), pre.length + post.length ≤ 1048576 → 
    Ev (fun k => laws_eqEdgeS.l0 k (pre ++ post) (pre ++ post) (pre.length : Int)) true
  | [], pre, hb => Ev.step (fun k => by simp only [laws_eqEdgeS.l0]; rw [if_neg (by simp)]) (Ev.now _)
  | x :: post, pre, hb => by
    have ih := eqEdgeS_l0 post (pre ++ [x]) (by simp at hb ⊢; omega)
    refine Ev.step (fun k => by
      simp only [laws_eqEdgeS.l0]
      rw [if_pos (by simp; omega), if_pos (by omega), if_pos (by simp; omega), rdat_T48 rfl]) ?_
    refine bind_ev (eqEdge_ev x) (ite_t rfl ?_)
    rw [w_succ (by simp at hb; omega)]
    simpa using ih
theorem eqEdgeS_ev (l : List S48) (hb : l.length ≤ 1048576) : Ev (fun k => laws_eqEdgeS.f k l l) true := by
  have h := eqEdgeS_l0 l [] (by simpa using hb)
  unfold laws_eqEdgeS.f
  exact ite_t rfl (by simpa using h)
theorem eqIntS_l0 : ∀ (post pre : List Int), pre.length + post.length ≤ 1048576 → 
    Ev (fun k => laws_eqIntS.l0 k (pre ++ post) (pre ++ post) (pre.length : Int)) true
  | [], pre, hb => Ev.step (fun k => by simp only [laws_eqIntS.l0]; rw [if_neg (by simp)]) (Ev.now _)
  | x :: post, pre, hb => by
    have ih := eqIntS_l0 post (pre ++ [x]) (by simp at hb ⊢; omega)
    refine Ev.step (fun k => by
      simp only [laws_eqIntS.l0]
      rw [if_pos (by simp; omega), if_pos (by omega), if_pos (by simp; omega), if_pos trivial, w_succ (by simp at hb; omega)]) ?_
    simpa using ih
theorem eqIntS_ev (l : List Int) (hb : l.length ≤ 1048576) : Ev (fun k => laws_eqIntS.f k l l) true := by
  have h := eqIntS_l0 l [] (by simpa using hb)
  unfold laws_eqIntS.f
  exact ite_t rfl (by simpa using h)
theorem markIntS_l0 : ∀ (post pre : List Int) (n : Int), pre.length + post.length < 4611686018427387904 → 0 ≤ n → n + post.length < 4611686018427387904 →
    Ev (fun k => laws_markIntS.l0 k (pre ++ post) n (pre.length : Int)) (n + post.length, pre ++ from_ n post.length)
  | [], pre, n, hb, h0, hn => by
    refine Ev.step (fun k => by simp only [laws_markIntS.l0]; rw [if_neg (by simp)]) ?_
    simpa [from_] using Ev.now _
  | x :: post, pre, n, hb, h0, hn => by
    have ih := markIntS_l0 post (pre ++ [n]) (n + 1) (by simp at hb ⊢; omega) (by omega) (by simp at hn ⊢; omega)
    refine Ev.step (fun k => by
      simp only [laws_markIntS.l0]
      rw [if_pos (by simp; omega), if_pos (by omega), Int.toNat_natCast, set_at rfl, w_succ (by simp at hb; omega), w64 (x := n + 1) (by omega) (by simp at hn; omega)]) ?_
    have e : n + 1 + (post.length : Int) = n + ((x :: post).length : Int) := by simp; omega
    rw [e] at ih
    simpa [from_] using ih
theorem markIntS_ev (l : List Int) (n : Int) (hb : l.length < 2305843009213693952) (h0 : 0 ≤ n) (hn : n < 2305843009213693952) : Ev (fun k => laws_markIntS.f k l n) (n + l.length, from_ n l.length) := by
  have h := markIntS_l0 l [] n (by simp; omega) h0 (by omega)
  unfold laws_markIntS.f
  simpa using h
theorem heldIntS_l0 : ∀ (m : Nat) (pre : List Int) (n : Int), pre.length + m < 4611686018427387904 → 0 ≤ n → n + m < 4611686018427387904 →
    Ev (fun k => laws_heldIntS.l0 k (pre ++ from_ n m) n (pre.length : Int)) (n + m)
  | 0, pre, n, hb, h0, hn => by
    have e : from_ n 0 = [] := rfl
    rw [e]
    refine Ev.step (fun k => by simp only [laws_heldIntS.l0]; rw [if_neg (by simp)]) ?_
    simpa using Ev.now _
  | m + 1, pre, n, hb, h0, hn => by
    have ih := heldIntS_l0 m (pre ++ [n]) (n + 1) (by simp at hb ⊢; omega) (by omega) (by simp at hn ⊢; omega)
    have e0 : from_ n (m + 1) = n :: from_ (n + 1) m := rfl
    rw [e0]
    refine Ev.step (fun k => by
      simp only [laws_heldIntS.l0]
      rw [if_pos (by simp; omega), if_pos (by omega), if_pos (rd_at rfl), w_succ (by omega), w64 (x := n + 1) (by omega) (by omega)]) ?_
    have e : n + 1 + (m : Int) = n + ((m + 1 : Nat) : Int) := by omega
    rw [e] at ih
    simpa using ih
theorem heldIntS_ev (m : Nat) (n : Int) (hb : m < 2305843009213693952) (h0 : 0 ≤ n) (hn : n < 2305843009213693952) : Ev (fun k => laws_heldIntS.f k (from_ n m) n) (n + m) := by
  have h := heldIntS_l0 m [] n (by simp; omega) h0 (by omega)
  unfold laws_heldIntS.f
  simpa using h
end Go.Proofs.Ytpnhlccdhflogaa.Pure
