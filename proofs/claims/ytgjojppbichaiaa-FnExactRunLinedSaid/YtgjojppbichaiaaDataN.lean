/- What the laws' own helpers come to: sizes, copies, comparisons, marks. Conditions: none. -/
import Derived.Test.YtgjojppbichaiaaKit
import Derived.Test.YtgjojppbichaiaaWf
import Derived.Test.YtgjojppbichaiaaQx0
import Derived.Test.YtgjojppbichaiaaQx1
import Derived.Test.YtgjojppbichaiaaQx2
set_option linter.unusedVariables false
set_option linter.unusedSimpArgs false
namespace Go.Proofs.Ytgjojppbichaiaa.Pure
open Go.RowKit Go.Proofs.Ytgjojppbichaiaa.Q Go.Proofs.YtgjojppbichaiaaW.PrintWords Go.Proofs.YtgjojppbichaiaaW.PrintLast Go.Proofs.Ytgjojppbichaiaa.Kit Go.Proofs.Ytgjojppbichaiaa.Wf

theorem szLStepS_ok (l : List S124) (n : Int) (h0 : 0 ≤ n) (h : n ≤ 1048576) (hm : l.length ≤ maxLen) : ∃ r, Ev (fun k => laws_szLStepS.f l n) r ∧ (0 ≤ r → r ≤ n ∧ l.length ≤ 1048576) := by
  unfold maxLen at hm
  unfold laws_szLStepS.f
  rw [w64 (by omega) (by omega)]
  by_cases h : n - (l.length : Int) < 0
  · rw [if_pos h]; exact ⟨_, Ev.now _, by omega⟩
  · rw [if_neg h]; exact ⟨_, Ev.now _, by omega⟩
theorem szGuardS_ok (l : List S126) (n : Int) (h0 : 0 ≤ n) (h : n ≤ 1048576) (hm : l.length ≤ maxLen) : ∃ r, Ev (fun k => laws_szGuardS.f l n) r ∧ (0 ≤ r → r ≤ n ∧ l.length ≤ 1048576) := by
  unfold maxLen at hm
  unfold laws_szGuardS.f
  rw [w64 (by omega) (by omega)]
  by_cases h : n - (l.length : Int) < 0
  · rw [if_pos h]; exact ⟨_, Ev.now _, by omega⟩
  · rw [if_neg h]; exact ⟨_, Ev.now _, by omega⟩
def bd_S32 (x : S32) : Prop := x.f0.length ≤ 1048576 ∧ x.f1.length ≤ 1048576
theorem szLined_ok (x : S32) (n : Int) (h0 : 0 ≤ n) (h : n ≤ 1048576) (hp : wf_S32 x) : ∃ r, Ev (fun k => laws_szLined.f x.f0 x.f1 n) r ∧ (0 ≤ r → r ≤ n ∧ bd_S32 x) := by
  obtain ⟨q0, q1⟩ := hp
  unfold laws_szLined.f
  obtain ⟨z0, hz0, hy0⟩ := szLStepS_ok x.f0 n (by omega) (by omega) q0.1
  by_cases c0 : z0 < 0
  · exact ⟨-1, bind_ev hz0 (ite_t c0 (Ev.now _)), by omega⟩
  have b0 := hy0 (by omega)
  obtain ⟨z1, hz1, hy1⟩ := szGuardS_ok x.f1 z0 (by omega) (by omega) q1.1
  by_cases c1 : z1 < 0
  · exact ⟨-1, bind_ev hz0 (ite_f c0 (bind_ev hz1 (ite_t c1 (Ev.now _)))), by omega⟩
  have b1 := hy1 (by omega)
  exact ⟨z1, bind_ev hz0 (ite_f c0 (bind_ev hz1 (ite_f c1 ((Ev.now _))))), fun _ => ⟨by omega, b0.2, b1.2⟩⟩
def cv_S124 (x : S124) : S86 := ⟨x.f0, x.f1, x.f2⟩
theorem toLStep_ev (x : S124) : Ev (fun k => laws_toLStep.f x.f0 x.f1 x.f2) ((cv_S124 x).f0, (cv_S124 x).f1, (cv_S124 x).f2) := by
  unfold laws_toLStep.f
  exact Ev.now _
theorem rdat_T124 {pre : List S124} {x : S124} {post : List S124} {n : Nat} (h : n = pre.length) : rd_T124 (pre ++ x :: post) (n : Int) = x := by
  unfold rd_T124; rw [Int.toNat_natCast]; exact getD_at h
theorem toLStepS_l0 : ∀ (post pre : List S124) (pre' post' : List S86), pre'.length = pre.length → post'.length = post.length → pre.length + post.length ≤ 1048576 → 
    Ev (fun k => laws_toLStepS.l0 k (pre ++ post) (pre' ++ post') (pre.length : Int)) (pre' ++ (post.map cv_S124))
  | [], pre, pre', post', h1, h2, hb => by
    obtain rfl : post' = [] := List.length_eq_zero_iff.1 h2
    refine Ev.step (fun k => by simp only [laws_toLStepS.l0]; rw [if_neg (by simp)]) (by simpa using Ev.now _)
  | x :: post, pre, pre', y :: post', h1, h2, hb => by
    have ih := toLStepS_l0 post (pre ++ [x]) (pre' ++ [(cv_S124 x)]) post' (by simp [h1]) (by simpa using h2) (by simp at hb ⊢; omega)
    refine Ev.step (fun k => by
      simp only [laws_toLStepS.l0]
      rw [if_pos (by simp; omega), if_pos (by omega), rdat_T124 rfl]) ?_
    refine bind_ev (toLStep_ev x ) ?_
    refine ite_t (by simp [h1]; omega) ?_
    rw [Int.toNat_natCast, set_at h1.symm, w_succ (by simp at hb; omega)]
    simpa using ih
theorem toLStepS_ev (l : List S124) (hb : l.length ≤ 1048576) : Ev (fun k => laws_toLStepS.f k l) (l.map cv_S124) := by
  have h := toLStepS_l0 l [] [] (List.replicate l.length z86) rfl (by simp) (by simpa using hb)
  unfold laws_toLStepS.f
  refine ite_t (by omega) (ite_t (by have := hb; simp; omega) ?_)
  simpa using h
def cv_S126 (x : S126) : S63 := ⟨x.f0, x.f1, x.f2, x.f3⟩
theorem toGuard_ev (x : S126) : Ev (fun k => laws_toGuard.f x.f0 x.f1 x.f2 x.f3) ((cv_S126 x).f0, (cv_S126 x).f1, (cv_S126 x).f2, (cv_S126 x).f3) := by
  unfold laws_toGuard.f
  exact Ev.now _
theorem rdat_T126 {pre : List S126} {x : S126} {post : List S126} {n : Nat} (h : n = pre.length) : rd_T126 (pre ++ x :: post) (n : Int) = x := by
  unfold rd_T126; rw [Int.toNat_natCast]; exact getD_at h
theorem toGuardS_l0 : ∀ (post pre : List S126) (pre' post' : List S63), pre'.length = pre.length → post'.length = post.length → pre.length + post.length ≤ 1048576 → 
    Ev (fun k => laws_toGuardS.l0 k (pre ++ post) (pre' ++ post') (pre.length : Int)) (pre' ++ (post.map cv_S126))
  | [], pre, pre', post', h1, h2, hb => by
    obtain rfl : post' = [] := List.length_eq_zero_iff.1 h2
    refine Ev.step (fun k => by simp only [laws_toGuardS.l0]; rw [if_neg (by simp)]) (by simpa using Ev.now _)
  | x :: post, pre, pre', y :: post', h1, h2, hb => by
    have ih := toGuardS_l0 post (pre ++ [x]) (pre' ++ [(cv_S126 x)]) post' (by simp [h1]) (by simpa using h2) (by simp at hb ⊢; omega)
    refine Ev.step (fun k => by
      simp only [laws_toGuardS.l0]
      rw [if_pos (by simp; omega), if_pos (by omega), rdat_T126 rfl]) ?_
    refine bind_ev (toGuard_ev x ) ?_
    refine ite_t (by simp [h1]; omega) ?_
    rw [Int.toNat_natCast, set_at h1.symm, w_succ (by simp at hb; omega)]
    simpa using ih
theorem toGuardS_ev (l : List S126) (hb : l.length ≤ 1048576) : Ev (fun k => laws_toGuardS.f k l) (l.map cv_S126) := by
  have h := toGuardS_l0 l [] [] (List.replicate l.length z63) rfl (by simp) (by simpa using hb)
  unfold laws_toGuardS.f
  refine ite_t (by omega) (ite_t (by have := hb; simp; omega) ?_)
  simpa using h
def cv_S32 (x : S32) : S38 := ⟨(x.f0.map cv_S124), (x.f1.map cv_S126)⟩
theorem toLined_ev (x : S32) (hb : bd_S32 x) : Ev (fun k => laws_toLined.f k x.f0 x.f1) ((cv_S32 x).f0, (cv_S32 x).f1) := by
  unfold laws_toLined.f
  refine bind_ev (toLStepS_ev _ hb.1) ?_
  refine bind_ev (toGuardS_ev _ hb.2) ?_
  exact Ev.now _
theorem eqLStep_ev (x : S86) : Ev (fun k => laws_eqLStep.f x.f0 x.f1 x.f2 x.f0 x.f1 x.f2) true := by
  unfold laws_eqLStep.f
  repeat first | exact Ev.now _ | refine ite_t rfl ?_ | refine ite_f (by simp) ?_
theorem rdat_T86 {pre : List S86} {x : S86} {post : List S86} {n : Nat} (h : n = pre.length) : rd_T86 (pre ++ x :: post) (n : Int) = x := by
  unfold rd_T86; rw [Int.toNat_natCast]; exact getD_at h
theorem eqLStepS_l0 : ∀ (post pre : List S86), pre.length + post.length ≤ 1048576 → 
    Ev (fun k => laws_eqLStepS.l0 k (pre ++ post) (pre ++ post) (pre.length : Int)) true
  | [], pre, hb => Ev.step (fun k => by simp only [laws_eqLStepS.l0]; rw [if_neg (by simp)]) (Ev.now _)
  | x :: post, pre, hb => by
    have ih := eqLStepS_l0 post (pre ++ [x]) (by simp at hb ⊢; omega)
    refine Ev.step (fun k => by
      simp only [laws_eqLStepS.l0]
      rw [if_pos (by simp; omega), if_pos (by omega), if_pos (by simp; omega), rdat_T86 rfl]) ?_
    refine bind_ev (eqLStep_ev x) (ite_t rfl ?_)
    rw [w_succ (by simp at hb; omega)]
    simpa using ih
theorem eqLStepS_ev (l : List S86) (hb : l.length ≤ 1048576) : Ev (fun k => laws_eqLStepS.f k l l) true := by
  have h := eqLStepS_l0 l [] (by simpa using hb)
  unfold laws_eqLStepS.f
  exact ite_t rfl (by simpa using h)
theorem eqGuard_ev (x : S63) : Ev (fun k => laws_eqGuard.f x.f0 x.f1 x.f2 x.f3 x.f0 x.f1 x.f2 x.f3) true := by
  unfold laws_eqGuard.f
  repeat first | exact Ev.now _ | refine ite_t rfl ?_ | refine ite_f (by simp) ?_
theorem rdat_T63 {pre : List S63} {x : S63} {post : List S63} {n : Nat} (h : n = pre.length) : rd_T63 (pre ++ x :: post) (n : Int) = x := by
  unfold rd_T63; rw [Int.toNat_natCast]; exact getD_at h
theorem eqGuardS_l0 : ∀ (post pre : List S63), pre.length + post.length ≤ 1048576 → 
    Ev (fun k => laws_eqGuardS.l0 k (pre ++ post) (pre ++ post) (pre.length : Int)) true
  | [], pre, hb => Ev.step (fun k => by simp only [laws_eqGuardS.l0]; rw [if_neg (by simp)]) (Ev.now _)
  | x :: post, pre, hb => by
    have ih := eqGuardS_l0 post (pre ++ [x]) (by simp at hb ⊢; omega)
    refine Ev.step (fun k => by
      simp only [laws_eqGuardS.l0]
      rw [if_pos (by simp; omega), if_pos (by omega), if_pos (by simp; omega), rdat_T63 rfl]) ?_
    refine bind_ev (eqGuard_ev x) (ite_t rfl ?_)
    rw [w_succ (by simp at hb; omega)]
    simpa using ih
theorem eqGuardS_ev (l : List S63) (hb : l.length ≤ 1048576) : Ev (fun k => laws_eqGuardS.f k l l) true := by
  have h := eqGuardS_l0 l [] (by simpa using hb)
  unfold laws_eqGuardS.f
  exact ite_t rfl (by simpa using h)
def bd_S38 (x : S38) : Prop := x.f0.length ≤ 1048576 ∧ x.f1.length ≤ 1048576
theorem eqLined_ev (x : S38) (hb : bd_S38 x) : Ev (fun k => laws_eqLined.f k x.f0 x.f1 x.f0 x.f1) true := by
  unfold laws_eqLined.f
  repeat first | exact Ev.now _ | refine ite_t rfl ?_ | refine ite_f (by simp) ?_ | refine bind_ev (eqLStepS_ev x.f0 hb.1) ?_ | refine bind_ev (eqGuardS_ev x.f1 hb.2) ?_
theorem eqIntS_l0 : ∀ (post pre : List Int), pre.length + post.length ≤ 1048576 → 
    Ev (fun k => laws_eqIntS.l0 k (pre ++ post) (pre ++ post) (pre.length : Int)) true
  | [], pre, hb => Ev.step (fun k => by simp only [laws_eqIntS.l0]; rw [if_neg (by simp)]) (Ev.now _)
  | x :: post, pre, hb => by
    have ih := eqIntS_l0 post (pre ++ [x]) (by simp at hb ⊢; omega)
    refine Ev.step (fun k => by
      simp only [laws_eqIntS.l0]
      rw [if_pos (by simp; omega), if_pos (by omega), if_pos (by simp; omega), if_pos trivial, w_succ (by simp at hb; omega)]) ?_
    simpa using ih
theorem eqIntS_ev (l : List Int) (hb : l.length ≤ 1048576) : Ev (fun k => laws_eqIntS.f k l l) true := by
  have h := eqIntS_l0 l [] (by simpa using hb)
  unfold laws_eqIntS.f
  exact ite_t rfl (by simpa using h)
theorem markIntS_l0 : ∀ (post pre : List Int) (n : Int), pre.length + post.length < 4611686018427387904 → 0 ≤ n → n + post.length < 4611686018427387904 →
    Ev (fun k => laws_markIntS.l0 k (pre ++ post) n (pre.length : Int)) (n + post.length, pre ++ from_ n post.length)
  | [], pre, n, hb, h0, hn => by
    refine Ev.step (fun k => by simp only [laws_markIntS.l0]; rw [if_neg (by simp)]) ?_
    simpa [from_] using Ev.now _
  | x :: post, pre, n, hb, h0, hn => by
    have ih := markIntS_l0 post (pre ++ [n]) (n + 1) (by simp at hb ⊢; omega) (by omega) (by simp at hn ⊢; omega)
    refine Ev.step (fun k => by
      simp only [laws_markIntS.l0]
      rw [if_pos (by simp; omega), if_pos (by omega), Int.toNat_natCast, set_at rfl, w_succ (by simp at hb; omega), w64 (x := n + 1) (by omega) (by simp at hn; omega)]) ?_
    have e : n + 1 + (post.length : Int) = n + ((x :: post).length : Int) := by simp; omega
    rw [e] at ih
    simpa [from_] using ih
theorem markIntS_ev (l : List Int) (n : Int) (hb : l.length < 2305843009213693952) (h0 : 0 ≤ n) (hn : n < 2305843009213693952) : Ev (fun k => laws_markIntS.f k l n) (n + l.length, from_ n l.length) := by
  have h := markIntS_l0 l [] n (by simp; omega) h0 (by omega)
  unfold laws_markIntS.f
  simpa using h
theorem heldIntS_l0 : ∀ (m : Nat) (pre : List Int) (n : Int), pre.length + m < 4611686018427387904 → 0 ≤ n → n + m < 4611686018427387904 →
    Ev (fun k => laws_heldIntS.l0 k (pre ++ from_ n m) n (pre.length : Int)) (n + m)
  | 0, pre, n, hb, h0, hn => by
    have e : from_ n 0 = [] := rfl
    rw [e]
    refine Ev.step (fun k => by simp only [laws_heldIntS.l0]; rw [if_neg (by simp)]) ?_
    simpa using Ev.now _
  | m + 1, pre, n, hb, h0, hn => by
    have ih := heldIntS_l0 m (pre ++ [n]) (n + 1) (by simp at hb ⊢; omega) (by omega) (by simp at hn ⊢; omega)
    have e0 : from_ n (m + 1) = n :: from_ (n + 1) m := rfl
    rw [e0]
    refine Ev.step (fun k => by
      simp only [laws_heldIntS.l0]
      rw [if_pos (by simp; omega), if_pos (by omega), if_pos (rd_at rfl), w_succ (by omega), w64 (x := n + 1) (by omega) (by omega)]) ?_
    have e : n + 1 + (m : Int) = n + ((m + 1 : Nat) : Int) := by omega
    rw [e] at ih
    simpa using ih
theorem heldIntS_ev (m : Nat) (n : Int) (hb : m < 2305843009213693952) (h0 : 0 ≤ n) (hn : n < 2305843009213693952) : Ev (fun k => laws_heldIntS.f k (from_ n m) n) (n + m) := by
  have h := heldIntS_l0 m [] n (by simp; omega) h0 (by omega)
  unfold laws_heldIntS.f
  simpa using h
end Go.Proofs.Ytgjojppbichaiaa.Pure
