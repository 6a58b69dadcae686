/- What the laws' own helpers come to: sizes, copies, comparisons, marks. Conditions: none. -/
import Derived.Test.YtgjojppbichaiaaKit
import Derived.Test.YtgjojppbichaiaaWf
import Derived.Test.YtgjojppbichaiaaQx0
import Derived.Test.YtgjojppbichaiaaQx1
import Derived.Test.YtgjojppbichaiaaQx2
set_option linter.unusedVariables false
set_option linter.unusedSimpArgs false
namespace Go.Proofs.Ytgjojppbichaiaa.Pure
open Go.RowKit Go.Proofs.Ytgjojppbichaiaa.Q Go.Proofs.YtgjojppbichaiaaW.PrintWords Go.Proofs.YtgjojppbichaiaaW.PrintLast Go.Proofs.Ytgjojppbichaiaa.Kit Go.Proofs.Ytgjojppbichaiaa.Wf

theorem szXCellS_ok (l : List S78) (n : Int) (h0 : 0 ≤ n) (h : n ≤ 1048576) (hm : l.length ≤ maxLen) : ∃ r, Ev (fun k => laws_szXCellS.f l n) r ∧ (0 ≤ r → r ≤ n ∧ l.length ≤ 1048576) := by
  unfold maxLen at hm
  unfold laws_szXCellS.f
  rw [w64 (by omega) (by omega)]
  by_cases h : n - (l.length : Int) < 0
  · rw [if_pos h]; exact ⟨_, Ev.now _, by omega⟩
  · rw [if_neg h]; exact ⟨_, Ev.now _, by omega⟩
def cv_S78 (x : S78) : S76 := ⟨x.f0, x.f1⟩
theorem toXCell_ev (x : S78) : Ev (fun k => laws_toXCell.f x.f0 x.f1) ((cv_S78 x).f0, (cv_S78 x).f1) := by
  unfold laws_toXCell.f
  exact Ev.now _
theorem rdat_T78 {pre : List S78} {x : S78} {post : List S78} {n : Nat} (h : n = pre.length) : rd_T78 (pre ++ x :: post) (n : Int) = x := by
  unfold rd_T78; rw [Int.toNat_natCast]; exact getD_at h
theorem toXCellS_l0 : ∀ (post pre : List S78) (pre' post' : List S76), pre'.length = pre.length → post'.length = post.length → pre.length + post.length ≤ 1048576 → 
    Ev (fun k => laws_toXCellS.l0 k (pre ++ post) (pre' ++ post') (pre.length : Int)) (pre' ++ (post.map cv_S78))
  | [], pre, pre', post', h1, h2, hb => by
    obtain rfl : post' = [] := List.length_eq_zero_iff.1 h2
    refine Ev.step (fun k => by simp only [laws_toXCellS.l0]; rw [if_neg (by simp)]) (by simpa using Ev.now _)
  | x :: post, pre, pre', y :: post', h1, h2, hb => by
    have ih := toXCellS_l0 post (pre ++ [x]) (pre' ++ [(cv_S78 x)]) post' (by simp [h1]) (by simpa using h2) (by simp at hb ⊢; omega)
    refine Ev.step (fun k => by
      simp only [laws_toXCellS.l0]
      rw [if_pos (by simp; omega), if_pos (by omega), rdat_T78 rfl]) ?_
    refine bind_ev (toXCell_ev x ) ?_
    refine ite_t (by simp [h1]; omega) ?_
    rw [Int.toNat_natCast, set_at h1.symm, w_succ (by simp at hb; omega)]
    simpa using ih
theorem toXCellS_ev (l : List S78) (hb : l.length ≤ 1048576) : Ev (fun k => laws_toXCellS.f k l) (l.map cv_S78) := by
  have h := toXCellS_l0 l [] [] (List.replicate l.length z76) rfl (by simp) (by simpa using hb)
  unfold laws_toXCellS.f
  refine ite_t (by omega) (ite_t (by have := hb; simp; omega) ?_)
  simpa using h
theorem eqXCell_ev (x : S76) : Ev (fun k => laws_eqXCell.f x.f0 x.f1 x.f0 x.f1) true := by
  unfold laws_eqXCell.f
  repeat first | exact Ev.now _ | refine ite_t rfl ?_ | refine ite_f (by simp) ?_
theorem rdat_T76 {pre : List S76} {x : S76} {post : List S76} {n : Nat} (h : n = pre.length) : rd_T76 (pre ++ x :: post) (n : Int) = x := by
  unfold rd_T76; rw [Int.toNat_natCast]; exact getD_at h
theorem eqXCellS_l0 : ∀ (post pre : List S76), pre.length + post.length ≤ 1048576 → 
    Ev (fun k => laws_eqXCellS.l0 k (pre ++ post) (pre ++ post) (pre.length : Int)) true
  | [], pre, hb => Ev.step (fun k => by simp only [laws_eqXCellS.l0]; rw [if_neg (by simp)]) (Ev.now _)
  | x :: post, pre, hb => by
    have ih := eqXCellS_l0 post (pre ++ [x]) (by simp at hb ⊢; omega)
    refine Ev.step (fun k => by
      simp only [laws_eqXCellS.l0]
      rw [if_pos (by simp; omega), if_pos (by omega), if_pos (by simp; omega), rdat_T76 rfl]) ?_
    refine bind_ev (eqXCell_ev x) (ite_t rfl ?_)
    rw [w_succ (by simp at hb; omega)]
    simpa using ih
theorem eqXCellS_ev (l : List S76) (hb : l.length ≤ 1048576) : Ev (fun k => laws_eqXCellS.f k l l) true := by
  have h := eqXCellS_l0 l [] (by simpa using hb)
  unfold laws_eqXCellS.f
  exact ite_t rfl (by simpa using h)
theorem eqLStep_ev (x : S86) : Ev (fun k => laws_eqLStep.f x.f0 x.f1 x.f2 x.f0 x.f1 x.f2) true := by
  unfold laws_eqLStep.f
  repeat first | exact Ev.now _ | refine ite_t rfl ?_ | refine ite_f (by simp) ?_
theorem rdat_T86 {pre : List S86} {x : S86} {post : List S86} {n : Nat} (h : n = pre.length) : rd_T86 (pre ++ x :: post) (n : Int) = x := by
  unfold rd_T86; rw [Int.toNat_natCast]; exact getD_at h
theorem eqLStepS_l0 : ∀ (post pre : List S86), pre.length + post.length ≤ 1048576 → 
    Ev (fun k => laws_eqLStepS.l0 k (pre ++ post) (pre ++ post) (pre.length : Int)) true
  | [], pre, hb => Ev.step (fun k => by simp only [laws_eqLStepS.l0]; rw [if_neg (by simp)]) (Ev.now _)
  | x :: post, pre, hb => by
    have ih := eqLStepS_l0 post (pre ++ [x]) (by simp at hb ⊢; omega)
    refine Ev.step (fun k => by
      simp only [laws_eqLStepS.l0]
      rw [if_pos (by simp; omega), if_pos (by omega), if_pos (by simp; omega), rdat_T86 rfl]) ?_
    refine bind_ev (eqLStep_ev x) (ite_t rfl ?_)
    rw [w_succ (by simp at hb; omega)]
    simpa using ih
theorem eqLStepS_ev (l : List S86) (hb : l.length ≤ 1048576) : Ev (fun k => laws_eqLStepS.f k l l) true := by
  have h := eqLStepS_l0 l [] (by simpa using hb)
  unfold laws_eqLStepS.f
  exact ite_t rfl (by simpa using h)
theorem eqGuard_ev (x : S63) : Ev (fun k => laws_eqGuard.f x.f0 x.f1 x.f2 x.f3 x.f0 x.f1 x.f2 x.f3) true := by
  unfold laws_eqGuard.f
  repeat first | exact Ev.now _ | refine ite_t rfl ?_ | refine ite_f (by simp) ?_
theorem rdat_T63 {pre : List S63} {x : S63} {post : List S63} {n : Nat} (h : n = pre.length) : rd_T63 (pre ++ x :: post) (n : Int) = x := by
  unfold rd_T63; rw [Int.toNat_natCast]; exact getD_at h
theorem eqGuardS_l0 : ∀ (post pre : List S63), pre.length + post.length ≤ 1048576 → 
    Ev (fun k => laws_eqGuardS.l0 k (pre ++ post) (pre ++ post) (pre.length : Int)) true
  | [], pre, hb => Ev.step (fun k => by simp only [laws_eqGuardS.l0]; rw [if_neg (by simp)]) (Ev.now _)
  | x :: post, pre, hb => by
    have ih := eqGuardS_l0 post (pre ++ [x]) (by simp at hb ⊢; omega)
    refine Ev.step (fun k => by
      simp only [laws_eqGuardS.l0]
      rw [if_pos (by simp; omega), if_pos (by omega), if_pos (by simp; omega), rdat_T63 rfl]) ?_
    refine bind_ev (eqGuard_ev x) (ite_t rfl ?_)
    rw [w_succ (by simp at hb; omega)]
    simpa using ih
theorem eqGuardS_ev (l : List S63) (hb : l.length ≤ 1048576) : Ev (fun k => laws_eqGuardS.f k l l) true := by
  have h := eqGuardS_l0 l [] (by simpa using hb)
  unfold laws_eqGuardS.f
  exact ite_t rfl (by simpa using h)
def bd_S38 (x : S38) : Prop := x.f0.length ≤ 1048576 ∧ x.f1.length ≤ 1048576
theorem eqLined_ev (x : S38) (hb : bd_S38 x) : Ev (fun k => laws_eqLined.f k x.f0 x.f1 x.f0 x.f1) true := by
  unfold laws_eqLined.f
  repeat first | exact Ev.now _ | refine ite_t rfl ?_ | refine ite_f (by simp) ?_ | refine bind_ev (eqLStepS_ev x.f0 hb.1) ?_ | refine bind_ev (eqGuardS_ev x.f1 hb.2) ?_
end Go.Proofs.Ytgjojppbichaiaa.Pure
