/- What the laws' own helpers come to: sizes, copies, comparisons, marks. Conditions: none. -/
import Derived.Test.YtnocadhibajaoaaKit
import Derived.Test.YtnocadhibajaoaaWf
import Derived.Test.YtnocadhibajaoaaQx0
import Derived.Test.YtnocadhibajaoaaQx1
import Derived.Test.YtnocadhibajaoaaQx2
set_option linter.unusedVariables false
set_option linter.unusedSimpArgs false
namespace Go.Proofs.Ytnocadhibajaoaa.Pure
open Go.RowKit Go.Proofs.Ytnocadhibajaoaa.Q Go.Proofs.YtnocadhibajaoaaW.PrintWords Go.Proofs.YtnocadhibajaoaaW.PrintLast Go.Proofs.Ytnocadhibajaoaa.Kit Go.Proofs.Ytnocadhibajaoaa.Wf

theorem eqIntS_l0 : ∀ (post pre : List Int), pre.length + post.length ≤ 1048576 → 
    Ev (fun k => laws_eqIntS.l0 k (pre ++ post) (pre ++ post) (pre.length : Int)) true
  | [], pre, hb => Ev.step (fun k => by simp only [laws_eqIntS.l0]; rw [if_neg (by simp)]) (Ev.now _)
  | x :: post, pre, hb => by
    have ih := eqIntS_l0 post (pre ++ [x]) (by simp at hb ⊢; omega)
    refine Ev.step (fun k => by
      simp only [laws_eqIntS.l0]
      rw [if_pos (by simp; omega), if_pos (by omega), if_pos (by simp; omega), if_pos trivial, w_succ (by simp at hb; omega)]) ?_
    simpa using ih
theorem eqIntS_ev (l : List Int) (hb : l.length ≤ 1048576) : Ev (fun k => laws_eqIntS.f k l l) true := by
  have h := eqIntS_l0 l [] (by simpa using hb)
  unfold laws_eqIntS.f
  exact ite_t rfl (by simpa using h)
def bd_S45 (x : S45) : Prop := True ∧ True ∧ x.f2.length ≤ 1048576
theorem eqObject_ev (x : S45) (hb : bd_S45 x) : Ev (fun k => laws_eqObject.f k x.f0 x.f1 x.f2 x.f0 x.f1 x.f2) true := by
  unfold laws_eqObject.f
  repeat first | exact Ev.now _ | refine ite_t rfl ?_ | refine ite_f (by simp) ?_ | refine bind_ev (eqIntS_ev x.f2 hb.2.2) ?_
theorem rdat_T45 {pre : List S45} {x : S45} {post : List S45} {n : Nat} (h : n = pre.length) : rd_T45 (pre ++ x :: post) (n : Int) = x := by
  unfold rd_T45; rw [Int.toNat_natCast]; exact getD_at h
theorem eqObjectS_l0 : ∀ (post pre : List S45), pre.length + post.length ≤ 1048576 → (∀ x ∈ post, bd_S45 x) →
    Ev (fun k => laws_eqObjectS.l0 k (pre ++ post) (pre ++ post) (pre.length : Int)) true
  | [], pre, hb, hw => Ev.step (fun k => by simp only [laws_eqObjectS.l0]; rw [if_neg (by simp)]) (Ev.now _)
  | x :: post, pre, hb, hw => by
    have ih := eqObjectS_l0 post (pre ++ [x]) (by simp at hb ⊢; omega) (fun y hy => hw y (by simp [hy]))
    refine Ev.step (fun k => by
      simp only [laws_eqObjectS.l0]
      rw [if_pos (by simp; omega), if_pos (by omega), if_pos (by simp; omega), rdat_T45 rfl]) ?_
    refine bind_ev (eqObject_ev x (hw x (by simp))) (ite_t rfl ?_)
    rw [w_succ (by simp at hb; omega)]
    simpa using ih
theorem eqObjectS_ev (l : List S45) (hb : (l.length ≤ 1048576 ∧ ∀ x ∈ l, bd_S45 x)) : Ev (fun k => laws_eqObjectS.f k l l) true := by
  have h := eqObjectS_l0 l [] (by simpa using hb.1) hb.2
  unfold laws_eqObjectS.f
  exact ite_t rfl (by simpa using h)
def bd_S25 (x : S25) : Prop := (x.f0.length ≤ 1048576 ∧ ∀ y ∈ x.f0, bd_S45 y) ∧ x.f1.length ≤ 1048576 ∧ x.f2.length ≤ 1048576 ∧ True
theorem eqHeap_ev (x : S25) (hb : bd_S25 x) : Ev (fun k => laws_eqHeap.f k x.f0 x.f1 x.f2 x.f3 x.f0 x.f1 x.f2 x.f3) true := by
  unfold laws_eqHeap.f
  repeat first | exact Ev.now _ | refine ite_t rfl ?_ | refine ite_f (by simp) ?_ | refine bind_ev (eqObjectS_ev x.f0 hb.1) ?_ | refine bind_ev (eqIntS_ev x.f1 hb.2.1) ?_ | refine bind_ev (eqIntS_ev x.f2 hb.2.2.1) ?_
theorem szIntS_ok (l : List Int) (n : Int) (h0 : 0 ≤ n) (h : n ≤ 1048576) (hm : l.length ≤ maxLen) : ∃ r, Ev (fun k => laws_szIntS.f l n) r ∧ (0 ≤ r → r ≤ n ∧ l.length ≤ 1048576) := by
  unfold maxLen at hm
  unfold laws_szIntS.f
  rw [w64 (by omega) (by omega)]
  by_cases h : n - (l.length : Int) < 0
  · rw [if_pos h]; exact ⟨_, Ev.now _, by omega⟩
  · rw [if_neg h]; exact ⟨_, Ev.now _, by omega⟩
def bd_S59 (x : S59) : Prop := True ∧ True ∧ x.f2.length ≤ 1048576
theorem szObject_ok (x : S59) (n : Int) (h0 : 0 ≤ n) (h : n ≤ 1048576) (hp : wf_S59 x) : ∃ r, Ev (fun k => laws_szObject.f x.f0 x.f1 x.f2 n) r ∧ (0 ≤ r → r ≤ n ∧ bd_S59 x) := by
  obtain ⟨q0, q1, q2⟩ := hp
  unfold laws_szObject.f
  obtain ⟨z0, hz0, hy0⟩ := szIntS_ok x.f2 n (by omega) (by omega) q2.1
  by_cases c0 : z0 < 0
  · exact ⟨-1, bind_ev hz0 (ite_t c0 (Ev.now _)), by omega⟩
  have b0 := hy0 (by omega)
  exact ⟨z0, bind_ev hz0 (ite_f c0 ((Ev.now _))), fun _ => ⟨by omega, trivial, trivial, b0.2⟩⟩
theorem rdat_T59 {pre : List S59} {x : S59} {post : List S59} {n : Nat} (h : n = pre.length) : rd_T59 (pre ++ x :: post) (n : Int) = x := by
  unfold rd_T59; rw [Int.toNat_natCast]; exact getD_at h
theorem szObjectS_l0 : ∀ (post pre : List S59) (n : Int), pre.length + post.length ≤ 1048576 → 0 ≤ n → n ≤ 1048576 → (∀ x ∈ post, wf_S59 x) →
    ∃ r, Ev (fun k => laws_szObjectS.l0 k (pre ++ post) n (pre.length : Int)) r ∧ (0 ≤ r → r ≤ n ∧ ∀ x ∈ post, bd_S59 x)
  | [], pre, n, hb, h0, h, hw => ⟨n, Ev.step (fun k => by simp only [laws_szObjectS.l0]; rw [if_neg (by simp)]) (Ev.now _), fun _ => ⟨by omega, by simp⟩⟩
  | x :: post, pre, n, hb, h0, h, hw => by
    obtain ⟨z, hz, hz2⟩ := szObject_ok x n h0 h (hw x (by simp))
    by_cases hc : z < 0
    · refine ⟨-1, ?_, by omega⟩
      refine Ev.step (fun k => by
        simp only [laws_szObjectS.l0]
        rw [if_pos (by simp; omega), if_pos (by omega), rdat_T59 rfl]) ?_
      exact bind_ev hz (ite_t hc (Ev.now _))
    · obtain ⟨r, hr, hr2⟩ := szObjectS_l0 post (pre ++ [x]) z (by simp at hb ⊢; omega) (by omega) (by have := (hz2 (by omega)).1; omega) (fun y hy => hw y (by simp [hy]))
      refine ⟨r, ?_, fun h2 => ⟨by have := (hr2 h2).1; have := (hz2 (by omega)).1; omega, fun y hy => ?_⟩⟩
      · refine Ev.step (fun k => by
          simp only [laws_szObjectS.l0]
          rw [if_pos (by simp; omega), if_pos (by omega), rdat_T59 rfl]) ?_
        refine bind_ev hz (ite_f hc ?_)
        rw [w_succ (by simp at hb; omega)]
        simpa using hr
      · rcases List.mem_cons.1 hy with rfl | hy
        · exact (hz2 (by omega)).2
        · exact (hr2 h2).2 y hy
theorem szObjectS_ok (l : List S59) (n : Int) (h0 : 0 ≤ n) (h : n ≤ 1048576) (hm : (l.length ≤ maxLen ∧ ∀ x ∈ l, wf_S59 x)) : ∃ r, Ev (fun k => laws_szObjectS.f k l n) r ∧ (0 ≤ r → r ≤ n ∧ (l.length ≤ 1048576 ∧ ∀ x ∈ l, bd_S59 x)) := by
  obtain ⟨hm, hw⟩ := hm
  unfold maxLen at hm
  unfold laws_szObjectS.f
  rw [w64 (by omega) (by omega)]
  by_cases hc : n - (l.length : Int) < 0
  · exact ⟨-1, ite_t hc (Ev.now _), by omega⟩
  · obtain ⟨r, hr, hr2⟩ := szObjectS_l0 l [] (n - l.length) (by simp; omega) (by omega) (by omega) hw
    exact ⟨r, ite_f hc (by simpa using hr), fun h2 => ⟨by have := (hr2 h2).1; omega, by omega, (hr2 h2).2⟩⟩
def bd_S32 (x : S32) : Prop := (x.f0.length ≤ 1048576 ∧ ∀ y ∈ x.f0, bd_S59 y) ∧ x.f1.length ≤ 1048576 ∧ x.f2.length ≤ 1048576 ∧ True
theorem szHeap_ok (x : S32) (n : Int) (h0 : 0 ≤ n) (h : n ≤ 1048576) (hp : wf_S32 x) : ∃ r, Ev (fun k => laws_szHeap.f k x.f0 x.f1 x.f2 x.f3 n) r ∧ (0 ≤ r → r ≤ n ∧ bd_S32 x) := by
  obtain ⟨q0, q1, q2, q3⟩ := hp
  unfold laws_szHeap.f
  obtain ⟨z0, hz0, hy0⟩ := szObjectS_ok x.f0 n (by omega) (by omega) q0
  by_cases c0 : z0 < 0
  · exact ⟨-1, bind_ev hz0 (ite_t c0 (Ev.now _)), by omega⟩
  have b0 := hy0 (by omega)
  obtain ⟨z1, hz1, hy1⟩ := szIntS_ok x.f1 z0 (by omega) (by omega) q1.1
  by_cases c1 : z1 < 0
  · exact ⟨-1, bind_ev hz0 (ite_f c0 (bind_ev hz1 (ite_t c1 (Ev.now _)))), by omega⟩
  have b1 := hy1 (by omega)
  obtain ⟨z2, hz2, hy2⟩ := szIntS_ok x.f2 z1 (by omega) (by omega) q2.1
  by_cases c2 : z2 < 0
  · exact ⟨-1, bind_ev hz0 (ite_f c0 (bind_ev hz1 (ite_f c1 (bind_ev hz2 (ite_t c2 (Ev.now _)))))), by omega⟩
  have b2 := hy2 (by omega)
  exact ⟨z2, bind_ev hz0 (ite_f c0 (bind_ev hz1 (ite_f c1 (bind_ev hz2 (ite_f c2 ((Ev.now _))))))), fun _ => ⟨by omega, b0.2, b1.2, b2.2, trivial⟩⟩
theorem toIntS_l0 : ∀ (post pre : List Int) (pre' post' : List Int), pre'.length = pre.length → post'.length = post.length → pre.length + post.length ≤ 1048576 → 
    Ev (fun k => laws_toIntS.l0 k (pre ++ post) (pre' ++ post') (pre.length : Int)) (pre' ++ post)
  | [], pre, pre', post', h1, h2, hb => by
    obtain rfl : post' = [] := List.length_eq_zero_iff.1 h2
    refine Ev.step (fun k => by simp only [laws_toIntS.l0]; rw [if_neg (by simp)]) (by simpa using Ev.now _)
  | x :: post, pre, pre', y :: post', h1, h2, hb => by
    have ih := toIntS_l0 post (pre ++ [x]) (pre' ++ [x]) post' (by simp [h1]) (by simpa using h2) (by simp at hb ⊢; omega)
    refine Ev.step (fun k => by
      simp only [laws_toIntS.l0]
      rw [if_pos (by simp; omega), if_pos (by omega), if_pos (by simp [h1]; omega), rd_at rfl, Int.toNat_natCast, set_at h1.symm, w_succ (by simp at hb; omega)]) ?_
    simpa using ih
theorem toIntS_ev (l : List Int) (hb : l.length ≤ 1048576) : Ev (fun k => laws_toIntS.f k l) l := by
  have h := toIntS_l0 l [] [] (List.replicate l.length 0) rfl (by simp) (by simpa using hb)
  unfold laws_toIntS.f
  refine ite_t (by omega) (ite_t (by have := hb; simp; omega) ?_)
  simpa using h
def cv_S59 (x : S59) : S45 := ⟨x.f0, x.f1, x.f2⟩
theorem toObject_ev (x : S59) (hb : bd_S59 x) : Ev (fun k => laws_toObject.f k x.f0 x.f1 x.f2) ((cv_S59 x).f0, (cv_S59 x).f1, (cv_S59 x).f2) := by
  unfold laws_toObject.f
  refine bind_ev (toIntS_ev _ hb.2.2) ?_
  exact Ev.now _
theorem toObjectS_l0 : ∀ (post pre : List S59) (pre' post' : List S45), pre'.length = pre.length → post'.length = post.length → pre.length + post.length ≤ 1048576 → (∀ x ∈ post, bd_S59 x) →
    Ev (fun k => laws_toObjectS.l0 k (pre ++ post) (pre' ++ post') (pre.length : Int)) (pre' ++ (post.map cv_S59))
  | [], pre, pre', post', h1, h2, hb, hw => by
    obtain rfl : post' = [] := List.length_eq_zero_iff.1 h2
    refine Ev.step (fun k => by simp only [laws_toObjectS.l0]; rw [if_neg (by simp)]) (by simpa using Ev.now _)
  | x :: post, pre, pre', y :: post', h1, h2, hb, hw => by
    have ih := toObjectS_l0 post (pre ++ [x]) (pre' ++ [(cv_S59 x)]) post' (by simp [h1]) (by simpa using h2) (by simp at hb ⊢; omega) (fun y hy => hw y (by simp [hy]))
    refine Ev.step (fun k => by
      simp only [laws_toObjectS.l0]
      rw [if_pos (by simp; omega), if_pos (by omega), rdat_T59 rfl]) ?_
    refine bind_ev (toObject_ev x (hw x (by simp))) ?_
    refine ite_t (by simp [h1]; omega) ?_
    rw [Int.toNat_natCast, set_at h1.symm, w_succ (by simp at hb; omega)]
    simpa using ih
theorem toObjectS_ev (l : List S59) (hb : (l.length ≤ 1048576 ∧ ∀ x ∈ l, bd_S59 x)) : Ev (fun k => laws_toObjectS.f k l) (l.map cv_S59) := by
  have h := toObjectS_l0 l [] [] (List.replicate l.length z45) rfl (by simp) (by simpa using hb.1) hb.2
  unfold laws_toObjectS.f
  refine ite_t (by omega) (ite_t (by have := hb.1; simp; omega) ?_)
  simpa using h
def cv_S32 (x : S32) : S25 := ⟨(x.f0.map cv_S59), x.f1, x.f2, x.f3⟩
theorem toHeap_ev (x : S32) (hb : bd_S32 x) : Ev (fun k => laws_toHeap.f k x.f0 x.f1 x.f2 x.f3) ((cv_S32 x).f0, (cv_S32 x).f1, (cv_S32 x).f2, (cv_S32 x).f3) := by
  unfold laws_toHeap.f
  refine bind_ev (toObjectS_ev _ hb.1) ?_
  refine bind_ev (toIntS_ev _ hb.2.1) ?_
  refine bind_ev (toIntS_ev _ hb.2.2.1) ?_
  exact Ev.now _
end Go.Proofs.Ytnocadhibajaoaa.Pure
