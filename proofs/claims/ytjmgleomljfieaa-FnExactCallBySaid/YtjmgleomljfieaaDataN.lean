/- What the laws' own helpers come to: sizes, copies, comparisons, marks. Conditions: none. -/
import Derived.Test.YtjmgleomljfieaaKit
import Derived.Test.YtjmgleomljfieaaWf
import Derived.Test.YtjmgleomljfieaaQx0
import Derived.Test.YtjmgleomljfieaaQx1
import Derived.Test.YtjmgleomljfieaaQx2
import Derived.Test.YtjmgleomljfieaaQx3
set_option linter.unusedVariables false
set_option linter.unusedSimpArgs false
namespace Go.Proofs.Ytjmgleomljfieaa.Pure
open Go.RowKit Go.Proofs.Ytjmgleomljfieaa.Q Go.Proofs.YtjmgleomljfieaaW.PrintWords Go.Proofs.YtjmgleomljfieaaW.PrintLast Go.Proofs.Ytjmgleomljfieaa.Kit Go.Proofs.Ytjmgleomljfieaa.Wf

theorem szIntS_ok (l : List Int) (n : Int) (h0 : 0 ≤ n) (h : n ≤ 1048576) (hm : l.length ≤ maxLen) : ∃ r, Ev (fun k => laws_szIntS.f l n) r ∧ (0 ≤ r → r ≤ n ∧ l.length ≤ 1048576) := by
  unfold maxLen at hm
  unfold laws_szIntS.f
  rw [w64 (by omega) (by omega)]
  by_cases h : n - (l.length : Int) < 0
  · rw [if_pos h]; exact ⟨_, Ev.now _, by omega⟩
  · rw [if_neg h]; exact ⟨_, Ev.now _, by omega⟩
def bd_S111 (x : S111) : Prop := True ∧ x.f1.length ≤ 1048576
theorem szClass_ok (x : S111) (n : Int) (h0 : 0 ≤ n) (h : n ≤ 1048576) (hp : wf_S111 x) : ∃ r, Ev (fun k => laws_szClass.f x.f0 x.f1 n) r ∧ (0 ≤ r → r ≤ n ∧ bd_S111 x) := by
  obtain ⟨q0, q1⟩ := hp
  unfold laws_szClass.f
  obtain ⟨z0, hz0, hy0⟩ := szIntS_ok x.f1 n (by omega) (by omega) q1.1
  by_cases c0 : z0 < 0
  · exact ⟨-1, bind_ev hz0 (ite_t c0 (Ev.now _)), by omega⟩
  have b0 := hy0 (by omega)
  exact ⟨z0, bind_ev hz0 (ite_f c0 ((Ev.now _))), fun _ => ⟨by omega, trivial, b0.2⟩⟩
theorem rdat_T111 {pre : List S111} {x : S111} {post : List S111} {n : Nat} (h : n = pre.length) : rd_T111 (pre ++ x :: post) (n : Int) = x := by
  unfold rd_T111; rw [Int.toNat_natCast]; exact getD_at h
theorem szClassS_l0 : ∀ (post pre : List S111) (n : Int), pre.length + post.length ≤ 1048576 → 0 ≤ n → n ≤ 1048576 → (∀ x ∈ post, wf_S111 x) →
    ∃ r, Ev (fun k => laws_szClassS.l0 k (pre ++ post) n (pre.length : Int)) r ∧ (0 ≤ r → r ≤ n ∧ ∀ x ∈ post, bd_S111 x)
  | [], pre, n, hb, h0, h, hw => ⟨n, Ev.step (fun k => by simp only [laws_szClassS.l0]; rw [if_neg (by simp)]) (Ev.now _), fun _ => ⟨by omega, by simp⟩⟩
  | x :: post, pre, n, hb, h0, h, hw => by
    obtain ⟨z, hz, hz2⟩ := szClass_ok x n h0 h (hw x (by simp))
    by_cases hc : z < 0
    · refine ⟨-1, ?_, by omega⟩
      refine Ev.step (fun k => by
        simp only [laws_szClassS.l0]
        rw [if_pos (by simp; omega), if_pos (by omega), rdat_T111 rfl]) ?_
      exact bind_ev hz (ite_t hc (Ev.now _))
    · obtain ⟨r, hr, hr2⟩ := szClassS_l0 post (pre ++ [x]) z (by simp at hb ⊢; omega) (by omega) (by have := (hz2 (by omega)).1; omega) (fun y hy => hw y (by simp [hy]))
      refine ⟨r, ?_, fun h2 => ⟨by have := (hr2 h2).1; have := (hz2 (by omega)).1; omega, fun y hy => ?_⟩⟩
      · refine Ev.step (fun k => by
          simp only [laws_szClassS.l0]
          rw [if_pos (by simp; omega), if_pos (by omega), rdat_T111 rfl]) ?_
        refine bind_ev hz (ite_f hc ?_)
        rw [w_succ (by simp at hb; omega)]
        simpa using hr
      · rcases List.mem_cons.1 hy with rfl | hy
        · exact (hz2 (by omega)).2
        · exact (hr2 h2).2 y hy
theorem szClassS_ok (l : List S111) (n : Int) (h0 : 0 ≤ n) (h : n ≤ 1048576) (hm : (l.length ≤ maxLen ∧ ∀ x ∈ l, wf_S111 x)) : ∃ r, Ev (fun k => laws_szClassS.f k l n) r ∧ (0 ≤ r → r ≤ n ∧ (l.length ≤ 1048576 ∧ ∀ x ∈ l, bd_S111 x)) := by
  obtain ⟨hm, hw⟩ := hm
  unfold maxLen at hm
  unfold laws_szClassS.f
  rw [w64 (by omega) (by omega)]
  by_cases hc : n - (l.length : Int) < 0
  · exact ⟨-1, ite_t hc (Ev.now _), by omega⟩
  · obtain ⟨r, hr, hr2⟩ := szClassS_l0 l [] (n - l.length) (by simp; omega) (by omega) (by omega) hw
    exact ⟨r, ite_f hc (by simpa using hr), fun h2 => ⟨by have := (hr2 h2).1; omega, by omega, (hr2 h2).2⟩⟩
def bd_S24 (x : S24) : Prop := (x.f0.length ≤ 1048576 ∧ ∀ y ∈ x.f0, bd_S111 y) ∧ True
theorem szWorld_ok (x : S24) (n : Int) (h0 : 0 ≤ n) (h : n ≤ 1048576) (hp : wf_S24 x) : ∃ r, Ev (fun k => laws_szWorld.f k x.f0 x.f1 n) r ∧ (0 ≤ r → r ≤ n ∧ bd_S24 x) := by
  obtain ⟨q0, q1⟩ := hp
  unfold laws_szWorld.f
  obtain ⟨z0, hz0, hy0⟩ := szClassS_ok x.f0 n (by omega) (by omega) q0
  by_cases c0 : z0 < 0
  · exact ⟨-1, bind_ev hz0 (ite_t c0 (Ev.now _)), by omega⟩
  have b0 := hy0 (by omega)
  exact ⟨z0, bind_ev hz0 (ite_f c0 ((Ev.now _))), fun _ => ⟨by omega, b0.2, trivial⟩⟩
theorem toIntS_l0 : ∀ (post pre : List Int) (pre' post' : List Int), pre'.length = pre.length → post'.length = post.length → pre.length + post.length ≤ 1048576 → 
    Ev (fun k => laws_toIntS.l0 k (pre ++ post) (pre' ++ post') (pre.length : Int)) (pre' ++ post)
  | [], pre, pre', post', h1, h2, hb => by
    obtain rfl : post' = [] := List.length_eq_zero_iff.1 h2
    refine Ev.step (fun k => by simp only [laws_toIntS.l0]; rw [if_neg (by simp)]) (by simpa using Ev.now _)
  | x :: post, pre, pre', y :: post', h1, h2, hb => by
    have ih := toIntS_l0 post (pre ++ [x]) (pre' ++ [x]) post' (by simp [h1]) (by simpa using h2) (by simp at hb ⊢; omega)
    refine Ev.step (fun k => by
      simp only [laws_toIntS.l0]
      rw [if_pos (by simp; omega), if_pos (by omega), if_pos (by simp [h1]; omega), rd_at rfl, Int.toNat_natCast, set_at h1.symm, w_succ (by simp at hb; omega)]) ?_
    simpa using ih
theorem toIntS_ev (l : List Int) (hb : l.length ≤ 1048576) : Ev (fun k => laws_toIntS.f k l) l := by
  have h := toIntS_l0 l [] [] (List.replicate l.length 0) rfl (by simp) (by simpa using hb)
  unfold laws_toIntS.f
  refine ite_t (by omega) (ite_t (by have := hb; simp; omega) ?_)
  simpa using h
def cv_S111 (x : S111) : S82 := ⟨x.f0, x.f1⟩
theorem toClass_ev (x : S111) (hb : bd_S111 x) : Ev (fun k => laws_toClass.f k x.f0 x.f1) ((cv_S111 x).f0, (cv_S111 x).f1) := by
  unfold laws_toClass.f
  refine bind_ev (toIntS_ev _ hb.2) ?_
  exact Ev.now _
theorem toClassS_l0 : ∀ (post pre : List S111) (pre' post' : List S82), pre'.length = pre.length → post'.length = post.length → pre.length + post.length ≤ 1048576 → (∀ x ∈ post, bd_S111 x) →
    Ev (fun k => laws_toClassS.l0 k (pre ++ post) (pre' ++ post') (pre.length : Int)) (pre' ++ (post.map cv_S111))
  | [], pre, pre', post', h1, h2, hb, hw => by
    obtain rfl : post' = [] := List.length_eq_zero_iff.1 h2
    refine Ev.step (fun k => by simp only [laws_toClassS.l0]; rw [if_neg (by simp)]) (by simpa using Ev.now _)
  | x :: post, pre, pre', y :: post', h1, h2, hb, hw => by
    have ih := toClassS_l0 post (pre ++ [x]) (pre' ++ [(cv_S111 x)]) post' (by simp [h1]) (by simpa using h2) (by simp at hb ⊢; omega) (fun y hy => hw y (by simp [hy]))
    refine Ev.step (fun k => by
      simp only [laws_toClassS.l0]
      rw [if_pos (by simp; omega), if_pos (by omega), rdat_T111 rfl]) ?_
    refine bind_ev (toClass_ev x (hw x (by simp))) ?_
    refine ite_t (by simp [h1]; omega) ?_
    rw [Int.toNat_natCast, set_at h1.symm, w_succ (by simp at hb; omega)]
    simpa using ih
theorem toClassS_ev (l : List S111) (hb : (l.length ≤ 1048576 ∧ ∀ x ∈ l, bd_S111 x)) : Ev (fun k => laws_toClassS.f k l) (l.map cv_S111) := by
  have h := toClassS_l0 l [] [] (List.replicate l.length z82) rfl (by simp) (by simpa using hb.1) hb.2
  unfold laws_toClassS.f
  refine ite_t (by omega) (ite_t (by have := hb.1; simp; omega) ?_)
  simpa using h
def cv_S24 (x : S24) : S29 := ⟨(x.f0.map cv_S111), x.f1⟩
theorem toWorld_ev (x : S24) (hb : bd_S24 x) : Ev (fun k => laws_toWorld.f k x.f0 x.f1) ((cv_S24 x).f0, (cv_S24 x).f1) := by
  unfold laws_toWorld.f
  refine bind_ev (toClassS_ev _ hb.1) ?_
  exact Ev.now _
theorem eqIntS_l0 : ∀ (post pre : List Int), pre.length + post.length ≤ 1048576 → 
    Ev (fun k => laws_eqIntS.l0 k (pre ++ post) (pre ++ post) (pre.length : Int)) true
  | [], pre, hb => Ev.step (fun k => by simp only [laws_eqIntS.l0]; rw [if_neg (by simp)]) (Ev.now _)
  | x :: post, pre, hb => by
    have ih := eqIntS_l0 post (pre ++ [x]) (by simp at hb ⊢; omega)
    refine Ev.step (fun k => by
      simp only [laws_eqIntS.l0]
      rw [if_pos (by simp; omega), if_pos (by omega), if_pos (by simp; omega), if_pos trivial, w_succ (by simp at hb; omega)]) ?_
    simpa using ih
theorem eqIntS_ev (l : List Int) (hb : l.length ≤ 1048576) : Ev (fun k => laws_eqIntS.f k l l) true := by
  have h := eqIntS_l0 l [] (by simpa using hb)
  unfold laws_eqIntS.f
  exact ite_t rfl (by simpa using h)
def bd_S82 (x : S82) : Prop := True ∧ x.f1.length ≤ 1048576
theorem eqClass_ev (x : S82) (hb : bd_S82 x) : Ev (fun k => laws_eqClass.f k x.f0 x.f1 x.f0 x.f1) true := by
  unfold laws_eqClass.f
  repeat first | exact Ev.now _ | refine ite_t rfl ?_ | refine ite_f (by simp) ?_ | refine bind_ev (eqIntS_ev x.f1 hb.2) ?_
theorem rdat_T82 {pre : List S82} {x : S82} {post : List S82} {n : Nat} (h : n = pre.length) : rd_T82 (pre ++ x :: post) (n : Int) = x := by
  unfold rd_T82; rw [Int.toNat_natCast]; exact getD_at h
theorem eqClassS_l0 : ∀ (post pre : List S82), pre.length + post.length ≤ 1048576 → (∀ x ∈ post, bd_S82 x) →
    Ev (fun k => laws_eqClassS.l0 k (pre ++ post) (pre ++ post) (pre.length : Int)) true
  | [], pre, hb, hw => Ev.step (fun k => by simp only [laws_eqClassS.l0]; rw [if_neg (by simp)]) (Ev.now _)
  | x :: post, pre, hb, hw => by
    have ih := eqClassS_l0 post (pre ++ [x]) (by simp at hb ⊢; omega) (fun y hy => hw y (by simp [hy]))
    refine Ev.step (fun k => by
      simp only [laws_eqClassS.l0]
      rw [if_pos (by simp; omega), if_pos (by omega), if_pos (by simp; omega), rdat_T82 rfl]) ?_
    refine bind_ev (eqClass_ev x (hw x (by simp))) (ite_t rfl ?_)
    rw [w_succ (by simp at hb; omega)]
    simpa using ih
theorem eqClassS_ev (l : List S82) (hb : (l.length ≤ 1048576 ∧ ∀ x ∈ l, bd_S82 x)) : Ev (fun k => laws_eqClassS.f k l l) true := by
  have h := eqClassS_l0 l [] (by simpa using hb.1) hb.2
  unfold laws_eqClassS.f
  exact ite_t rfl (by simpa using h)
def bd_S29 (x : S29) : Prop := (x.f0.length ≤ 1048576 ∧ ∀ y ∈ x.f0, bd_S82 y) ∧ True
theorem eqWorld_ev (x : S29) (hb : bd_S29 x) : Ev (fun k => laws_eqWorld.f k x.f0 x.f1 x.f0 x.f1) true := by
  unfold laws_eqWorld.f
  repeat first | exact Ev.now _ | refine ite_t rfl ?_ | refine ite_f (by simp) ?_ | refine bind_ev (eqClassS_ev x.f0 hb.1) ?_
theorem eqWay_ev (x : S97) : Ev (fun k => laws_eqWay.f x.f0 x.f1 x.f0 x.f1) true := by
  unfold laws_eqWay.f
  repeat first | exact Ev.now _ | refine ite_t rfl ?_ | refine ite_f (by simp) ?_
theorem rdat_T97 {pre : List S97} {x : S97} {post : List S97} {n : Nat} (h : n = pre.length) : rd_T97 (pre ++ x :: post) (n : Int) = x := by
  unfold rd_T97; rw [Int.toNat_natCast]; exact getD_at h
theorem eqWayS_l0 : ∀ (post pre : List S97), pre.length + post.length ≤ 1048576 → 
    Ev (fun k => laws_eqWayS.l0 k (pre ++ post) (pre ++ post) (pre.length : Int)) true
  | [], pre, hb => Ev.step (fun k => by simp only [laws_eqWayS.l0]; rw [if_neg (by simp)]) (Ev.now _)
  | x :: post, pre, hb => by
    have ih := eqWayS_l0 post (pre ++ [x]) (by simp at hb ⊢; omega)
    refine Ev.step (fun k => by
      simp only [laws_eqWayS.l0]
      rw [if_pos (by simp; omega), if_pos (by omega), if_pos (by simp; omega), rdat_T97 rfl]) ?_
    refine bind_ev (eqWay_ev x) (ite_t rfl ?_)
    rw [w_succ (by simp at hb; omega)]
    simpa using ih
theorem eqWayS_ev (l : List S97) (hb : l.length ≤ 1048576) : Ev (fun k => laws_eqWayS.f k l l) true := by
  have h := eqWayS_l0 l [] (by simpa using hb)
  unfold laws_eqWayS.f
  exact ite_t rfl (by simpa using h)
def bd_S44 (x : S44) : Prop := True ∧ True ∧ x.f2.length ≤ 1048576 ∧ True ∧ True ∧ True
theorem eqCache_ev (x : S44) (hb : bd_S44 x) : Ev (fun k => laws_eqCache.f k x.f0 x.f1 x.f2 x.f3 x.f4 x.f5 x.f0 x.f1 x.f2 x.f3 x.f4 x.f5) true := by
  unfold laws_eqCache.f
  repeat first | exact Ev.now _ | refine ite_t rfl ?_ | refine ite_f (by simp) ?_ | refine bind_ev (eqWayS_ev x.f2 hb.2.2.1) ?_
theorem szWayS_ok (l : List S117) (n : Int) (h0 : 0 ≤ n) (h : n ≤ 1048576) (hm : l.length ≤ maxLen) : ∃ r, Ev (fun k => laws_szWayS.f l n) r ∧ (0 ≤ r → r ≤ n ∧ l.length ≤ 1048576) := by
  unfold maxLen at hm
  unfold laws_szWayS.f
  rw [w64 (by omega) (by omega)]
  by_cases h : n - (l.length : Int) < 0
  · rw [if_pos h]; exact ⟨_, Ev.now _, by omega⟩
  · rw [if_neg h]; exact ⟨_, Ev.now _, by omega⟩
def bd_S52 (x : S52) : Prop := True ∧ True ∧ x.f2.length ≤ 1048576 ∧ True ∧ True ∧ True
theorem szCache_ok (x : S52) (n : Int) (h0 : 0 ≤ n) (h : n ≤ 1048576) (hp : wf_S52 x) : ∃ r, Ev (fun k => laws_szCache.f x.f0 x.f1 x.f2 x.f3 x.f4 x.f5 n) r ∧ (0 ≤ r → r ≤ n ∧ bd_S52 x) := by
  obtain ⟨q0, q1, q2, q3, q4, q5⟩ := hp
  unfold laws_szCache.f
  obtain ⟨z0, hz0, hy0⟩ := szWayS_ok x.f2 n (by omega) (by omega) q2.1
  by_cases c0 : z0 < 0
  · exact ⟨-1, bind_ev hz0 (ite_t c0 (Ev.now _)), by omega⟩
  have b0 := hy0 (by omega)
  exact ⟨z0, bind_ev hz0 (ite_f c0 ((Ev.now _))), fun _ => ⟨by omega, trivial, trivial, b0.2, trivial, trivial, trivial⟩⟩
def cv_S117 (x : S117) : S97 := ⟨x.f0, x.f1⟩
theorem toWay_ev (x : S117) : Ev (fun k => laws_toWay.f x.f0 x.f1) ((cv_S117 x).f0, (cv_S117 x).f1) := by
  unfold laws_toWay.f
  exact Ev.now _
theorem rdat_T117 {pre : List S117} {x : S117} {post : List S117} {n : Nat} (h : n = pre.length) : rd_T117 (pre ++ x :: post) (n : Int) = x := by
  unfold rd_T117; rw [Int.toNat_natCast]; exact getD_at h
theorem toWayS_l0 : ∀ (post pre : List S117) (pre' post' : List S97), pre'.length = pre.length → post'.length = post.length → pre.length + post.length ≤ 1048576 → 
    Ev (fun k => laws_toWayS.l0 k (pre ++ post) (pre' ++ post') (pre.length : Int)) (pre' ++ (post.map cv_S117))
  | [], pre, pre', post', h1, h2, hb => by
    obtain rfl : post' = [] := List.length_eq_zero_iff.1 h2
    refine Ev.step (fun k => by simp only [laws_toWayS.l0]; rw [if_neg (by simp)]) (by simpa using Ev.now _)
  | x :: post, pre, pre', y :: post', h1, h2, hb => by
    have ih := toWayS_l0 post (pre ++ [x]) (pre' ++ [(cv_S117 x)]) post' (by simp [h1]) (by simpa using h2) (by simp at hb ⊢; omega)
    refine Ev.step (fun k => by
      simp only [laws_toWayS.l0]
      rw [if_pos (by simp; omega), if_pos (by omega), rdat_T117 rfl]) ?_
    refine bind_ev (toWay_ev x ) ?_
    refine ite_t (by simp [h1]; omega) ?_
    rw [Int.toNat_natCast, set_at h1.symm, w_succ (by simp at hb; omega)]
    simpa using ih
theorem toWayS_ev (l : List S117) (hb : l.length ≤ 1048576) : Ev (fun k => laws_toWayS.f k l) (l.map cv_S117) := by
  have h := toWayS_l0 l [] [] (List.replicate l.length z97) rfl (by simp) (by simpa using hb)
  unfold laws_toWayS.f
  refine ite_t (by omega) (ite_t (by have := hb; simp; omega) ?_)
  simpa using h
def cv_S52 (x : S52) : S44 := ⟨x.f0, x.f1, (x.f2.map cv_S117), x.f3, x.f4, x.f5⟩
theorem toCache_ev (x : S52) (hb : bd_S52 x) : Ev (fun k => laws_toCache.f k x.f0 x.f1 x.f2 x.f3 x.f4 x.f5) ((cv_S52 x).f0, (cv_S52 x).f1, (cv_S52 x).f2, (cv_S52 x).f3, (cv_S52 x).f4, (cv_S52 x).f5) := by
  unfold laws_toCache.f
  refine bind_ev (toWayS_ev _ hb.2.2.1) ?_
  exact Ev.now _
end Go.Proofs.Ytjmgleomljfieaa.Pure
