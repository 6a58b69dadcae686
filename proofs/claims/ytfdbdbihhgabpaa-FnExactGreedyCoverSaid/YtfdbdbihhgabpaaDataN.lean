/- What the laws' own helpers come to: sizes, copies, comparisons, marks. Conditions: none. -/
import Derived.Test.YtfdbdbihhgabpaaKit
import Derived.Test.YtfdbdbihhgabpaaWf
import Derived.Test.YtfdbdbihhgabpaaQx0
import Derived.Test.YtfdbdbihhgabpaaQx1
import Derived.Test.YtfdbdbihhgabpaaQx3
import Derived.Test.YtfdbdbihhgabpaaQx6
import Derived.Test.YtfdbdbihhgabpaaQx7
set_option linter.unusedVariables false
set_option linter.unusedSimpArgs false
namespace Go.Proofs.Ytfdbdbihhgabpaa.Pure
open Go.RowKit Go.Proofs.Ytfdbdbihhgabpaa.Q Go.Proofs.YtfdbdbihhgabpaaW.PrintWords Go.Proofs.YtfdbdbihhgabpaaW.PrintLast Go.Proofs.Ytfdbdbihhgabpaa.Kit Go.Proofs.Ytfdbdbihhgabpaa.Wf

theorem szIntS_ok (l : List Int) (n : Int) (h0 : 0 ≤ n) (h : n ≤ 1048576) (hm : l.length ≤ maxLen) : ∃ r, Ev (fun k => laws_szIntS.f l n) r ∧ (0 ≤ r → r ≤ n ∧ l.length ≤ 1048576) := by
  unfold maxLen at hm
  unfold laws_szIntS.f
  rw [w64 (by omega) (by omega)]
  by_cases h : n - (l.length : Int) < 0
  · rw [if_pos h]; exact ⟨_, Ev.now _, by omega⟩
  · rw [if_neg h]; exact ⟨_, Ev.now _, by omega⟩
def bd_S52 (x : S52) : Prop := x.f0.length ≤ 1048576 ∧ True
theorem szPattern_ok (x : S52) (n : Int) (h0 : 0 ≤ n) (h : n ≤ 1048576) (hp : wf_S52 x) : ∃ r, Ev (fun k => laws_szPattern.f x.f0 x.f1 n) r ∧ (0 ≤ r → r ≤ n ∧ bd_S52 x) := by
  obtain ⟨q0, q1⟩ := hp
  unfold laws_szPattern.f
  obtain ⟨z0, hz0, hy0⟩ := szIntS_ok x.f0 n (by omega) (by omega) q0.1
  by_cases c0 : z0 < 0
  · exact ⟨-1, bind_ev hz0 (ite_t c0 (Ev.now _)), by omega⟩
  have b0 := hy0 (by omega)
  exact ⟨z0, bind_ev hz0 (ite_f c0 ((Ev.now _))), fun _ => ⟨by omega, b0.2, trivial⟩⟩
theorem rdat_T52 {pre : List S52} {x : S52} {post : List S52} {n : Nat} (h : n = pre.length) : rd_T52 (pre ++ x :: post) (n : Int) = x := by
  unfold rd_T52; rw [Int.toNat_natCast]; exact getD_at h
theorem szPatternS_l0 : ∀ (post pre : List S52) (n : Int), pre.length + post.length ≤ 1048576 → 0 ≤ n → n ≤ 1048576 → (∀ x ∈ post, wf_S52 x) →
    ∃ r, Ev (fun k => laws_szPatternS.l0 k (pre ++ post) n (pre.length : Int)) r ∧ (0 ≤ r → r ≤ n ∧ ∀ x ∈ post, bd_S52 x)
  | [], pre, n, hb, h0, h, hw => ⟨n, Ev.step (fun k => by simp only [laws_szPatternS.l0]; rw [if_neg (by simp)]) (Ev.now _), fun _ => ⟨by omega, by simp⟩⟩
  | x :: post, pre, n, hb, h0, h, hw => by
    obtain ⟨z, hz, hz2⟩ := szPattern_ok x n h0 h (hw x (by simp))
    by_cases hc : z < 0
    · refine ⟨-1, ?_, by omega⟩
      refine Ev.step (fun k => by
        simp only [laws_szPatternS.l0]
        rw [if_pos (by simp; omega), if_pos (by omega), rdat_T52 rfl]) ?_
      exact bind_ev hz (ite_t hc (Ev.now _))
    · obtain ⟨r, hr, hr2⟩ := szPatternS_l0 post (pre ++ [x]) z (by simp at hb ⊢; omega) (by omega) (by have := (hz2 (by omega)).1; omega) (fun y hy => hw y (by simp [hy]))
      refine ⟨r, ?_, fun h2 => ⟨by have := (hr2 h2).1; have := (hz2 (by omega)).1; omega, fun y hy => ?_⟩⟩
      · refine Ev.step (fun k => by
          simp only [laws_szPatternS.l0]
          rw [if_pos (by simp; omega), if_pos (by omega), rdat_T52 rfl]) ?_
        refine bind_ev hz (ite_f hc ?_)
        rw [w_succ (by simp at hb; omega)]
        simpa using hr
      · rcases List.mem_cons.1 hy with rfl | hy
        · exact (hz2 (by omega)).2
        · exact (hr2 h2).2 y hy
theorem szPatternS_ok (l : List S52) (n : Int) (h0 : 0 ≤ n) (h : n ≤ 1048576) (hm : (l.length ≤ maxLen ∧ ∀ x ∈ l, wf_S52 x)) : ∃ r, Ev (fun k => laws_szPatternS.f k l n) r ∧ (0 ≤ r → r ≤ n ∧ (l.length ≤ 1048576 ∧ ∀ x ∈ l, bd_S52 x)) := by
  obtain ⟨hm, hw⟩ := hm
  unfold maxLen at hm
  unfold laws_szPatternS.f
  rw [w64 (by omega) (by omega)]
  by_cases hc : n - (l.length : Int) < 0
  · exact ⟨-1, ite_t hc (Ev.now _), by omega⟩
  · obtain ⟨r, hr, hr2⟩ := szPatternS_l0 l [] (n - l.length) (by simp; omega) (by omega) (by omega) hw
    exact ⟨r, ite_f hc (by simpa using hr), fun h2 => ⟨by have := (hr2 h2).1; omega, by omega, (hr2 h2).2⟩⟩
theorem toIntS_l0 : ∀ (post pre : List Int) (pre' post' : List Int), pre'.length = pre.length → post'.length = post.length → pre.length + post.length ≤ 1048576 → 
    Ev (fun k => laws_toIntS.l0 k (pre ++ post) (pre' ++ post') (pre.length : Int)) (pre' ++ post)
  | [], pre, pre', post', h1, h2, hb => by
    obtain rfl : post' = [] := List.length_eq_zero_iff.1 h2
    refine Ev.step (fun k => by simp only [laws_toIntS.l0]; rw [if_neg (by simp)]) (by simpa using Ev.now _)
  | x :: post, pre, pre', y :: post', h1, h2, hb => by
    have ih := toIntS_l0 post (pre ++ [x]) (pre' ++ [x]) post' (by simp [h1]) (by simpa using h2) (by simp at hb ⊢; omega)
    refine Ev.step (fun k => by
      simp only [laws_toIntS.l0]
      rw [if_pos (by simp; omega), if_pos (by omega), if_pos (by simp [h1]; omega), rd_at rfl, Int.toNat_natCast, set_at h1.symm, w_succ (by simp at hb; omega)]) ?_
    simpa using ih
theorem toIntS_ev (l : List Int) (hb : l.length ≤ 1048576) : Ev (fun k => laws_toIntS.f k l) l := by
  have h := toIntS_l0 l [] [] (List.replicate l.length 0) rfl (by simp) (by simpa using hb)
  unfold laws_toIntS.f
  refine ite_t (by omega) (ite_t (by have := hb; simp; omega) ?_)
  simpa using h
def cv_S52 (x : S52) : S57 := ⟨x.f0, x.f1⟩
theorem toPattern_ev (x : S52) (hb : bd_S52 x) : Ev (fun k => laws_toPattern.f k x.f0 x.f1) ((cv_S52 x).f0, (cv_S52 x).f1) := by
  unfold laws_toPattern.f
  refine bind_ev (toIntS_ev _ hb.1) ?_
  exact Ev.now _
theorem toPatternS_l0 : ∀ (post pre : List S52) (pre' post' : List S57), pre'.length = pre.length → post'.length = post.length → pre.length + post.length ≤ 1048576 → (∀ x ∈ post, bd_S52 x) →
    Ev (fun k => laws_toPatternS.l0 k (pre ++ post) (pre' ++ post') (pre.length : Int)) (pre' ++ (post.map cv_S52))
  | [], pre, pre', post', h1, h2, hb, hw => by
    obtain rfl : post' = [] := List.length_eq_zero_iff.1 h2
    refine Ev.step (fun k => by simp only [laws_toPatternS.l0]; rw [if_neg (by simp)]) (by simpa using Ev.now _)
  | x :: post, pre, pre', y :: post', h1, h2, hb, hw => by
    have ih := toPatternS_l0 post (pre ++ [x]) (pre' ++ [(cv_S52 x)]) post' (by simp [h1]) (by simpa using h2) (by simp at hb ⊢; omega) (fun y hy => hw y (by simp [hy]))
    refine Ev.step (fun k => by
      simp only [laws_toPatternS.l0]
      rw [if_pos (by simp; omega), if_pos (by omega), rdat_T52 rfl]) ?_
    refine bind_ev (toPattern_ev x (hw x (by simp))) ?_
    refine ite_t (by simp [h1]; omega) ?_
    rw [Int.toNat_natCast, set_at h1.symm, w_succ (by simp at hb; omega)]
    simpa using ih
theorem toPatternS_ev (l : List S52) (hb : (l.length ≤ 1048576 ∧ ∀ x ∈ l, bd_S52 x)) : Ev (fun k => laws_toPatternS.f k l) (l.map cv_S52) := by
  have h := toPatternS_l0 l [] [] (List.replicate l.length z57) rfl (by simp) (by simpa using hb.1) hb.2
  unfold laws_toPatternS.f
  refine ite_t (by omega) (ite_t (by have := hb.1; simp; omega) ?_)
  simpa using h
theorem eqPiece_ev (x : S63) : Ev (fun k => laws_eqPiece.f x.f0 x.f1 x.f0 x.f1) true := by
  unfold laws_eqPiece.f
  repeat first | exact Ev.now _ | refine ite_t rfl ?_ | refine ite_f (by simp) ?_
theorem rdat_T63 {pre : List S63} {x : S63} {post : List S63} {n : Nat} (h : n = pre.length) : rd_T63 (pre ++ x :: post) (n : Int) = x := by
  unfold rd_T63; rw [Int.toNat_natCast]; exact getD_at h
theorem eqPieceS_l0 : ∀ (post pre : List S63), pre.length + post.length ≤ 1048576 → 
    Ev (fun k => laws_eqPieceS.l0 k (pre ++ post) (pre ++ post) (pre.length : Int)) true
  | [], pre, hb => Ev.step (fun k => by simp only [laws_eqPieceS.l0]; rw [if_neg (by simp)]) (Ev.now _)
  | x :: post, pre, hb => by
    have ih := eqPieceS_l0 post (pre ++ [x]) (by simp at hb ⊢; omega)
    refine Ev.step (fun k => by
      simp only [laws_eqPieceS.l0]
      rw [if_pos (by simp; omega), if_pos (by omega), if_pos (by simp; omega), rdat_T63 rfl]) ?_
    refine bind_ev (eqPiece_ev x) (ite_t rfl ?_)
    rw [w_succ (by simp at hb; omega)]
    simpa using ih
theorem eqPieceS_ev (l : List S63) (hb : l.length ≤ 1048576) : Ev (fun k => laws_eqPieceS.f k l l) true := by
  have h := eqPieceS_l0 l [] (by simpa using hb)
  unfold laws_eqPieceS.f
  exact ite_t rfl (by simpa using h)
theorem eqIntS_l0 : ∀ (post pre : List Int), pre.length + post.length ≤ 1048576 → 
    Ev (fun k => laws_eqIntS.l0 k (pre ++ post) (pre ++ post) (pre.length : Int)) true
  | [], pre, hb => Ev.step (fun k => by simp only [laws_eqIntS.l0]; rw [if_neg (by simp)]) (Ev.now _)
  | x :: post, pre, hb => by
    have ih := eqIntS_l0 post (pre ++ [x]) (by simp at hb ⊢; omega)
    refine Ev.step (fun k => by
      simp only [laws_eqIntS.l0]
      rw [if_pos (by simp; omega), if_pos (by omega), if_pos (by simp; omega), if_pos trivial, w_succ (by simp at hb; omega)]) ?_
    simpa using ih
theorem eqIntS_ev (l : List Int) (hb : l.length ≤ 1048576) : Ev (fun k => laws_eqIntS.f k l l) true := by
  have h := eqIntS_l0 l [] (by simpa using hb)
  unfold laws_eqIntS.f
  exact ite_t rfl (by simpa using h)
def bd_S57 (x : S57) : Prop := x.f0.length ≤ 1048576 ∧ True
theorem eqPattern_ev (x : S57) (hb : bd_S57 x) : Ev (fun k => laws_eqPattern.f k x.f0 x.f1 x.f0 x.f1) true := by
  unfold laws_eqPattern.f
  repeat first | exact Ev.now _ | refine ite_t rfl ?_ | refine ite_f (by simp) ?_ | refine bind_ev (eqIntS_ev x.f0 hb.1) ?_
theorem rdat_T57 {pre : List S57} {x : S57} {post : List S57} {n : Nat} (h : n = pre.length) : rd_T57 (pre ++ x :: post) (n : Int) = x := by
  unfold rd_T57; rw [Int.toNat_natCast]; exact getD_at h
theorem eqPatternS_l0 : ∀ (post pre : List S57), pre.length + post.length ≤ 1048576 → (∀ x ∈ post, bd_S57 x) →
    Ev (fun k => laws_eqPatternS.l0 k (pre ++ post) (pre ++ post) (pre.length : Int)) true
  | [], pre, hb, hw => Ev.step (fun k => by simp only [laws_eqPatternS.l0]; rw [if_neg (by simp)]) (Ev.now _)
  | x :: post, pre, hb, hw => by
    have ih := eqPatternS_l0 post (pre ++ [x]) (by simp at hb ⊢; omega) (fun y hy => hw y (by simp [hy]))
    refine Ev.step (fun k => by
      simp only [laws_eqPatternS.l0]
      rw [if_pos (by simp; omega), if_pos (by omega), if_pos (by simp; omega), rdat_T57 rfl]) ?_
    refine bind_ev (eqPattern_ev x (hw x (by simp))) (ite_t rfl ?_)
    rw [w_succ (by simp at hb; omega)]
    simpa using ih
theorem eqPatternS_ev (l : List S57) (hb : (l.length ≤ 1048576 ∧ ∀ x ∈ l, bd_S57 x)) : Ev (fun k => laws_eqPatternS.f k l l) true := by
  have h := eqPatternS_l0 l [] (by simpa using hb.1) hb.2
  unfold laws_eqPatternS.f
  exact ite_t rfl (by simpa using h)
theorem markIntS_l0 : ∀ (post pre : List Int) (n : Int), pre.length + post.length < 4611686018427387904 → 0 ≤ n → n + post.length < 4611686018427387904 →
    Ev (fun k => laws_markIntS.l0 k (pre ++ post) n (pre.length : Int)) (n + post.length, pre ++ from_ n post.length)
  | [], pre, n, hb, h0, hn => by
    refine Ev.step (fun k => by simp only [laws_markIntS.l0]; rw [if_neg (by simp)]) ?_
    simpa [from_] using Ev.now _
  | x :: post, pre, n, hb, h0, hn => by
    have ih := markIntS_l0 post (pre ++ [n]) (n + 1) (by simp at hb ⊢; omega) (by omega) (by simp at hn ⊢; omega)
    refine Ev.step (fun k => by
      simp only [laws_markIntS.l0]
      rw [if_pos (by simp; omega), if_pos (by omega), Int.toNat_natCast, set_at rfl, w_succ (by simp at hb; omega), w64 (x := n + 1) (by omega) (by simp at hn; omega)]) ?_
    have e : n + 1 + (post.length : Int) = n + ((x :: post).length : Int) := by simp; omega
    rw [e] at ih
    simpa [from_] using ih
theorem markIntS_ev (l : List Int) (n : Int) (hb : l.length < 2305843009213693952) (h0 : 0 ≤ n) (hn : n < 2305843009213693952) : Ev (fun k => laws_markIntS.f k l n) (n + l.length, from_ n l.length) := by
  have h := markIntS_l0 l [] n (by simp; omega) h0 (by omega)
  unfold laws_markIntS.f
  simpa using h
end Go.Proofs.Ytfdbdbihhgabpaa.Pure
