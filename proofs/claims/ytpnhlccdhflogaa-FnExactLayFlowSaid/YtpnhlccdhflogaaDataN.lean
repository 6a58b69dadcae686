/- What the laws' own helpers come to: sizes, copies, comparisons, marks. Conditions: none. -/
import Derived.Test.YtpnhlccdhflogaaKit
import Derived.Test.YtpnhlccdhflogaaWf
import Derived.Test.YtpnhlccdhflogaaQx0
import Derived.Test.YtpnhlccdhflogaaQx1
import Derived.Test.YtpnhlccdhflogaaQx4
import Derived.Test.YtpnhlccdhflogaaQx6
import Derived.Test.YtpnhlccdhflogaaQx7
set_option linter.unusedVariables false
set_option linter.unusedSimpArgs false
namespace Go.Proofs.Ytpnhlccdhflogaa.Pure
open Go.RowKit Go.Proofs.Ytpnhlccdhflogaa.Q Go.Proofs.YtpnhlccdhflogaaW.PrintWords Go.Proofs.YtpnhlccdhflogaaW.PrintLast Go.Proofs.Ytpnhlccdhflogaa.Kit Go.Proofs.Ytpnhlccdhflogaa.Wf

theorem eqIntS_l0 : ∀ (post pre : List Int), pre.length + post.length ≤ 1048576 → 
    Ev (fun k => laws_eqIntS.l0 k (pre ++ post) (pre ++ post) (pre.length : Int)) true
  | [], pre, hb => Ev.step (fun k => by simp only [laws_eqIntS.l0]; rw [if_neg (by simp)]) (Ev.now _)
  | x :: post, pre, hb => by
    have ih := eqIntS_l0 post (pre ++ [x]) (by simp at hb ⊢; omega)
    refine Ev.step (fun k => by
      simp only [laws_eqIntS.l0]
      rw [if_pos (by simp; omega), if_pos (by omega), if_pos (by simp; omega), if_pos trivial, w_succ (by simp at hb; omega)]) ?_
    simpa using ih
theorem eqIntS_ev (l : List Int) (hb : l.length ≤ 1048576) : Ev (fun k => laws_eqIntS.f k l l) true := by
  have h := eqIntS_l0 l [] (by simpa using hb)
  unfold laws_eqIntS.f
  exact ite_t rfl (by simpa using h)
theorem markIntS_l0 : ∀ (post pre : List Int) (n : Int), pre.length + post.length < 4611686018427387904 → 0 ≤ n → n + post.length < 4611686018427387904 →
    Ev (fun k => laws_markIntS.l0 k (pre ++ post) n (pre.length : Int)) (n + post.length, pre ++ from_ n post.length)
  | [], pre, n, hb, h0, hn => by
    refine Ev.step (fun k => by simp only [laws_markIntS.l0]; rw [if_neg (by simp)]) ?_
    simpa [from_] using Ev.now _
  | x :: post, pre, n, hb, h0, hn => by
    have ih := markIntS_l0 post (pre ++ [n]) (n + 1) (by simp at hb ⊢; omega) (by omega) (by simp at hn ⊢; omega)
    refine Ev.step (fun k => by
      simp only [laws_markIntS.l0]
      rw [if_pos (by simp; omega), if_pos (by omega), Int.toNat_natCast, set_at rfl, w_succ (by simp at hb; omega), w64 (x := n + 1) (by omega) (by simp at hn; omega)]) ?_
    have e : n + 1 + (post.length : Int) = n + ((x :: post).length : Int) := by simp; omega
    rw [e] at ih
    simpa [from_] using ih
theorem markIntS_ev (l : List Int) (n : Int) (hb : l.length < 2305843009213693952) (h0 : 0 ≤ n) (hn : n < 2305843009213693952) : Ev (fun k => laws_markIntS.f k l n) (n + l.length, from_ n l.length) := by
  have h := markIntS_l0 l [] n (by simp; omega) h0 (by omega)
  unfold laws_markIntS.f
  simpa using h
theorem toIntS_l0 : ∀ (post pre : List Int) (pre' post' : List Int), pre'.length = pre.length → post'.length = post.length → pre.length + post.length ≤ 1048576 → 
    Ev (fun k => laws_toIntS.l0 k (pre ++ post) (pre' ++ post') (pre.length : Int)) (pre' ++ post)
  | [], pre, pre', post', h1, h2, hb => by
    obtain rfl : post' = [] := List.length_eq_zero_iff.1 h2
    refine Ev.step (fun k => by simp only [laws_toIntS.l0]; rw [if_neg (by simp)]) (by simpa using Ev.now _)
  | x :: post, pre, pre', y :: post', h1, h2, hb => by
    have ih := toIntS_l0 post (pre ++ [x]) (pre' ++ [x]) post' (by simp [h1]) (by simpa using h2) (by simp at hb ⊢; omega)
    refine Ev.step (fun k => by
      simp only [laws_toIntS.l0]
      rw [if_pos (by simp; omega), if_pos (by omega), if_pos (by simp [h1]; omega), rd_at rfl, Int.toNat_natCast, set_at h1.symm, w_succ (by simp at hb; omega)]) ?_
    simpa using ih
theorem toIntS_ev (l : List Int) (hb : l.length ≤ 1048576) : Ev (fun k => laws_toIntS.f k l) l := by
  have h := toIntS_l0 l [] [] (List.replicate l.length 0) rfl (by simp) (by simpa using hb)
  unfold laws_toIntS.f
  refine ite_t (by omega) (ite_t (by have := hb; simp; omega) ?_)
  simpa using h
theorem szInstrS_ok (l : List S141) (n : Int) (h0 : 0 ≤ n) (h : n ≤ 1048576) (hm : l.length ≤ maxLen) : ∃ r, Ev (fun k => laws_szInstrS.f l n) r ∧ (0 ≤ r → r ≤ n ∧ l.length ≤ 1048576) := by
  unfold maxLen at hm
  unfold laws_szInstrS.f
  rw [w64 (by omega) (by omega)]
  by_cases h : n - (l.length : Int) < 0
  · rw [if_pos h]; exact ⟨_, Ev.now _, by omega⟩
  · rw [if_neg h]; exact ⟨_, Ev.now _, by omega⟩
def bd_S95 (x : S95) : Prop := x.f0.length ≤ 1048576 ∧ True ∧ True ∧ True
theorem szBlock_ok (x : S95) (n : Int) (h0 : 0 ≤ n) (h : n ≤ 1048576) (hp : wf_S95 x) : ∃ r, Ev (fun k => laws_szBlock.f x.f0 x.f1 x.f2 x.f3 n) r ∧ (0 ≤ r → r ≤ n ∧ bd_S95 x) := by
  obtain ⟨q0, q1, q2, q3⟩ := hp
  unfold laws_szBlock.f
  obtain ⟨z0, hz0, hy0⟩ := szInstrS_ok x.f0 n (by omega) (by omega) q0.1
  by_cases c0 : z0 < 0
  · exact ⟨-1, bind_ev hz0 (ite_t c0 (Ev.now _)), by omega⟩
  have b0 := hy0 (by omega)
  exact ⟨z0, bind_ev hz0 (ite_f c0 ((Ev.now _))), fun _ => ⟨by omega, b0.2, trivial, trivial, trivial⟩⟩
theorem rdat_T95 {pre : List S95} {x : S95} {post : List S95} {n : Nat} (h : n = pre.length) : rd_T95 (pre ++ x :: post) (n : Int) = x := by
  unfold rd_T95; rw [Int.toNat_natCast]; exact getD_at h
theorem szBlockS_l0 : ∀ (post pre : List S95) (n : Int), pre.length + post.length ≤ 1048576 → 0 ≤ n → n ≤ 1048576 → (∀ x ∈ post, wf_S95 x) →
    ∃ r, Ev (fun k => laws_szBlockS.l0 k (pre ++ post) n (pre.length : Int)) r ∧ (0 ≤ r → r ≤ n ∧ ∀ x ∈ post, bd_S95 x)
  | [], pre, n, hb, h0, h, hw => ⟨n, Ev.step (fun k => by simp only [laws_szBlockS.l0]; rw [if_neg (by simp)]) (Ev.now _), fun _ => ⟨by omega, by simp⟩⟩
  | x :: post, pre, n, hb, h0, h, hw => by
    obtain ⟨z, hz, hz2⟩ := szBlock_ok x n h0 h (hw x (by simp))
    by_cases hc : z < 0
    · refine ⟨-1, ?_, by omega⟩
      refine Ev.step (fun k => by
        simp only [laws_szBlockS.l0]
        rw [if_pos (by simp; omega), if_pos (by omega), rdat_T95 rfl]) ?_
      exact bind_ev hz (ite_t hc (Ev.now _))
    · obtain ⟨r, hr, hr2⟩ := szBlockS_l0 post (pre ++ [x]) z (by simp at hb ⊢; omega) (by omega) (by have := (hz2 (by omega)).1; omega) (fun y hy => hw y (by simp [hy]))
      refine ⟨r, ?_, fun h2 => ⟨by have := (hr2 h2).1; have := (hz2 (by omega)).1; omega, fun y hy => ?_⟩⟩
      · refine Ev.step (fun k => by
          simp only [laws_szBlockS.l0]
          rw [if_pos (by simp; omega), if_pos (by omega), rdat_T95 rfl]) ?_
        refine bind_ev hz (ite_f hc ?_)
        rw [w_succ (by simp at hb; omega)]
        simpa using hr
      · rcases List.mem_cons.1 hy with rfl | hy
        · exact (hz2 (by omega)).2
        · exact (hr2 h2).2 y hy
theorem szBlockS_ok (l : List S95) (n : Int) (h0 : 0 ≤ n) (h : n ≤ 1048576) (hm : (l.length ≤ maxLen ∧ ∀ x ∈ l, wf_S95 x)) : ∃ r, Ev (fun k => laws_szBlockS.f k l n) r ∧ (0 ≤ r → r ≤ n ∧ (l.length ≤ 1048576 ∧ ∀ x ∈ l, bd_S95 x)) := by
  obtain ⟨hm, hw⟩ := hm
  unfold maxLen at hm
  unfold laws_szBlockS.f
  rw [w64 (by omega) (by omega)]
  by_cases hc : n - (l.length : Int) < 0
  · exact ⟨-1, ite_t hc (Ev.now _), by omega⟩
  · obtain ⟨r, hr, hr2⟩ := szBlockS_l0 l [] (n - l.length) (by simp; omega) (by omega) (by omega) hw
    exact ⟨r, ite_f hc (by simpa using hr), fun h2 => ⟨by have := (hr2 h2).1; omega, by omega, (hr2 h2).2⟩⟩
def cv_S141 (x : S141) : S130 := ⟨x.f0, x.f1, x.f2, x.f3, x.f4⟩
theorem toInstr_ev (x : S141) : Ev (fun k => laws_toInstr.f x.f0 x.f1 x.f2 x.f3 x.f4) ((cv_S141 x).f0, (cv_S141 x).f1, (cv_S141 x).f2, (cv_S141 x).f3, (cv_S141 x).f4) := by
  unfold laws_toInstr.f
  exact Ev.now _
theorem rdat_T141 {pre : List S141} {x : S141} {post : List S141} {n : Nat} (h : n = pre.length) : rd_T141 (pre ++ x :: post) (n : Int) = x := by
  unfold rd_T141; rw [Int.toNat_natCast]; exact getD_at h
theorem toInstrS_l0 : ∀ (post pre : List S141) (pre' post' : List S130), pre'.length = pre.length → post'.length = post.length → pre.length + post.length ≤ 1048576 → 
    Ev (fun k => laws_toInstrS.l0 k (pre ++ post) (pre' ++ post') (pre.length : Int)) (pre' ++ (post.map cv_S141))
  | [], pre, pre', post', h1, h2, hb => by
    obtain rfl : post' = [] := List.length_eq_zero_iff.1 h2
    refine Ev.step (fun k => by simp only [laws_toInstrS.l0]; rw [if_neg (by simp)]) (by simpa using Ev.now _)
  | x :: post, pre, pre', y :: post', h1, h2, hb => by
    have ih := toInstrS_l0 post (pre ++ [x]) (pre' ++ [(cv_S141 x)]) post' (by simp [h1]) (by simpa using h2) (by simp at hb ⊢; omega)
    refine Ev.step (fun k => by
      simp only [laws_toInstrS.l0]
      rw [if_pos (by simp; omega), if_pos (by omega), rdat_T141 rfl]) ?_
    refine bind_ev (toInstr_ev x ) ?_
    refine ite_t (by simp [h1]; omega) ?_
    rw [Int.toNat_natCast, set_at h1.symm, w_succ (by simp at hb; omega)]
    simpa using ih
theorem toInstrS_ev (l : List S141) (hb : l.length ≤ 1048576) : Ev (fun k => laws_toInstrS.f k l) (l.map cv_S141) := by
  have h := toInstrS_l0 l [] [] (List.replicate l.length z130) rfl (by simp) (by simpa using hb)
  unfold laws_toInstrS.f
  refine ite_t (by omega) (ite_t (by have := hb; simp; omega) ?_)
  simpa using h
def cv_S95 (x : S95) : S99 := ⟨(x.f0.map cv_S141), x.f1, x.f2, x.f3⟩
theorem toBlock_ev (x : S95) (hb : bd_S95 x) : Ev (fun k => laws_toBlock.f k x.f0 x.f1 x.f2 x.f3) ((cv_S95 x).f0, (cv_S95 x).f1, (cv_S95 x).f2, (cv_S95 x).f3) := by
  unfold laws_toBlock.f
  refine bind_ev (toInstrS_ev _ hb.1) ?_
  exact Ev.now _
theorem toBlockS_l0 : ∀ (post pre : List S95) (pre' post' : List S99), pre'.length = pre.length → post'.length = post.length → pre.length + post.length ≤ 1048576 → (∀ x ∈ post, bd_S95 x) →
    Ev (fun k => laws_toBlockS.l0 k (pre ++ post) (pre' ++ post') (pre.length : Int)) (pre' ++ (post.map cv_S95))
  | [], pre, pre', post', h1, h2, hb, hw => by
    obtain rfl : post' = [] := List.length_eq_zero_iff.1 h2
    refine Ev.step (fun k => by simp only [laws_toBlockS.l0]; rw [if_neg (by simp)]) (by simpa using Ev.now _)
  | x :: post, pre, pre', y :: post', h1, h2, hb, hw => by
    have ih := toBlockS_l0 post (pre ++ [x]) (pre' ++ [(cv_S95 x)]) post' (by simp [h1]) (by simpa using h2) (by simp at hb ⊢; omega) (fun y hy => hw y (by simp [hy]))
    refine Ev.step (fun k => by
      simp only [laws_toBlockS.l0]
      rw [if_pos (by simp; omega), if_pos (by omega), rdat_T95 rfl]) ?_
    refine bind_ev (toBlock_ev x (hw x (by simp))) ?_
    refine ite_t (by simp [h1]; omega) ?_
    rw [Int.toNat_natCast, set_at h1.symm, w_succ (by simp at hb; omega)]
    simpa using ih
theorem toBlockS_ev (l : List S95) (hb : (l.length ≤ 1048576 ∧ ∀ x ∈ l, bd_S95 x)) : Ev (fun k => laws_toBlockS.f k l) (l.map cv_S95) := by
  have h := toBlockS_l0 l [] [] (List.replicate l.length z99) rfl (by simp) (by simpa using hb.1) hb.2
  unfold laws_toBlockS.f
  refine ite_t (by omega) (ite_t (by have := hb.1; simp; omega) ?_)
  simpa using h
theorem eqInstr_ev (x : S130) : Ev (fun k => laws_eqInstr.f x.f0 x.f1 x.f2 x.f3 x.f4 x.f0 x.f1 x.f2 x.f3 x.f4) true := by
  unfold laws_eqInstr.f
  repeat first | exact Ev.now _ | refine ite_t rfl ?_ | refine ite_f (by simp) ?_
theorem rdat_T130 {pre : List S130} {x : S130} {post : List S130} {n : Nat} (h : n = pre.length) : rd_T130 (pre ++ x :: post) (n : Int) = x := by
  unfold rd_T130; rw [Int.toNat_natCast]; exact getD_at h
theorem eqInstrS_l0 : ∀ (post pre : List S130), pre.length + post.length ≤ 1048576 → 
    Ev (fun k => laws_eqInstrS.l0 k (pre ++ post) (pre ++ post) (pre.length : Int)) true
  | [], pre, hb => Ev.step (fun k => by simp only [laws_eqInstrS.l0]; rw [if_neg (by simp)]) (Ev.now _)
  | x :: post, pre, hb => by
    have ih := eqInstrS_l0 post (pre ++ [x]) (by simp at hb ⊢; omega)
    refine Ev.step (fun k => by
      simp only [laws_eqInstrS.l0]
      rw [if_pos (by simp; omega), if_pos (by omega), if_pos (by simp; omega), rdat_T130 rfl]) ?_
    refine bind_ev (eqInstr_ev x) (ite_t rfl ?_)
    rw [w_succ (by simp at hb; omega)]
    simpa using ih
theorem eqInstrS_ev (l : List S130) (hb : l.length ≤ 1048576) : Ev (fun k => laws_eqInstrS.f k l l) true := by
  have h := eqInstrS_l0 l [] (by simpa using hb)
  unfold laws_eqInstrS.f
  exact ite_t rfl (by simpa using h)
def bd_S99 (x : S99) : Prop := x.f0.length ≤ 1048576 ∧ True ∧ True ∧ True
theorem eqBlock_ev (x : S99) (hb : bd_S99 x) : Ev (fun k => laws_eqBlock.f k x.f0 x.f1 x.f2 x.f3 x.f0 x.f1 x.f2 x.f3) true := by
  unfold laws_eqBlock.f
  repeat first | exact Ev.now _ | refine ite_t rfl ?_ | refine ite_f (by simp) ?_ | refine bind_ev (eqInstrS_ev x.f0 hb.1) ?_
theorem rdat_T99 {pre : List S99} {x : S99} {post : List S99} {n : Nat} (h : n = pre.length) : rd_T99 (pre ++ x :: post) (n : Int) = x := by
  unfold rd_T99; rw [Int.toNat_natCast]; exact getD_at h
theorem eqBlockS_l0 : ∀ (post pre : List S99), pre.length + post.length ≤ 1048576 → (∀ x ∈ post, bd_S99 x) →
    Ev (fun k => laws_eqBlockS.l0 k (pre ++ post) (pre ++ post) (pre.length : Int)) true
  | [], pre, hb, hw => Ev.step (fun k => by simp only [laws_eqBlockS.l0]; rw [if_neg (by simp)]) (Ev.now _)
  | x :: post, pre, hb, hw => by
    have ih := eqBlockS_l0 post (pre ++ [x]) (by simp at hb ⊢; omega) (fun y hy => hw y (by simp [hy]))
    refine Ev.step (fun k => by
      simp only [laws_eqBlockS.l0]
      rw [if_pos (by simp; omega), if_pos (by omega), if_pos (by simp; omega), rdat_T99 rfl]) ?_
    refine bind_ev (eqBlock_ev x (hw x (by simp))) (ite_t rfl ?_)
    rw [w_succ (by simp at hb; omega)]
    simpa using ih
theorem eqBlockS_ev (l : List S99) (hb : (l.length ≤ 1048576 ∧ ∀ x ∈ l, bd_S99 x)) : Ev (fun k => laws_eqBlockS.f k l l) true := by
  have h := eqBlockS_l0 l [] (by simpa using hb.1) hb.2
  unfold laws_eqBlockS.f
  exact ite_t rfl (by simpa using h)
end Go.Proofs.Ytpnhlccdhflogaa.Pure
