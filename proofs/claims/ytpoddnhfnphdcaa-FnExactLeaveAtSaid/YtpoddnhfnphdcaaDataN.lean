/- What the laws' own helpers come to: sizes, copies, comparisons, marks. Conditions: none. -/
import Derived.Test.YtpoddnhfnphdcaaKit
import Derived.Test.YtpoddnhfnphdcaaWf
import Derived.Test.YtpoddnhfnphdcaaQx0
import Derived.Test.YtpoddnhfnphdcaaQx1
import Derived.Test.YtpoddnhfnphdcaaQx3
import Derived.Test.YtpoddnhfnphdcaaQx6
import Derived.Test.YtpoddnhfnphdcaaQx7
import Derived.Test.YtpoddnhfnphdcaaQx8
set_option linter.unusedVariables false
set_option linter.unusedSimpArgs false
namespace Go.Proofs.Ytpoddnhfnphdcaa.Pure
open Go.RowKit Go.Proofs.Ytpoddnhfnphdcaa.Q Go.Proofs.YtpoddnhfnphdcaaW.PrintWords Go.Proofs.YtpoddnhfnphdcaaW.PrintLast Go.Proofs.Ytpoddnhfnphdcaa.Kit Go.Proofs.Ytpoddnhfnphdcaa.Wf

theorem eqIntS_l0 : ∀ (post pre : List Int), pre.length + post.length ≤ 1048576 → 
    Ev (fun k => laws_eqIntS.l0 k (pre ++ post) (pre ++ post) (pre.length : Int)) true
  | [], pre, hb => Ev.step (fun k => by simp only [laws_eqIntS.l0]; rw [if_neg (by simp)]) (Ev.now _)
  | x :: post, pre, hb => by
    have ih := eqIntS_l0 post (pre ++ [x]) (by simp at hb ⊢; omega)
    refine Ev.step (fun k => by
      simp only [laws_eqIntS.l0]
      rw [if_pos (by simp; omega), if_pos (by omega), if_pos (by simp; omega), if_pos trivial, w_succ (by simp at hb; omega)]) ?_
    simpa using ih
theorem eqIntS_ev (l : List Int) (hb : l.length ≤ 1048576) : Ev (fun k => laws_eqIntS.f k l l) true := by
  have h := eqIntS_l0 l [] (by simpa using hb)
  unfold laws_eqIntS.f
  exact ite_t rfl (by simpa using h)
def bd_S27 (x : S27) : Prop := x.f0.length ≤ 1048576 ∧ x.f1.length ≤ 1048576 ∧ x.f2.length ≤ 1048576
theorem eqFrame_ev (x : S27) (hb : bd_S27 x) : Ev (fun k => laws_eqFrame.f k x.f0 x.f1 x.f2 x.f0 x.f1 x.f2) true := by
  unfold laws_eqFrame.f
  repeat first | exact Ev.now _ | refine ite_t rfl ?_ | refine ite_f (by simp) ?_ | refine bind_ev (eqIntS_ev x.f0 hb.1) ?_ | refine bind_ev (eqIntS_ev x.f1 hb.2.1) ?_ | refine bind_ev (eqIntS_ev x.f2 hb.2.2) ?_
theorem markIntS_l0 : ∀ (post pre : List Int) (n : Int), pre.length + post.length < 4611686018427387904 → 0 ≤ n → n + post.length < 4611686018427387904 →
    Ev (fun k => laws_markIntS.l0 k (pre ++ post) n (pre.length : Int)) (n + post.length, pre ++ from_ n post.length)
  | [], pre, n, hb, h0, hn => by
    refine Ev.step (fun k => by simp only [laws_markIntS.l0]; rw [if_neg (by simp)]) ?_
    simpa [from_] using Ev.now _
  | x :: post, pre, n, hb, h0, hn => by
    have ih := markIntS_l0 post (pre ++ [n]) (n + 1) (by simp at hb ⊢; omega) (by omega) (by simp at hn ⊢; omega)
    refine Ev.step (fun k => by
      simp only [laws_markIntS.l0]
      rw [if_pos (by simp; omega), if_pos (by omega), Int.toNat_natCast, set_at rfl, w_succ (by simp at hb; omega), w64 (x := n + 1) (by omega) (by simp at hn; omega)]) ?_
    have e : n + 1 + (post.length : Int) = n + ((x :: post).length : Int) := by simp; omega
    rw [e] at ih
    simpa [from_] using ih
theorem markIntS_ev (l : List Int) (n : Int) (hb : l.length < 2305843009213693952) (h0 : 0 ≤ n) (hn : n < 2305843009213693952) : Ev (fun k => laws_markIntS.f k l n) (n + l.length, from_ n l.length) := by
  have h := markIntS_l0 l [] n (by simp; omega) h0 (by omega)
  unfold laws_markIntS.f
  simpa using h
theorem szIntS_ok (l : List Int) (n : Int) (h0 : 0 ≤ n) (h : n ≤ 1048576) (hm : l.length ≤ maxLen) : ∃ r, Ev (fun k => laws_szIntS.f l n) r ∧ (0 ≤ r → r ≤ n ∧ l.length ≤ 1048576) := by
  unfold maxLen at hm
  unfold laws_szIntS.f
  rw [w64 (by omega) (by omega)]
  by_cases h : n - (l.length : Int) < 0
  · rw [if_pos h]; exact ⟨_, Ev.now _, by omega⟩
  · rw [if_neg h]; exact ⟨_, Ev.now _, by omega⟩
theorem szInstrS_ok (l : List S93) (n : Int) (h0 : 0 ≤ n) (h : n ≤ 1048576) (hm : l.length ≤ maxLen) : ∃ r, Ev (fun k => laws_szInstrS.f l n) r ∧ (0 ≤ r → r ≤ n ∧ l.length ≤ 1048576) := by
  unfold maxLen at hm
  unfold laws_szInstrS.f
  rw [w64 (by omega) (by omega)]
  by_cases h : n - (l.length : Int) < 0
  · rw [if_pos h]; exact ⟨_, Ev.now _, by omega⟩
  · rw [if_neg h]; exact ⟨_, Ev.now _, by omega⟩
theorem szLocS_ok (l : List S100) (n : Int) (h0 : 0 ≤ n) (h : n ≤ 1048576) (hm : l.length ≤ maxLen) : ∃ r, Ev (fun k => laws_szLocS.f l n) r ∧ (0 ≤ r → r ≤ n ∧ l.length ≤ 1048576) := by
  unfold maxLen at hm
  unfold laws_szLocS.f
  rw [w64 (by omega) (by omega)]
  by_cases h : n - (l.length : Int) < 0
  · rw [if_pos h]; exact ⟨_, Ev.now _, by omega⟩
  · rw [if_neg h]; exact ⟨_, Ev.now _, by omega⟩
theorem rdat_L7 {pre : List (List (S100))} {x : List (S100)} {post : List (List (S100))} {n : Nat} (h : n = pre.length) : rd_L7 (pre ++ x :: post) (n : Int) = x := by
  unfold rd_L7; rw [Int.toNat_natCast]; exact getD_at h
theorem szLocSS_l0 : ∀ (post pre : List (List (S100))) (n : Int), pre.length + post.length ≤ 1048576 → 0 ≤ n → n ≤ 1048576 → (∀ x ∈ post, (x.length ≤ maxLen ∧ ∀ y ∈ x, wf_S100 y)) →
    ∃ r, Ev (fun k => laws_szLocSS.l0 k (pre ++ post) n (pre.length : Int)) r ∧ (0 ≤ r → r ≤ n ∧ ∀ x ∈ post, x.length ≤ 1048576)
  | [], pre, n, hb, h0, h, hw => ⟨n, Ev.step (fun k => by simp only [laws_szLocSS.l0]; rw [if_neg (by simp)]) (Ev.now _), fun _ => ⟨by omega, by simp⟩⟩
  | x :: post, pre, n, hb, h0, h, hw => by
    obtain ⟨z, hz, hz2⟩ := szLocS_ok x n h0 h (hw x (by simp)).1
    by_cases hc : z < 0
    · refine ⟨-1, ?_, by omega⟩
      refine Ev.step (fun k => by
        simp only [laws_szLocSS.l0]
        rw [if_pos (by simp; omega), if_pos (by omega), rdat_L7 rfl]) ?_
      exact bind_ev hz (ite_t hc (Ev.now _))
    · obtain ⟨r, hr, hr2⟩ := szLocSS_l0 post (pre ++ [x]) z (by simp at hb ⊢; omega) (by omega) (by have := (hz2 (by omega)).1; omega) (fun y hy => hw y (by simp [hy]))
      refine ⟨r, ?_, fun h2 => ⟨by have := (hr2 h2).1; have := (hz2 (by omega)).1; omega, fun y hy => ?_⟩⟩
      · refine Ev.step (fun k => by
          simp only [laws_szLocSS.l0]
          rw [if_pos (by simp; omega), if_pos (by omega), rdat_L7 rfl]) ?_
        refine bind_ev hz (ite_f hc ?_)
        rw [w_succ (by simp at hb; omega)]
        simpa using hr
      · rcases List.mem_cons.1 hy with rfl | hy
        · exact (hz2 (by omega)).2
        · exact (hr2 h2).2 y hy
theorem szLocSS_ok (l : List (List (S100))) (n : Int) (h0 : 0 ≤ n) (h : n ≤ 1048576) (hm : (l.length ≤ maxLen ∧ ∀ x ∈ l, (x.length ≤ maxLen ∧ ∀ y ∈ x, wf_S100 y))) : ∃ r, Ev (fun k => laws_szLocSS.f k l n) r ∧ (0 ≤ r → r ≤ n ∧ (l.length ≤ 1048576 ∧ ∀ x ∈ l, x.length ≤ 1048576)) := by
  obtain ⟨hm, hw⟩ := hm
  unfold maxLen at hm
  unfold laws_szLocSS.f
  rw [w64 (by omega) (by omega)]
  by_cases hc : n - (l.length : Int) < 0
  · exact ⟨-1, ite_t hc (Ev.now _), by omega⟩
  · obtain ⟨r, hr, hr2⟩ := szLocSS_l0 l [] (n - l.length) (by simp; omega) (by omega) (by omega) hw
    exact ⟨r, ite_f hc (by simpa using hr), fun h2 => ⟨by have := (hr2 h2).1; omega, by omega, (hr2 h2).2⟩⟩
def bd_S48 (x : S48) : Prop := x.f0.length ≤ 1048576 ∧ x.f1.length ≤ 1048576 ∧ (x.f2.length ≤ 1048576 ∧ ∀ y ∈ x.f2, y.length ≤ 1048576)
theorem szTranslated_ok (x : S48) (n : Int) (h0 : 0 ≤ n) (h : n ≤ 1048576) (hp : wf_S48 x) : ∃ r, Ev (fun k => laws_szTranslated.f k x.f0 x.f1 x.f2 n) r ∧ (0 ≤ r → r ≤ n ∧ bd_S48 x) := by
  obtain ⟨q0, q1, q2⟩ := hp
  unfold laws_szTranslated.f
  obtain ⟨z0, hz0, hy0⟩ := szInstrS_ok x.f0 n (by omega) (by omega) q0.1
  by_cases c0 : z0 < 0
  · exact ⟨-1, bind_ev hz0 (ite_t c0 (Ev.now _)), by omega⟩
  have b0 := hy0 (by omega)
  obtain ⟨z1, hz1, hy1⟩ := szIntS_ok x.f1 z0 (by omega) (by omega) q1.1
  by_cases c1 : z1 < 0
  · exact ⟨-1, bind_ev hz0 (ite_f c0 (bind_ev hz1 (ite_t c1 (Ev.now _)))), by omega⟩
  have b1 := hy1 (by omega)
  obtain ⟨z2, hz2, hy2⟩ := szLocSS_ok x.f2 z1 (by omega) (by omega) q2
  by_cases c2 : z2 < 0
  · exact ⟨-1, bind_ev hz0 (ite_f c0 (bind_ev hz1 (ite_f c1 (bind_ev hz2 (ite_t c2 (Ev.now _)))))), by omega⟩
  have b2 := hy2 (by omega)
  exact ⟨z2, bind_ev hz0 (ite_f c0 (bind_ev hz1 (ite_f c1 (bind_ev hz2 (ite_f c2 ((Ev.now _))))))), fun _ => ⟨by omega, b0.2, b1.2, b2.2⟩⟩
theorem toIntS_l0 : ∀ (post pre : List Int) (pre' post' : List Int), pre'.length = pre.length → post'.length = post.length → pre.length + post.length ≤ 1048576 → 
    Ev (fun k => laws_toIntS.l0 k (pre ++ post) (pre' ++ post') (pre.length : Int)) (pre' ++ post)
  | [], pre, pre', post', h1, h2, hb => by
    obtain rfl : post' = [] := List.length_eq_zero_iff.1 h2
    refine Ev.step (fun k => by simp only [laws_toIntS.l0]; rw [if_neg (by simp)]) (by simpa using Ev.now _)
  | x :: post, pre, pre', y :: post', h1, h2, hb => by
    have ih := toIntS_l0 post (pre ++ [x]) (pre' ++ [x]) post' (by simp [h1]) (by simpa using h2) (by simp at hb ⊢; omega)
    refine Ev.step (fun k => by
      simp only [laws_toIntS.l0]
      rw [if_pos (by simp; omega), if_pos (by omega), if_pos (by simp [h1]; omega), rd_at rfl, Int.toNat_natCast, set_at h1.symm, w_succ (by simp at hb; omega)]) ?_
    simpa using ih
theorem toIntS_ev (l : List Int) (hb : l.length ≤ 1048576) : Ev (fun k => laws_toIntS.f k l) l := by
  have h := toIntS_l0 l [] [] (List.replicate l.length 0) rfl (by simp) (by simpa using hb)
  unfold laws_toIntS.f
  refine ite_t (by omega) (ite_t (by have := hb; simp; omega) ?_)
  simpa using h
def cv_S93 (x : S93) : S91 := ⟨x.f0, x.f1, x.f2, x.f3, x.f4⟩
theorem toInstr_ev (x : S93) : Ev (fun k => laws_toInstr.f x.f0 x.f1 x.f2 x.f3 x.f4) ((cv_S93 x).f0, (cv_S93 x).f1, (cv_S93 x).f2, (cv_S93 x).f3, (cv_S93 x).f4) := by
  unfold laws_toInstr.f
  exact Ev.now _
theorem rdat_T93 {pre : List S93} {x : S93} {post : List S93} {n : Nat} (h : n = pre.length) : rd_T93 (pre ++ x :: post) (n : Int) = x := by
  unfold rd_T93; rw [Int.toNat_natCast]; exact getD_at h
theorem toInstrS_l0 : ∀ (post pre : List S93) (pre' post' : List S91), pre'.length = pre.length → post'.length = post.length → pre.length + post.length ≤ 1048576 → 
    Ev (fun k => laws_toInstrS.l0 k (pre ++ post) (pre' ++ post') (pre.length : Int)) (pre' ++ (post.map cv_S93))
  | [], pre, pre', post', h1, h2, hb => by
    obtain rfl : post' = [] := List.length_eq_zero_iff.1 h2
    refine Ev.step (fun k => by simp only [laws_toInstrS.l0]; rw [if_neg (by simp)]) (by simpa using Ev.now _)
  | x :: post, pre, pre', y :: post', h1, h2, hb => by
    have ih := toInstrS_l0 post (pre ++ [x]) (pre' ++ [(cv_S93 x)]) post' (by simp [h1]) (by simpa using h2) (by simp at hb ⊢; omega)
    refine Ev.step (fun k => by
      simp only [laws_toInstrS.l0]
      rw [if_pos (by simp; omega), if_pos (by omega), rdat_T93 rfl]) ?_
    refine bind_ev (toInstr_ev x ) ?_
    refine ite_t (by simp [h1]; omega) ?_
    rw [Int.toNat_natCast, set_at h1.symm, w_succ (by simp at hb; omega)]
    simpa using ih
theorem toInstrS_ev (l : List S93) (hb : l.length ≤ 1048576) : Ev (fun k => laws_toInstrS.f k l) (l.map cv_S93) := by
  have h := toInstrS_l0 l [] [] (List.replicate l.length z91) rfl (by simp) (by simpa using hb)
  unfold laws_toInstrS.f
  refine ite_t (by omega) (ite_t (by have := hb; simp; omega) ?_)
  simpa using h
def cv_S100 (x : S100) : S79 := ⟨x.f0, x.f1⟩
theorem toLoc_ev (x : S100) : Ev (fun k => laws_toLoc.f x.f0 x.f1) ((cv_S100 x).f0, (cv_S100 x).f1) := by
  unfold laws_toLoc.f
  exact Ev.now _
theorem rdat_T100 {pre : List S100} {x : S100} {post : List S100} {n : Nat} (h : n = pre.length) : rd_T100 (pre ++ x :: post) (n : Int) = x := by
  unfold rd_T100; rw [Int.toNat_natCast]; exact getD_at h
theorem toLocS_l0 : ∀ (post pre : List S100) (pre' post' : List S79), pre'.length = pre.length → post'.length = post.length → pre.length + post.length ≤ 1048576 → 
    Ev (fun k => laws_toLocS.l0 k (pre ++ post) (pre' ++ post') (pre.length : Int)) (pre' ++ (post.map cv_S100))
  | [], pre, pre', post', h1, h2, hb => by
    obtain rfl : post' = [] := List.length_eq_zero_iff.1 h2
    refine Ev.step (fun k => by simp only [laws_toLocS.l0]; rw [if_neg (by simp)]) (by simpa using Ev.now _)
  | x :: post, pre, pre', y :: post', h1, h2, hb => by
    have ih := toLocS_l0 post (pre ++ [x]) (pre' ++ [(cv_S100 x)]) post' (by simp [h1]) (by simpa using h2) (by simp at hb ⊢; omega)
    refine Ev.step (fun k => by
      simp only [laws_toLocS.l0]
      rw [if_pos (by simp; omega), if_pos (by omega), rdat_T100 rfl]) ?_
    refine bind_ev (toLoc_ev x ) ?_
    refine ite_t (by simp [h1]; omega) ?_
    rw [Int.toNat_natCast, set_at h1.symm, w_succ (by simp at hb; omega)]
    simpa using ih
theorem toLocS_ev (l : List S100) (hb : l.length ≤ 1048576) : Ev (fun k => laws_toLocS.f k l) (l.map cv_S100) := by
  have h := toLocS_l0 l [] [] (List.replicate l.length z79) rfl (by simp) (by simpa using hb)
  unfold laws_toLocS.f
  refine ite_t (by omega) (ite_t (by have := hb; simp; omega) ?_)
  simpa using h
theorem toLocSS_l0 : ∀ (post pre : List (List (S100))) (pre' post' : List (List (S79))), pre'.length = pre.length → post'.length = post.length → pre.length + post.length ≤ 1048576 → (∀ x ∈ post, x.length ≤ 1048576) →
    Ev (fun k => laws_toLocSS.l0 k (pre ++ post) (pre' ++ post') (pre.length : Int)) (pre' ++ (post.map (List.map cv_S100)))
  | [], pre, pre', post', h1, h2, hb, hw => by
    obtain rfl : post' = [] := List.length_eq_zero_iff.1 h2
    refine Ev.step (fun k => by simp only [laws_toLocSS.l0]; rw [if_neg (by simp)]) (by simpa using Ev.now _)
  | x :: post, pre, pre', y :: post', h1, h2, hb, hw => by
    have ih := toLocSS_l0 post (pre ++ [x]) (pre' ++ [(x.map cv_S100)]) post' (by simp [h1]) (by simpa using h2) (by simp at hb ⊢; omega) (fun y hy => hw y (by simp [hy]))
    refine Ev.step (fun k => by
      simp only [laws_toLocSS.l0]
      rw [if_pos (by simp; omega), if_pos (by omega), rdat_L7 rfl]) ?_
    refine bind_ev (toLocS_ev x (hw x (by simp))) ?_
    refine ite_t (by simp [h1]; omega) ?_
    rw [Int.toNat_natCast, set_at h1.symm, w_succ (by simp at hb; omega)]
    simpa using ih
theorem toLocSS_ev (l : List (List (S100))) (hb : (l.length ≤ 1048576 ∧ ∀ x ∈ l, x.length ≤ 1048576)) : Ev (fun k => laws_toLocSS.f k l) (l.map (List.map cv_S100)) := by
  have h := toLocSS_l0 l [] [] (List.replicate l.length []) rfl (by simp) (by simpa using hb.1) hb.2
  unfold laws_toLocSS.f
  refine ite_t (by omega) (ite_t (by have := hb.1; simp; omega) ?_)
  simpa using h
def cv_S48 (x : S48) : S55 := ⟨(x.f0.map cv_S93), x.f1, (x.f2.map (List.map cv_S100))⟩
theorem toTranslated_ev (x : S48) (hb : bd_S48 x) : Ev (fun k => laws_toTranslated.f k x.f0 x.f1 x.f2) ((cv_S48 x).f0, (cv_S48 x).f1, (cv_S48 x).f2) := by
  unfold laws_toTranslated.f
  refine bind_ev (toInstrS_ev _ hb.1) ?_
  refine bind_ev (toIntS_ev _ hb.2.1) ?_
  refine bind_ev (toLocSS_ev _ hb.2.2) ?_
  exact Ev.now _
theorem eqInstr_ev (x : S91) : Ev (fun k => laws_eqInstr.f x.f0 x.f1 x.f2 x.f3 x.f4 x.f0 x.f1 x.f2 x.f3 x.f4) true := by
  unfold laws_eqInstr.f
  repeat first | exact Ev.now _ | refine ite_t rfl ?_ | refine ite_f (by simp) ?_
theorem rdat_T91 {pre : List S91} {x : S91} {post : List S91} {n : Nat} (h : n = pre.length) : rd_T91 (pre ++ x :: post) (n : Int) = x := by
  unfold rd_T91; rw [Int.toNat_natCast]; exact getD_at h
theorem eqInstrS_l0 : ∀ (post pre : List S91), pre.length + post.length ≤ 1048576 → 
    Ev (fun k => laws_eqInstrS.l0 k (pre ++ post) (pre ++ post) (pre.length : Int)) true
  | [], pre, hb => Ev.step (fun k => by simp only [laws_eqInstrS.l0]; rw [if_neg (by simp)]) (Ev.now _)
  | x :: post, pre, hb => by
    have ih := eqInstrS_l0 post (pre ++ [x]) (by simp at hb ⊢; omega)
    refine Ev.step (fun k => by
      simp only [laws_eqInstrS.l0]
      rw [if_pos (by simp; omega), if_pos (by omega), if_pos (by simp; omega), rdat_T91 rfl]) ?_
    refine bind_ev (eqInstr_ev x) (ite_t rfl ?_)
    rw [w_succ (by simp at hb; omega)]
    simpa using ih
theorem eqInstrS_ev (l : List S91) (hb : l.length ≤ 1048576) : Ev (fun k => laws_eqInstrS.f k l l) true := by
  have h := eqInstrS_l0 l [] (by simpa using hb)
  unfold laws_eqInstrS.f
  exact ite_t rfl (by simpa using h)
theorem eqLoc_ev (x : S79) : Ev (fun k => laws_eqLoc.f x.f0 x.f1 x.f0 x.f1) true := by
  unfold laws_eqLoc.f
  repeat first | exact Ev.now _ | refine ite_t rfl ?_ | refine ite_f (by simp) ?_
theorem rdat_T79 {pre : List S79} {x : S79} {post : List S79} {n : Nat} (h : n = pre.length) : rd_T79 (pre ++ x :: post) (n : Int) = x := by
  unfold rd_T79; rw [Int.toNat_natCast]; exact getD_at h
theorem eqLocS_l0 : ∀ (post pre : List S79), pre.length + post.length ≤ 1048576 → 
    Ev (fun k => laws_eqLocS.l0 k (pre ++ post) (pre ++ post) (pre.length : Int)) true
  | [], pre, hb => Ev.step (fun k => by simp only [laws_eqLocS.l0]; rw [if_neg (by simp)]) (Ev.now _)
  | x :: post, pre, hb => by
    have ih := eqLocS_l0 post (pre ++ [x]) (by simp at hb ⊢; omega)
    refine Ev.step (fun k => by
      simp only [laws_eqLocS.l0]
      rw [if_pos (by simp; omega), if_pos (by omega), if_pos (by simp; omega), rdat_T79 rfl]) ?_
    refine bind_ev (eqLoc_ev x) (ite_t rfl ?_)
    rw [w_succ (by simp at hb; omega)]
    simpa using ih
theorem eqLocS_ev (l : List S79) (hb : l.length ≤ 1048576) : Ev (fun k => laws_eqLocS.f k l l) true := by
  have h := eqLocS_l0 l [] (by simpa using hb)
  unfold laws_eqLocS.f
  exact ite_t rfl (by simpa using h)
theorem rdat_L11 {pre : List (List (S79))} {x : List (S79)} {post : List (List (S79))} {n : Nat} (h : n = pre.length) : rd_L11 (pre ++ x :: post) (n : Int) = x := by
  unfold rd_L11; rw [Int.toNat_natCast]; exact getD_at h
theorem eqLocSS_l0 : ∀ (post pre : List (List (S79))), pre.length + post.length ≤ 1048576 → (∀ x ∈ post, x.length ≤ 1048576) →
    Ev (fun k => laws_eqLocSS.l0 k (pre ++ post) (pre ++ post) (pre.length : Int)) true
  | [], pre, hb, hw => Ev.step (fun k => by simp only [laws_eqLocSS.l0]; rw [if_neg (by simp)]) (Ev.now _)
  | x :: post, pre, hb, hw => by
    have ih := eqLocSS_l0 post (pre ++ [x]) (by simp at hb ⊢; omega) (fun y hy => hw y (by simp [hy]))
    refine Ev.step (fun k => by
      simp only [laws_eqLocSS.l0]
      rw [if_pos (by simp; omega), if_pos (by omega), if_pos (by simp; omega), rdat_L11 rfl]) ?_
    refine bind_ev (eqLocS_ev x (hw x (by simp))) (ite_t rfl ?_)
    rw [w_succ (by simp at hb; omega)]
    simpa using ih
theorem eqLocSS_ev (l : List (List (S79))) (hb : (l.length ≤ 1048576 ∧ ∀ x ∈ l, x.length ≤ 1048576)) : Ev (fun k => laws_eqLocSS.f k l l) true := by
  have h := eqLocSS_l0 l [] (by simpa using hb.1) hb.2
  unfold laws_eqLocSS.f
  exact ite_t rfl (by simpa using h)
def bd_S55 (x : S55) : Prop := x.f0.length ≤ 1048576 ∧ x.f1.length ≤ 1048576 ∧ (x.f2.length ≤ 1048576 ∧ ∀ y ∈ x.f2, y.length ≤ 1048576)
theorem eqTranslated_ev (x : S55) (hb : bd_S55 x) : Ev (fun k => laws_eqTranslated.f k x.f0 x.f1 x.f2 x.f0 x.f1 x.f2) true := by
  unfold laws_eqTranslated.f
  repeat first | exact Ev.now _ | refine ite_t rfl ?_ | refine ite_f (by simp) ?_ | refine bind_ev (eqInstrS_ev x.f0 hb.1) ?_ | refine bind_ev (eqIntS_ev x.f1 hb.2.1) ?_ | refine bind_ev (eqLocSS_ev x.f2 hb.2.2) ?_
theorem heldIntS_l0 : ∀ (m : Nat) (pre : List Int) (n : Int), pre.length + m < 4611686018427387904 → 0 ≤ n → n + m < 4611686018427387904 →
    Ev (fun k => laws_heldIntS.l0 k (pre ++ from_ n m) n (pre.length : Int)) (n + m)
  | 0, pre, n, hb, h0, hn => by
    have e : from_ n 0 = [] := rfl
    rw [e]
    refine Ev.step (fun k => by simp only [laws_heldIntS.l0]; rw [if_neg (by simp)]) ?_
    simpa using Ev.now _
  | m + 1, pre, n, hb, h0, hn => by
    have ih := heldIntS_l0 m (pre ++ [n]) (n + 1) (by simp at hb ⊢; omega) (by omega) (by simp at hn ⊢; omega)
    have e0 : from_ n (m + 1) = n :: from_ (n + 1) m := rfl
    rw [e0]
    refine Ev.step (fun k => by
      simp only [laws_heldIntS.l0]
      rw [if_pos (by simp; omega), if_pos (by omega), if_pos (rd_at rfl), w_succ (by omega), w64 (x := n + 1) (by omega) (by omega)]) ?_
    have e : n + 1 + (m : Int) = n + ((m + 1 : Nat) : Int) := by omega
    rw [e] at ih
    simpa using ih
theorem heldIntS_ev (m : Nat) (n : Int) (hb : m < 2305843009213693952) (h0 : 0 ≤ n) (hn : n < 2305843009213693952) : Ev (fun k => laws_heldIntS.f k (from_ n m) n) (n + m) := by
  have h := heldIntS_l0 m [] n (by simp; omega) h0 (by omega)
  unfold laws_heldIntS.f
  simpa using h
end Go.Proofs.Ytpoddnhfnphdcaa.Pure
