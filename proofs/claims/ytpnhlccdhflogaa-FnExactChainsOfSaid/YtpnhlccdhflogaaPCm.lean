/- Chains: the law. Conditions: none. -/
import Derived.Test.YtpnhlccdhflogaaPCl
import Derived.Test.YtpnhlccdhflogaaGoodFnExactChainsOf
import Derived.Test.YtpnhlccdhflogaaQx0
import Derived.Test.YtpnhlccdhflogaaQx6
import Derived.Test.YtpnhlccdhflogaaQx7
set_option linter.unusedVariables false
set_option linter.unusedSimpArgs false
set_option linter.unusedSectionVars false
namespace Go.Proofs.Ytpnhlccdhflogaa.Pure
open Go.RowKit Go.Proofs.Ytpnhlccdhflogaa.Q Go.Proofs.YtpnhlccdhflogaaW.PrintWords Go.Proofs.YtpnhlccdhflogaaW.PrintLast Go.Proofs.Ytpnhlccdhflogaa.Kit Go.Proofs.Ytpnhlccdhflogaa.Wf
theorem markEdgeS_l0 : ∀ (post pre : List S48) (n : Int), pre.length + post.length ≤ 1048576 → 0 ≤ n → n + 3 * post.length < 2305843009213693952 + 3 * 1048576 →
    ∃ r : Int × List S48, Ev (fun k => laws_markEdgeS.l0 k (pre ++ post) n (pre.length : Int)) r ∧ 0 ≤ r.1
  | [], pre, n, hb, h0, hn => ⟨(n, pre ++ []), by
      refine Ev.step (fun k => by simp only [laws_markEdgeS.l0]; rw [if_neg (by simp)]) ?_
      simpa using Ev.now _, h0⟩
  | x :: post, pre, n, hb, h0, hn => by
    simp only [List.length_cons] at hb hn
    obtain ⟨r, ih, hr⟩ := markEdgeS_l0 post (pre ++ [⟨n, n + 1, n + 1 + 1⟩]) (n + 1 + 1 + 1) (by simp; omega) (by omega) (by omega)
    refine ⟨r, ?_, hr⟩
    refine Ev.step (fun k => by
      simp only [laws_markEdgeS.l0]
      rw [if_pos (by simp; omega), if_pos (by omega), Int.toNat_natCast, set_at rfl]) ?_
    simp only [Option.bind_some]
    rw [set_at rfl, rdat_T48 rfl, rdat_T48 rfl, rdat_T48 rfl, set_at rfl, w_succ (by omega), w64 (x := n + 1) (by omega) (by omega), w64 (x := n + 1 + 1) (by omega) (by omega), w64 (x := n + 1 + 1 + 1) (by omega) (by omega)]
    simpa using ih
theorem markEdgeS_ev (l : List S48) (hb : l.length ≤ 1048576) : ∃ r : Int × List S48, Ev (fun k => laws_markEdgeS.f k l 1) r ∧ 0 ≤ r.1 := by
  have h := markEdgeS_l0 l [] 1 (by simp; omega) (by omega) (by omega)
  unfold laws_markEdgeS.f
  simpa using h
theorem cntSS_le : ∀ (l : List (List Int)), (∀ c ∈ l, c.length ≤ 1048576) → markIntSS_cnt l ≤ l.length * 1048576
  | [], _ => by simp [markIntSS_cnt]
  | x :: xs, h => by
    have ih := cntSS_le xs (fun c hc => h c (List.mem_cons_of_mem _ hc))
    have h1 := h x (by simp)
    simp only [markIntSS_cnt, markIntSS_cnt1, List.length_cons]
    omega
theorem heldSS_l0 : ∀ (post pre : List (List Int)) (n : Int), pre.length + post.length ≤ 1048576 → (∀ b ∈ post, b.length ≤ 1048576) → 0 ≤ n → n + (markIntSS_cnt post : Nat) < 2305843009213693952 →
    Ev (fun k => laws_heldIntSS.l0 k (pre ++ markIntSS_mk n post) n (pre.length : Int)) (n + (markIntSS_cnt post : Nat))
  | [], pre, n, hb, hm, h0, hn => by
    refine Ev.step (fun k => by simp only [laws_heldIntSS.l0]; rw [if_neg (by simp [markIntSS_mk])]) ?_
    exact some_ev (by simp [markIntSS_cnt])
  | x :: post, pre, n, hb, hm, h0, hn => by
    simp only [List.length_cons] at hb
    simp only [markIntSS_cnt, markIntSS_cnt1] at hn
    have hx := hm x (by simp)
    have ih := heldSS_l0 post (pre ++ [markIntSS_one n x]) (n + (markIntSS_cnt1 x : Nat)) (by simp; omega) (fun b hb => hm b (by simp [hb])) (by omega) (by simp only [markIntSS_cnt1]; omega)
    simp only [markIntSS_mk]
    have hr : rd_L5 (pre ++ markIntSS_one n x :: markIntSS_mk (n + (markIntSS_cnt1 x : Nat)) post) (pre.length : Int) = markIntSS_one n x := rdat_L5 rfl
    refine Ev.step (fun k => by
      simp only [laws_heldIntSS.l0]
      rw [if_pos (by simp; omega), if_pos (by omega), hr, w_succ (n := pre.length) (by omega)]) ?_
    simp only [markIntSS_one]
    refine bind_ev (heldIntS_ev x.length n (by omega) h0 (by omega)) (ite_f (by omega) ?_)
    have e6 : n + ((markIntSS_cnt (x :: post) : Nat) : Int) = n + (markIntSS_cnt1 x : Nat) + (markIntSS_cnt post : Nat) := by simp [markIntSS_cnt]; omega
    rw [e6]
    simpa [markIntSS_one, markIntSS_cnt1] using ih
theorem heldSS_ev (l : List (List Int)) (hb : l.length ≤ 1048576) (hm : ∀ b ∈ l, b.length ≤ 1048576) : Ev (fun k => laws_heldIntSS.f k (markIntSS_mk 1 l) 1) (1 + (markIntSS_cnt l : Nat)) := by
  have hc := cntSS_le l hm
  have h := heldSS_l0 l [] 1 (by simpa using hb) hm (by omega) (by omega)
  unfold laws_heldIntSS.f
  simpa using h
theorem FnExactChainsOf (a : Int) (_ : (Lit.int .i64 a).wf = true) (x : List S77) (hx : x.length ≤ maxLen ∧ ∀ y ∈ x, wf_S77 y) : ∃ k, laws_FnExactChainsOf.f k a x = some true := by
  obtain ⟨z, ⟨k1, hz⟩, hz2⟩ := szEdgeS_ok x 1048576 (by omega) (by omega) hx.1
  unfold laws_FnExactChainsOf.f
  by_cases h : z < 0
  · exact ⟨k1, if_pos ⟨z, hz k1 (Nat.le_refl _), .inl h⟩⟩
  · have hb := (hz2 (by omega)).2
    obtain ⟨k2, ht⟩ := toEdgeS_ev x hb
    have hb2 : (x.map cv_S77).length ≤ 1048576 := by simpa using hb
    obtain ⟨⟨o, b⟩, ⟨ho1, ho2⟩, ⟨k3, h1⟩, h2⟩ := chains_both a (x.map cv_S77) hb2
    simp only at ho1 ho2
    obtain ⟨k4, hq⟩ := eqIntSS_ev o ⟨by omega, fun c hc => by have := ho2 c hc; omega⟩
    obtain ⟨k5, he⟩ := eqEdgeS_ev (x.map cv_S77) hb2
    obtain ⟨⟨m, ml⟩, ⟨k6, hm⟩, hm0⟩ := markEdgeS_ev (x.map cv_S77) hb2
    have hcn := cntSS_le o (fun c hc => by have := ho2 c hc; omega)
    obtain ⟨k7, hh⟩ := heldSS_ev o (by omega) (fun c hc => by have := ho2 c hc; omega)
    generalize hk' : k1 + k2 + k3 + k4 + k5 + k6 + k7 = k
    exact ⟨k, if_pos ⟨z, hz k (by omega), .inr ⟨h, _, ht k (by omega), o, b, h1 k (by omega), _, ht k (by omega), o, h2, hq k (by omega), _, ht k (by omega), he k (by omega), m, ml, hm k (by omega), hm0, hq k (by omega), by omega, hh k (by omega), _, ht k (by omega), o, h2, hq k (by omega), hh k (by omega), trivial⟩⟩⟩
end Go.Proofs.Ytpnhlccdhflogaa.Pure
