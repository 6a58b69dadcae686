/- FnCover: no cover costs less than the best one, for drawn trees and patterns. Conditions: none. -/
import Derived.Test.YtfdbdbihhgabpaaPOpt
import Derived.Test.YtfdbdbihhgabpaaPDraw
import Derived.Test.YtfdbdbihhgabpaaPBC
import Derived.Test.YtfdbdbihhgabpaaQx0
import Derived.Test.YtfdbdbihhgabpaaQx3
import Derived.Test.YtfdbdbihhgabpaaQx4
import Derived.Test.YtfdbdbihhgabpaaQx7
import Derived.Test.YtfdbdbihhgabpaaQx8
import Derived.Test.YtfdbdbihhgabpaaQx9
import Derived.Test.YtfdbdbihhgabpaaQx10
import Derived.Test.YtfdbdbihhgabpaaQx11
import Derived.Test.YtfdbdbihhgabpaaQx13
import Derived.Test.YtfdbdbihhgabpaaQx14
import Derived.Test.YtfdbdbihhgabpaaQx15
set_option linter.unusedVariables false
set_option linter.unusedSimpArgs false
set_option linter.unusedSectionVars false
namespace Go.Proofs.Ytfdbdbihhgabpaa.Pure
open Go.RowKit Go.Proofs.Ytfdbdbihhgabpaa.Q Go.Proofs.YtfdbdbihhgabpaaW.PrintWords Go.Proofs.YtfdbdbihhgabpaaW.PrintLast Go.Proofs.Ytfdbdbihhgabpaa.Kit

theorem go_cost_bd {l : List S57} (hc : CostOk l) : ∀ (ps : List S63), InR l ps → 0 ≤ costN l ps ∧ costN l ps ≤ 100 * ps.length
  | [], _ => by simp [costN]
  | x :: ps, hr => by
    have hx := cost_at hc (hr x (by simp)).1 (hr x (by simp)).2
    have ih := go_cost_bd hc ps (fun y hy => hr y (by simp [hy]))
    simp only [costN, List.length_cons]
    omega
structure Good (t : List Int) (l : List S57) : Prop where
  tree : TreeOk t
  len : l.length ≤ 12
  kinds : ∀ p ∈ l, KindsOk p.f0
  cost : CostOk l
theorem good_of {t : List Int} {l : List S57} (h1 : treeB t = true) (h2 : patsB l = true) : Good t l := by
  obtain ⟨a, b⟩ := patsB_ok h2
  exact ⟨treeB_ok h1, a, fun p hp => (b p hp).1, fun p hp => (b p hp).2⟩
def CF (t : List Int) (l : List S57) : List Int × List Int := cov0 t l t.length (List.replicate t.length 0, List.replicate t.length 0)
section
variable {t : List Int} {l : List S57} (g : Good t l)
include g
theorem cf_opt : ∀ q, q < t.length → Opt t l (CF t l).1 (CF t l).2 l.length q := opt_all t l g.tree (by have := g.len; omega) g.kinds g.cost
theorem cf_len : (CF t l).2.length = t.length ∧ (CF t l).1.length = t.length := by
  obtain ⟨_, a, b⟩ := covF_ok t l g.tree g.kinds
  exact ⟨a, b⟩
theorem cover_best (ps : List S63) (h : goC t l ps [0] = some []) : rd (CF t l).2 0 ≥ 0 ∧ rd (CF t l).1 0 ≤ costN l ps := by
  have h1 := g.tree.1
  obtain ⟨a, b⟩ := cover_ge t l g.tree (by have := g.len; omega) g.kinds g.cost (cf_opt g) ps [0] (fun x hx => by simp at hx; omega) h
  exact ⟨a 0 (by simp), by simpa [sumC] using b⟩
theorem best_pieces (h : rd (CF t l).2 0 ≥ 0) : ∃ ps, Ev (fun k => spec_l9Pieces.f k t l 0 (CF t l).2 []) (ps, true) ∧ 1 ≤ ps.length ∧ ps.length ≤ 40 ∧ goC t l ps [0] = some [] ∧ costN l ps = rd (CF t l).1 0 := by
  have h1 := g.tree.1
  have h2 := g.tree.2.1
  have ho := cf_opt g
  have hz := szAt_leG t 0
  rcases pieces_val t l g.tree (by have := g.len; omega) g.kinds (CF t l).2 (cf_len g).1 (fun q hq hq0 => ⟨((ho q hq).yes hq0).1, ((ho q hq).yes hq0).2.1⟩) (szAt t 0) 0 [] (by omega) (Nat.le_refl _) (by simp; omega) with ⟨e1, e2, e3, e4, e5, e6⟩ | ⟨e1, e2⟩
  · refine ⟨_, by simpa using e1, e2, by omega, ?_, e6 (CF t l).1 (fun q hq hq0 => ((ho q hq).yes hq0).2.2.2)⟩
    have := e5 [] []
    simpa [goC] using this
  · have := e2 (fun q hq hq0 => ((ho q hq).yes hq0).2.2.1)
    have e0 : rd (CF t l).2 ((0 : Nat) : Int) = rd (CF t l).2 0 := rfl
    omega
end
theorem best_val (t : List Int) (l : List S57) (hb : t.length ≤ 1048576) (hb2 : l.length ≤ 1048576) :
    ∃ o : List S63 × Int × Bool, Ev (fun k => spec_BestCover.f k t l) o ∧ Ev (fun k => impl_BestCover.f k t l) o ∧ o.1.length ≤ 40 ∧
      (treeB t = true → patsB l = true → (rd (CF t l).2 0 < 0 → o.2.2 = false) ∧ (rd (CF t l).2 0 ≥ 0 → o.2.2 = true ∧ o.2.1 = rd (CF t l).1 0 ∧ goC t l o.1 [0] = some [] ∧ costN l o.1 = rd (CF t l).1 0)) ∧
      (¬ (treeB t = true ∧ patsB l = true) → o.2.2 = false) := by
  obtain ⟨o, ho, e1, e2⟩ := best_both t l hb hb2
  refine ⟨o, e1, e2, ho, fun h1 h2 => ?_, fun hn => ?_⟩
  · have g := good_of h1 h2
    have s1 := spec_cov t l g.tree (by have := g.len; omega) g.kinds
    have hl1 := g.tree.1
    have hC := (cf_len g).2
    have hF := (cf_len g).1
    have spec : ∀ R, Ev (fun k => (spec_l9Pieces.f k t l 0 (CF t l).2 []).bind fun bt => if bt.2 = true then (if 0 < ((CF t l).1.length : Int) then some (bt.1, rd (CF t l).1 0, true) else none) else some ([], 0, false)) R → Ev (fun k => spec_BestCover.f k t l) R := by
      intro R h
      unfold spec_BestCover.f
      refine bind_ev (spec_tree t hb) (ite_t h1 (bind_ev (spec_pats l hb2) ?_))
      rw [h2]
      refine Ev.step (fun k => by simp only [spec_BestCover.j0]; rw [if_neg (by simp)]) ?_
      exact bind_ev s1 h
    refine ⟨fun hlt => ?_, fun hge => ?_⟩
    · have := spec ([], 0, false) (bind_ev (a := ([], false)) (Ev.step (fun k => by simp only [spec_l9Pieces.f]; rw [if_pos (by omega), if_pos (by omega), if_pos hlt]) (Ev.now _)) (ite_f (by simp) (Ev.now _)))
      rw [ev_unique e1 this]
    · obtain ⟨ps, p1, p2, p3, p4, p5⟩ := best_pieces g hge
      have := spec (ps, rd (CF t l).1 0, true) (bind_ev p1 (ite_t rfl (ite_t (by omega) (Ev.now _))))
      rw [ev_unique e1 this]
      exact ⟨rfl, rfl, p4, p5⟩
  · have sj : Ev (fun k => spec_BestCover.j0 k t l true) ([], 0, false) := Ev.step (fun k => by simp only [spec_BestCover.j0]; rw [if_pos trivial]) (Ev.now _)
    have : Ev (fun k => spec_BestCover.f k t l) ([], 0, false) := by
      unfold spec_BestCover.f
      by_cases h1 : treeB t = true
      · refine bind_ev (spec_tree t hb) (ite_t h1 (bind_ev (spec_pats l hb2) ?_))
        have h2' : patsB l = false := by
          cases h : patsB l with
          | true => exact absurd ⟨h1, h⟩ hn
          | false => rfl
        rw [h2']; exact sj
      · exact bind_ev (spec_tree t hb) (ite_f h1 sj)
    rw [ev_unique e1 this]
theorem greedy_val (t : List Int) (l : List S57) (hb : t.length ≤ 1048576) (hb2 : l.length ≤ 1048576) :
    ∃ o : List S63 × Int × Bool, Ev (fun k => spec_GreedyCover.f k t l) o ∧ Ev (fun k => impl_GreedyCover.f k t l) o ∧ o.1.length ≤ 40 ∧
      (o.2.2 = true → treeB t = true ∧ patsB l = true ∧ 1 ≤ o.1.length ∧ goC t l o.1 [0] = some [] ∧ o.2.1 = costN l o.1) := by
  obtain ⟨o, ho, e1, e2⟩ := greedy_both t l hb hb2
  refine ⟨o, e1, e2, ho, ?_⟩
  have sj : Ev (fun k => spec_GreedyCover.j0 k t l true) ([], 0, false) := Ev.step (fun k => by simp only [spec_GreedyCover.j0]; rw [if_pos trivial]) (Ev.now _)
  by_cases h1 : treeB t = true
  · by_cases h2 : patsB l = true
    · have g := good_of h1 h2
      have hl := g.len
      have hl1 := g.tree.1
      have hl2 := g.tree.2.1
      have hz := szAt_leG t 0
      have hV : ∀ q : Nat, q < t.length → rd (grF t l t.length) q ≥ 0 → rd (grF t l t.length) q < l.length ∧ (fitAt t q (rd_T57 l (rd (grF t l t.length) q))).2 = true := fun q hq h => by
        rw [rd_grF t l t.length q hq] at h ⊢
        exact pick_ok h
      have s0 : ∀ R, Ev (fun k => fin k t l (grF t l t.length)) R → Ev (fun k => spec_GreedyCover.f k t l) R := fun R h => by
        unfold spec_GreedyCover.f
        refine bind_ev (spec_tree t hb) (ite_t h1 (bind_ev (spec_pats l hb2) ?_))
        rw [h2]
        refine Ev.step (fun k => by simp only [spec_GreedyCover.j0]; rw [if_neg (by simp)]) ?_
        simpa [grF] using spec_pick_l0 t l g.tree (by omega) g.kinds R h t.length 0 (by omega)
      rcases pieces_val t l g.tree (by omega) g.kinds (grF t l t.length) (by simp [grF]) hV (szAt t 0) 0 [] (by omega) (Nat.le_refl _) (by simp; omega) with ⟨p1, p2, p3, p4, p5, p6⟩ | ⟨p1, p2⟩
      · have hg : goC t l (pcs t l (grF t l t.length) (szAt t 0) ((0 : Nat) : Int)) [0] = some [] := by
          have := p5 [] []
          simpa [goC] using this
        have hr := go_inR t l g.tree (by omega) g.kinds _ _ _ hg
        generalize pcs t l (grF t l t.length) (szAt t 0) ((0 : Nat) : Int) = ps at p1 p2 p3 hg hr
        have he : smF l 0 ps = costN l ps := by rw [smF_eq g.cost ps 0 hr (by omega) (by omega)]; omega
        have := s0 (ps, smF l 0 ps, true) (by
          unfold fin
          refine bind_ev (a := (ps, true)) (by simpa using p1) (ite_t rfl (bind_ev (a := smF l 0 ps) ?_ (Ev.now _)))
          have := spec_sum_l0 l ps (by omega) hr ps [] 0 rfl
          unfold spec_l9Sum.f
          simpa using this)
        rw [ev_unique e1 this]
        exact fun _ => ⟨h1, h2, p2, hg, he⟩
      · have := s0 ([], 0, false) (by
          unfold fin
          exact bind_ev (a := ([], false)) (by simpa using p1) (ite_f (by simp) (Ev.now _)))
        rw [ev_unique e1 this]
        exact fun h => by simp at h
    · have h2' : patsB l = false := by simpa using h2
      have : Ev (fun k => spec_GreedyCover.f k t l) ([], 0, false) := by
        unfold spec_GreedyCover.f
        refine bind_ev (spec_tree t hb) (ite_t h1 (bind_ev (spec_pats l hb2) ?_))
        rw [h2']; exact sj
      rw [ev_unique e1 this]
      exact fun h => by simp at h
  · have : Ev (fun k => spec_GreedyCover.f k t l) ([], 0, false) := by
      unfold spec_GreedyCover.f
      exact bind_ev (spec_tree t hb) (ite_f h1 sj)
    rw [ev_unique e1 this]
    exact fun h => by simp at h
theorem costAt_both (t : List Int) (a : Int) (l : List S57) (hb : t.length ≤ 1048576) (hb2 : l.length ≤ 1048576) :
    ∃ o : Int × Bool, Ev (fun k => impl_CostAt.f k t a l) o ∧ Ev (fun k => spec_CostAt.f k t a l) o ∧ (treeB t = true → patsB l = true → a = 0 → rd (CF t l).2 0 ≥ 0 → o = (rd (CF t l).1 0, true)) := by
  unfold impl_CostAt.f spec_CostAt.f
  have ij : Ev (fun k => impl_CostAt.j0 k t a l true) (0, false) := Ev.step (fun k => by simp only [impl_CostAt.j0]; rw [if_pos trivial]) (Ev.now _)
  by_cases h1 : treeB t = true
  · by_cases ha : inB a 0 (t.length - 1) = true
    · have ha' := (inB_iff _ _ _).1 ha
      by_cases h2 : patsB l = true
      · have g := good_of h1 h2
        have hl := g.len
        have hC := (cf_len g).2
        have hF := (cf_len g).1
        have o := cf_opt g a.toNat (by omega)
        have ea : ((a.toNat : Nat) : Int) = a := by omega
        have s1 := spec_cov t l g.tree (by omega) g.kinds
        have i1 := impl_cov t l g.tree (by omega) g.kinds
        have key : (if rd (CF t l).2 a < 0 then ((0, false) : Int × Bool) else (rd (CF t l).1 a, true)) = (rd (CF t l).1 a, decide (rd (CF t l).2 a ≥ 0)) := by
          by_cases hn : rd (CF t l).2 a < 0
          · rw [if_pos hn]
            have := o.no (by rw [ea]; exact hn)
            rw [ea] at this
            rw [this]; simp; omega
          · rw [if_neg hn]; simp; omega
        refine ⟨(rd (CF t l).1 a, decide (rd (CF t l).2 a ≥ 0)), ?_, ?_, fun _ _ h0 hg => by subst h0; simp; omega⟩
        · refine bind_ev (impl_tree t hb) (ite_t h1 (bind_ev (const_ev (impl_in _ _ _)) ?_))
          rw [w64 (x := (t.length : Int) - 1) (by omega) (by omega)]
          refine ite_t ha (bind_ev (impl_pats l) ?_)
          rw [h2]
          refine Ev.step (fun k => by simp only [impl_CostAt.j0]; rw [if_neg (by simp)]) ?_
          refine bind_ev (a := CF t l) i1 (ite_t ha'.1 (ite_t (by omega) ?_))
          rw [← key]
          exact ite_ev (fun _ => Ev.now _) (fun _ => ite_t (by omega) (Ev.now _))
        · refine bind_ev (spec_tree t hb) (ite_t h1 (bind_ev (spec_pats l hb2) (ite_t h2 (ite_f (by omega) (ite_f (by omega) ?_)))))
          exact bind_ev (a := CF t l) s1 (ite_t ha'.1 (ite_t (by omega) (ite_t (by omega) (Ev.now _))))
      · have h2' : patsB l = false := by simpa using h2
        refine ⟨(0, false), ?_, ?_, fun _ h => absurd h h2⟩
        · refine bind_ev (impl_tree t hb) (ite_t h1 (bind_ev (const_ev (impl_in _ _ _)) ?_))
          rw [w64 (x := (t.length : Int) - 1) (by omega) (by omega)]
          refine ite_t ha (bind_ev (impl_pats l) ?_)
          rw [h2']; exact ij
        · exact bind_ev (spec_tree t hb) (ite_t h1 (bind_ev (spec_pats l hb2) (ite_f h2 (Ev.now _))))
    · have ha' : ¬ (0 ≤ a ∧ a ≤ (t.length : Int) - 1) := fun h => ha ((inB_iff _ _ _).2 h)
      have ht1 := (treeB_ok h1).1
      refine ⟨(0, false), ?_, ?_, fun _ _ h0 => absurd ⟨by omega, by omega⟩ ha'⟩
      · refine bind_ev (impl_tree t hb) (ite_t h1 (bind_ev (const_ev (impl_in _ _ _)) ?_))
        rw [w64 (x := (t.length : Int) - 1) (by omega) (by omega)]
        exact ite_f ha ij
      · refine bind_ev (spec_tree t hb) (ite_t h1 (bind_ev (spec_pats l hb2) ?_))
        by_cases h2 : patsB l = true
        · refine ite_t h2 ?_
          by_cases h0 : a < 0
          · exact ite_t h0 (Ev.now _)
          · exact ite_f h0 (ite_t (by omega) (Ev.now _))
        · exact ite_f h2 (Ev.now _)
  · exact ⟨(0, false), bind_ev (impl_tree t hb) (ite_f h1 ij), bind_ev (spec_tree t hb) (ite_f h1 (Ev.now _)), fun h => absurd h h1⟩
theorem same_l0 : ∀ (post pre : List S63), pre.length + post.length ≤ 1048576 →
    Ev (fun k => laws_samePieces.l0 k (pre ++ post) (pre ++ post) ((pre ++ post).length : Int) (pre.length : Int)) true
  | [], pre, hb => Ev.step (fun k => by simp only [laws_samePieces.l0]; rw [if_neg (by simp)]) (Ev.now _)
  | x :: post, pre, hb => by
    have ih := same_l0 post (pre ++ [x]) (by simp at hb ⊢; omega)
    simp only [List.length_cons] at hb
    refine Ev.step (fun k => by
      simp only [laws_samePieces.l0]
      rw [if_pos (by simp; omega), if_pos (by omega), if_pos (by simp; omega), if_pos (by simp; omega), rdat_T63 rfl, w_succ (by omega)]) ?_
    exact ite_f (by simp) (by simpa using ih)
theorem same_ev (l : List S63) (hb : l.length ≤ 1048576) : Ev (fun k => laws_samePieces.f k l l) true := by
  have := same_l0 l [] (by simpa using hb)
  unfold laws_samePieces.f
  exact ite_t rfl (by simpa using this)
theorem drawIs_ok {c : List Int} (hc : Bytes c) : ∃ (t : List Int) (l : List S57) (P : List S63), Ev (fun k => spec_DrawIsCover.f k c) (t, l, P) ∧ t.length ≤ 31 ∧ l.length ≤ 10 ∧ P.length ≤ 40 := by
  obtain ⟨t, l, e1, t1, l1, l2⟩ := drawBest_ok hc
  obtain ⟨o, g1, g2, g3, g4⟩ := greedy_val t l (by omega) (by omega)
  unfold spec_DrawIsCover.f
  by_cases ho : o.2.2 = true
  · obtain ⟨_, _, g5, _, _⟩ := g4 ho
    obtain ⟨b, a1, s1, e2, p0, p1⟩ := one_ok hc 0 3 (a := 0) (by omega) (by omega)
    by_cases hbt : b = true
    · obtain ⟨r, a2, s2, e3, r0, r1, p2, p3⟩ := cpick_ok hc s1 (o.1.length : Int) (a := a1) (by omega) (by omega)
      obtain ⟨r', a3, s3, e4, _, _, p4, p5⟩ := cpick_ok hc s2 12 (a := a2) (by omega) (by omega)
      exact ⟨t, l, o.1.set r.toNat ⟨(rd_T63 o.1 r).f0, r'⟩, bind_ev e1 (bind_ev g1 (ite_t ho (bind_ev (const_ev e2) (ite_t hbt (bind_ev (const_ev e3) (bind_ev (const_ev e4) (ite_t r0 (ite_t (r1 (by omega)) (Ev.now _))))))))), t1, l1, by simpa using g3⟩
    · exact ⟨t, l, o.1, bind_ev e1 (bind_ev g1 (ite_t ho (bind_ev (const_ev e2) (ite_f hbt (Ev.now _))))), t1, l1, g3⟩
  · exact ⟨t, l, [], bind_ev e1 (bind_ev g1 (ite_f ho (Ev.now _))), t1, l1, by simp⟩
theorem FnCover (c : List Int) (hb : c.length ≤ maxLen ∧ ∀ x ∈ c, (Lit.int .u8 x).wf = true) (m : List Int) (hmb : m.length ≤ maxLen ∧ ∀ x ∈ m, (Lit.int .u8 x).wf = true) : ∃ k, laws_FnCover.f k c m = some true := by
  refine Ev.rounds ?_
  unfold laws_FnCover.f
  by_cases g : wrap64 ((c.length : Int) + (m.length : Int)) > 1048576
  · exact ite_t g (Ev.now _)
  refine ite_f g ?_
  have bc := bytes_of hb.2
  have bm := bytes_of hmb.2
  obtain ⟨t, l, P, e1, t1, l1, P1⟩ := drawIs_ok bc
  obtain ⟨o1, s1, i1, v1, n1⟩ := is_both t l P (by omega) (by omega) (by omega)
  obtain ⟨o2, s2, i2, b2, v2, n2⟩ := best_val t l (by omega) (by omega)
  obtain ⟨o3, s3, i3, b3, v3⟩ := greedy_val t l (by omega) (by omega)
  obtain ⟨u, a, q, e6, u1, q1, q2⟩ := drawCost_ok bm
  obtain ⟨o6, i6, s6, _⟩ := costAt_both u a q (by omega) (by omega)
  have fin : Ev (fun k => (spec_DrawCostAt.f k m).bind fun bt657 => ((impl_CostAt.f k bt657.1 bt657.2.1 bt657.2.2).bind fun bt664 => ((spec_CostAt.f k bt657.1 bt657.2.1 bt657.2.2).bind fun bt666 => (if (bt664.2 == bt666.2) = true then (some (bt664.1 == bt666.1)) else (some false))))) true :=
    bind_ev e6 (bind_ev i6 (bind_ev s6 (ite_t (by simp) (some_ev (by simp)))))
  have A : o1.2.2 = true → o1.2.1 = true → o2.2.2 = true ∧ ¬ (o1.1 < o2.2.1) := by
    intro h1 h2
    by_cases hg : treeB t = true ∧ patsB l = true
    · have gd := good_of hg.1 hg.2
      have e := v1 hg.1 hg.2
      have hgo : goC t l P [0] = some [] := by
        cases h : goC t l P [0] with
        | none => rw [h] at e; rw [e] at h2; simp [resI] at h2
        | some r =>
          cases r with
          | nil => rfl
          | cons y r => rw [h] at e; rw [e] at h2; simp [resI] at h2
      obtain ⟨k1, k2⟩ := cover_best gd P hgo
      obtain ⟨k3, k4, _, _⟩ := (v2 hg.1 hg.2).2 k1
      refine ⟨k3, ?_⟩
      rw [hgo] at e
      have hr := go_inR t l gd.tree (by have := gd.len; omega) gd.kinds _ _ _ hgo
      rw [e]
      simp only [resI]
      rw [k4, smF_eq gd.cost P 0 hr (by omega) (by omega)]
      omega
    · rw [n1 hg] at h1; simp at h1
  have B : o3.2.2 = true → o2.2.2 = true ∧ ¬ (o3.2.1 < o2.2.1) := by
    intro h1
    obtain ⟨k1, k2, _, k3, k4⟩ := v3 h1
    have gd := good_of k1 k2
    obtain ⟨k5, k6⟩ := cover_best gd o3.1 k3
    obtain ⟨k7, k8, _, _⟩ := (v2 k1 k2).2 k5
    exact ⟨k7, by omega⟩
  have J1 : Ev (fun k => laws_FnCover.j1 k m t l o2.1 o2.2.1 o2.2.2 false) true := by
    refine Ev.step (fun k => by simp only [laws_FnCover.j1]; rw [if_neg (by simp)]) ?_
    by_cases h2 : o2.2.2 = true
    · refine ite_t h2 ?_
      have hg : treeB t = true ∧ patsB l = true := Classical.byContradiction fun hn => by rw [n2 hn] at h2; cases h2
      have gd := good_of hg.1 hg.2
      have hge : rd (CF t l).2 0 ≥ 0 := by
        by_cases h : rd (CF t l).2 0 ≥ 0
        · exact h
        · rw [(v2 hg.1 hg.2).1 (by omega)] at h2; cases h2
      obtain ⟨_, k4, k5, k6⟩ := (v2 hg.1 hg.2).2 hge
      obtain ⟨o4, s4, i4, v4, _⟩ := is_both t l o2.1 (by omega) (by omega) (by omega)
      obtain ⟨o5, i5, s5, v5⟩ := costAt_both t 0 l (by omega) (by omega)
      have e4 := v4 hg.1 hg.2
      have e5 := v5 hg.1 hg.2 rfl hge
      have hr := go_inR t l gd.tree (by have := gd.len; omega) gd.kinds _ _ _ k5
      rw [k5] at e4
      simp only [resI] at e4
      rw [smF_eq gd.cost o2.1 0 hr (by omega) (by omega)] at e4
      refine bind_ev i4 (bind_ev i5 ?_)
      rw [e4, e5]
      refine ite_t rfl (ite_t rfl (ite_t (by simp only; omega) (ite_t rfl ?_)))
      have : ((rd (CF t l).1 0 != o2.2.1)) = false := by simp; omega
      simp only
      rw [this]
      exact Ev.step (fun k => by simp only [laws_FnCover.j2]; rw [if_neg (by simp)]) fin
    · exact ite_f h2 fin
  have J0 : Ev (fun k => laws_FnCover.j0 k m t l o1.1 o1.2.1 o1.2.2 o2.1 o2.2.1 o2.2.2 o3.2.1 o3.2.2 false) true := by
    refine Ev.step (fun k => by simp only [laws_FnCover.j0]; rw [if_neg (by simp)]) ?_
    have last : Ev (fun k => (if o3.2.2 = true then (if o2.2.2 = true then (laws_FnCover.j1 k m t l o2.1 o2.2.1 o2.2.2 (decide (o3.2.1 < o2.2.1))) else (laws_FnCover.j1 k m t l o2.1 o2.2.1 o2.2.2 true)) else (laws_FnCover.j1 k m t l o2.1 o2.2.1 o2.2.2 false))) true := by
      by_cases h3 : o3.2.2 = true
      · obtain ⟨b1, b2⟩ := B h3
        refine ite_t h3 (ite_t b1 ?_)
        rw [show decide (o3.2.1 < o2.2.1) = false by simpa using b2]
        exact J1
      · exact ite_f h3 J1
    by_cases h1 : o1.2.2 = true
    · refine ite_t h1 ?_
      by_cases h2 : o1.2.1 = true
      · obtain ⟨a1, a2⟩ := A h1 h2
        refine ite_t h2 (ite_t a1 (ite_f a2 ?_))
        by_cases h3 : o3.2.2 = true
        · obtain ⟨b1, b2⟩ := B h3
          refine ite_t h3 ?_
          rw [show decide (o3.2.1 < o2.2.1) = false by simpa using b2]
          exact J1
        · exact ite_f h3 J1
      · exact ite_f h2 last
    · exact ite_f h1 last
  refine bind_ev e1 (bind_ev i1 (bind_ev s1 (bind_ev i2 (bind_ev s2 (bind_ev i3 (bind_ev s3 ?_))))))
  refine ite_f (by simp) (ite_t rfl (ite_f (by simp) (ite_f (by simp) (ite_t rfl (bind_ev (same_ev o2.1 (by omega)) (ite_t rfl (ite_f (by simp) (ite_t rfl (bind_ev (same_ev o3.1 (by omega)) (ite_t rfl ?_))))))))))
  have tg : Ev (fun k => impl_GoodTree.f k t) (treeB t) := by unfold impl_GoodTree.f; exact bind_ev (impl_tree t (by omega)) (Ev.now _)
  have pg : Ev (fun k => impl_GoodPatterns.f k l) (patsB l) := by unfold impl_GoodPatterns.f; exact bind_ev (impl_pats l) (Ev.now _)
  refine bind_ev tg (bind_ev (spec_tree t (by omega)) (ite_f (by simp) (bind_ev pg (bind_ev (spec_pats l (by omega)) ?_))))
  have : (patsB l != patsB l) = false := by simp
  rw [this]
  exact J0
end Go.Proofs.Ytfdbdbihhgabpaa.Pure
