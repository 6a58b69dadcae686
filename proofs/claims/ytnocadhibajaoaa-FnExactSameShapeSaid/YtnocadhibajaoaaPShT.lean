/- SameShape: the reference tells whether the shapes are equal. Conditions: none. -/
import Derived.Test.YtnocadhibajaoaaPShS
import Derived.Test.YtnocadhibajaoaaQx0
import Derived.Test.YtnocadhibajaoaaQx5
import Derived.Test.YtnocadhibajaoaaQx8
set_option linter.unusedVariables false
set_option linter.unusedSimpArgs false
set_option linter.unusedSectionVars false
namespace Go.Proofs.Ytnocadhibajaoaa.Pure
open Go.RowKit Go.Proofs.Ytnocadhibajaoaa.Q Go.Proofs.YtnocadhibajaoaaW.PrintWords Go.Proofs.YtnocadhibajaoaaW.PrintLast Go.Proofs.Ytnocadhibajaoaa.Kit
theorem eqO_flat (os ot : List S45) (R S : List Int) : ∀ (p1 p2 : List Int), p1.length = p2.length → (∀ x ∈ p1, (lks os x).length = 2) → (∀ x ∈ p2, (lks ot x).length = 2) →
    eqO os ot R S p1 p2 = decide ((p1.flatMap fun x => (lks os x).map (nm R)) = (p2.flatMap fun x => (lks ot x).map (nm S)))
  | [], [], _, _, _ => by simp [eqO]
  | [], _ :: _, h, _, _ => by simp at h
  | _ :: _, [], h, _, _ => by simp at h
  | x :: p1, y :: p2, h, h1, h2 => by
    have ih := eqO_flat os ot R S p1 p2 (by simpa using h) (fun z hz => h1 z (by simp [hz])) (fun z hz => h2 z (by simp [hz]))
    have e : ((lks os x).map (nm R)).length = ((lks ot y).map (nm S)).length := by rw [List.length_map, List.length_map, h1 x (by simp), h2 y (by simp)]
    show (decide ((lks os x).map (nm R) = (lks ot y).map (nm S)) && eqO os ot R S p1 p2) = _
    rw [ih, List.flatMap_cons, List.flatMap_cons, ← Bool.decide_and]
    congr 1
    apply propext
    constructor
    · rintro ⟨a, b⟩; rw [a, b]
    · intro a; exact List.append_inj a e
theorem flat_len2 (os : List S45) (R : List Int) : ∀ p : List Int, (∀ x ∈ p, (lks os x).length = 2) → (p.flatMap fun x => (lks os x).map (nm R)).length = 2 * p.length
  | [], _ => rfl
  | x :: p, h => by
    rw [List.flatMap_cons, List.length_append, List.length_map, h x (by simp), flat_len2 os R p (fun y hy => h y (by simp [hy]))]
    simp only [List.length_cons]; omega
/-- What both tell. -/
theorem same_shape {os : List S45} {rs nt : List Int} {nx : Int} {ot : List S45} {rt nu : List Int} {ny : Int} (h1 : goodH os rs nt nx = true) (h2 : goodH ot rt nu ny = true) (n1 : nt.length ≤ 1048576) (n2 : nu.length ≤ 1048576) :
    ∃ o1 o2 : List Int, o1.length ≤ 1000 ∧ o2.length ≤ 1000 ∧ Ev (fun k => spec_SameShape.f k os rs nt nx ot rt nu ny) (decide (o1 = o2), true) ∧ (∃ R : List Int, R.length ≤ 24 ∧ (∀ x ∈ R, 0 ≤ at_ os x) ∧ ShR os 0 (numL [] rs).1 (numL [] rs).2 R o1) ∧ ∃ S : List Int, S.length ≤ 24 ∧ (∀ x ∈ S, 0 ≤ at_ ot x) ∧ ShR ot 0 (numL [] rt).1 (numL [] rt).2 S o2 := by
  obtain ⟨R, hR, lR, eR, sR⟩ := reach_shape h1
  obtain ⟨S, hS, lS, eS, sS⟩ := reach_shape h2
  obtain ⟨b1, r1, o1, _, _⟩ := goodH_facts h1
  obtain ⟨b2, r2, o2, _, _⟩ := goodH_facts h2
  have m1 : ∀ c ∈ os, c.f2.length ≤ 1048576 := fun c hc => by have := (o1 c hc).2.1; omega
  have m2 : ∀ c ∈ ot, c.f2.length ≤ 1048576 := fun c hc => by have := (o2 c hc).2.1; omega
  have k1 : ∀ x ∈ R, (lks os x).length = 2 := fun x hx => (o1 _ (rdT_mem os _ (hR.2 x hx) (at_lt os x))).2.1
  have k2 : ∀ x ∈ S, (lks ot x).length = 2 := fun x hx => (o2 _ (rdT_mem ot _ (hS.2 x hx) (at_lt ot x))).2.1
  have f1 := flat_len2 os R R k1
  have f2 := flat_len2 ot S S k2
  refine ⟨_, _, ?_, ?_, ?_, ⟨R, lR, hR.2, sR⟩, ⟨S, lS, hS.2, sS⟩⟩
  · unfold shp; rw [List.length_append, List.length_map, f1]; omega
  · unfold shp; rw [List.length_append, List.length_map, f2]; omega
  · unfold spec_SameShape.f
    refine bind_ev (spec_good os rs nt nx (by omega) n1 (by omega) m1) (ite_t h1 (bind_ev (spec_good ot rt nu ny (by omega) n2 (by omega) m2) ?_))
    rw [h2]
    refine Ev.step (fun k => by simp only [spec_SameShape.j0]; rw [if_neg (by simp)]) ?_
    refine bind_ev eR (bind_ev eS ?_)
    by_cases hl : R.length = S.length
    · refine ite_t (by omega) ?_
      have := ss_l0 os rs nt nx ot rt nu ny R S lR lS b1 b2 hR hS (fun o ho => (o1 o ho).2.1) (fun o ho => (o2 o ho).2.1) hl (by omega) rs rt [] [] rfl rfl rfl (by omega)
      have e : (decide (rs.map (nm R) = rt.map (nm S)) && eqO os ot R S R S) = decide (shp R rs (lks os) = shp S rt (lks ot)) := by
        rw [eqO_flat os ot R S R S hl k1 k2, ← Bool.decide_and]
        congr 1
        apply propext
        unfold shp
        constructor
        · rintro ⟨a, b⟩; rw [a, b]
        · intro a; exact List.append_inj a (by rw [List.length_map, List.length_map]; omega)
      rw [e] at this
      exact this
    · refine ite_f (by omega) ?_
      have e : decide (shp R rs (lks os) = shp S rt (lks ot)) = false := by
        refine decide_eq_false (fun a => hl ?_)
        have := congrArg List.length a
        unfold shp at this
        rw [List.length_append, List.length_append, List.length_map, List.length_map, f1, f2] at this
        omega
      rw [e]
      exact Ev.now _
theorem equal_l0 (A B : List Int) (hb : A.length ≤ 1048576) : ∀ (p1 p2 q1 q2 : List Int), A = q1 ++ p1 → B = q2 ++ p2 → q1.length = q2.length → p1.length = p2.length →
    Ev (fun k => slices_Equal_int_int.l0 k A B (A.length : Int) (q1.length : Int)) (decide (p1 = p2))
  | [], [], q1, q2, e1, e2, e3, e4 => by
    have : A.length = q1.length := by rw [e1]; simp
    refine Ev.step (fun k => by simp only [slices_Equal_int_int.l0]; rw [if_neg (by omega)]) ?_
    exact Ev.now _
  | [], _ :: _, _, _, _, _, _, e4 => by simp at e4
  | _ :: _, [], _, _, _, _, _, e4 => by simp at e4
  | x :: p1, y :: p2, q1, q2, e1, e2, e3, e4 => by
    have l1 : A.length = q1.length + (p1.length + 1) := by rw [e1]; simp
    have l2 : B.length = q2.length + (p2.length + 1) := by rw [e2]; simp
    have r1 : rd A (q1.length : Int) = x := by rw [e1]; exact rd_at rfl
    have r2 : rd B (q1.length : Int) = y := by rw [e2, e3]; exact rd_at rfl
    have e5 : p1.length = p2.length := by simpa using e4
    have g0 : (0 : Int) ≤ (q1.length : Int) := by omega
    have g1 : (q1.length : Int) < (A.length : Int) := by omega
    have g2 : (q1.length : Int) < (B.length : Int) := by omega
    refine Ev.step (fun k => by simp only [slices_Equal_int_int.l0]; rw [if_pos g1]) ?_
    refine ite_t g0 (ite_t g1 (ite_t g2 ?_))
    rw [r1, r2]
    by_cases e : x = y
    · refine ite_t e ?_
      rw [w_succ (by omega)]
      have ih := equal_l0 A B hb p1 p2 (q1 ++ [x]) (q2 ++ [y]) (by rw [e1]; simp) (by rw [e2]; simp) (by simp [e3]) e5
      simpa [e] using ih
    · refine ite_f e ?_
      simp only [List.cons.injEq, e, false_and, decide_false]
      exact Ev.now _
theorem equal_ev (A B : List Int) (hb : A.length ≤ 1048576) : Ev (fun k => slices_Equal_int_int.f k A B) (decide (A = B)) := by
  unfold slices_Equal_int_int.f
  by_cases h : A.length = B.length
  · refine ite_t (by omega) ?_
    have := equal_l0 A B hb A B [] [] rfl rfl rfl h
    simpa using this
  · refine ite_f (by omega) ?_
    rw [decide_eq_false (fun e => h (by rw [e]))]
    exact Ev.now _
end Go.Proofs.Ytnocadhibajaoaa.Pure
