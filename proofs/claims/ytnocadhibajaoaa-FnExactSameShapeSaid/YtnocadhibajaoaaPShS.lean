/- SameShape: what the reference tells, by the shapes. Conditions: none. -/
import Derived.Test.YtnocadhibajaoaaPShR
import Derived.Test.YtnocadhibajaoaaQx0
import Derived.Test.YtnocadhibajaoaaQx4
import Derived.Test.YtnocadhibajaoaaQx5
set_option linter.unusedVariables false
set_option linter.unusedSimpArgs false
set_option linter.unusedSectionVars false
namespace Go.Proofs.Ytnocadhibajaoaa.Pure
open Go.RowKit Go.Proofs.Ytnocadhibajaoaa.Q Go.Proofs.YtnocadhibajaoaaW.PrintWords Go.Proofs.YtnocadhibajaoaaW.PrintLast Go.Proofs.Ytnocadhibajaoaa.Kit
theorem reach_shape {os : List S45} {rs nt : List Int} {nx : Int} (h : goodH os rs nt nx = true) : ∃ R : List Int, Once os R ∧ R.length ≤ 24 ∧ Ev (fun k => spec_l14Reach.f k os rs nt nx rs false) R ∧ ShR os 0 (numL [] rs).1 (numL [] rs).2 R (shp R rs (lks os)) := by
  obtain ⟨hb, h2, hos, hr, _⟩ := goodH_facts h
  have hnm : ∀ o ∈ os, 0 ≤ o.f0 := fun o ho => (hos o ho).1
  have hlk : ∀ o ∈ os, o.f2.length = 2 ∧ ∀ x ∈ o.f2, link os x = true := fun o ho => (hos o ho).2
  have h0 : Once os [] := ⟨List.nodup_nil, by simp⟩
  have hn := numL_addY os hb hnm rs [] hr
  have ho := addY_once (y := false) rs [] h0
  rw [← hn] at ho
  obtain ⟨R, hR, ⟨u, hu⟩, hev, hsh⟩ := shape_walk os rs nt nx hb hnm hlk os.length 0 _ ho (by omega) (by omega)
  have hl := hR.len
  refine ⟨R, hR, by omega, ?_, ?_⟩
  · unfold spec_l14Reach.f
    have := reach_l0 os rs nt nx false hb hnm R rs (by omega) rs [] [] rfl h0 hr (by rw [← hn]; simpa using hev)
    simpa using this
  · have h1 := hsh (numL [] rs).2
    have h3 := numL_nm rs [] R (by simpa using once_pos os hb hnm hR) ⟨u, by simpa using hu⟩
    simp only [List.nil_append] at h3
    unfold shp
    rw [← h3]
    simpa using h1
theorem number_l0 (x : Int) : ∀ (post pre : List Int), pre.length + post.length ≤ 1048576 →
    Ev (fun k => spec_l14Number.l0 k x (pre ++ post) ((pre ++ post).length : Int) (pre.length : Int)) (nmI x pre.length post)
  | [], pre, hb => by
    refine Ev.step (fun k => by simp only [spec_l14Number.l0]; rw [if_neg (by simp)]) ?_
    exact Ev.now _
  | y :: post, pre, hb => by
    simp only [List.length_cons] at hb
    have hlt : (pre.length : Int) < ((pre ++ y :: post).length : Int) := by simp; omega
    have h0 : (0 : Int) ≤ (pre.length : Int) := by omega
    refine Ev.step (fun k => by simp only [spec_l14Number.l0]; rw [if_pos hlt]) ?_
    refine ite_t h0 (ite_t hlt ?_)
    rw [rd_at rfl]
    unfold nmI
    by_cases e : y = x
    · rw [if_pos e]; exact ite_t e (Ev.now _)
    · rw [if_neg e]
      refine ite_f e ?_
      rw [w_succ (by omega)]
      have ih := number_l0 x post (pre ++ [y]) (by simp; omega)
      simpa using ih
theorem number_ev (R : List Int) (x : Int) (hb : R.length ≤ 1048576) : Ev (fun k => spec_l14Number.f k R x) (nm R x) := by
  have h := number_l0 x R [] (by simpa using hb)
  unfold spec_l14Number.f nm
  simpa using h
section
variable (os : List S45) (rs nt : List Int) (nx : Int) (ot : List S45) (rt nu : List Int) (ny : Int) (R S : List Int) (hR : R.length ≤ 24) (hS : S.length ≤ 24) (ho : os.length ≤ 24) (ht : ot.length ≤ 24)
include hR hS ho ht
theorem ss_l2 (n1 : Int) (b1 : Bool) (n2 : Int) (b2 : Bool) (L M : List Int) (hL : L.length ≤ 1000) (i : Int) (b : Bool) (hJ : Ev (fun k => spec_SameShape.l1 k R S (R.length : Int) (wrap64 (i + 1)) os rs nt nx ot rt nu ny) (b, true)) : ∀ (p1 p2 q1 q2 : List Int), L = q1 ++ p1 → M = q2 ++ p2 → q1.length = q2.length → p1.length = p2.length →
    Ev (fun k => spec_SameShape.l2 k R S (R.length : Int) i (L.length : Int) (q1.length : Int) os rs nt nx ot rt nu ny n1 b1 L n2 b2 M) (decide (p1.map (nm R) = p2.map (nm S)) && b, true)
  | [], [], q1, q2, e1, e2, e3, e4 => by
    have : L.length = q1.length := by rw [e1]; simp
    refine Ev.step (fun k => by simp only [spec_SameShape.l2]; rw [if_neg (by omega)]) ?_
    simpa using hJ
  | [], _ :: _, _, _, _, _, _, e4 => by simp at e4
  | _ :: _, [], _, _, _, _, _, e4 => by simp at e4
  | x :: p1, y :: p2, q1, q2, e1, e2, e3, e4 => by
    have l1 : L.length = q1.length + (p1.length + 1) := by rw [e1]; simp
    have l2 : M.length = q2.length + (p2.length + 1) := by rw [e2]; simp
    have r1 : rd L (q1.length : Int) = x := by rw [e1]; exact rd_at rfl
    have r2 : rd M (q1.length : Int) = y := by rw [e2, e3]; exact rd_at rfl
    have e5 : p1.length = p2.length := by simpa using e4
    have h0 : (0 : Int) ≤ (q1.length : Int) := by omega
    have h1 : (q1.length : Int) < (L.length : Int) := by omega
    have h2 : (q1.length : Int) < (M.length : Int) := by omega
    refine Ev.step (fun k => by simp only [spec_SameShape.l2]; rw [if_pos h1]) ?_
    refine ite_t h0 (ite_t h1 ?_)
    rw [r1, r2]
    refine bind_ev (number_ev R x (by omega)) (ite_t h2 (bind_ev (number_ev S y (by omega)) ?_))
    by_cases e : nm R x = nm S y
    · refine ite_t e ?_
      rw [w_succ (by omega)]
      have ih := ss_l2 n1 b1 n2 b2 L M hL i b hJ p1 p2 (q1 ++ [x]) (q2 ++ [y]) (by rw [e1]; simp) (by rw [e2]; simp) (by simp [e3]) e5
      simpa [e] using ih
    · refine ite_f e ?_
      simp only [List.map_cons, List.cons.injEq, e, false_and, decide_false, Bool.false_and]
      exact Ev.now _
/-- Are the links' numbers the same, object by object? -/
def eqO (os ot : List S45) (R S : List Int) : List Int → List Int → Bool
  | x :: xs, y :: ys => decide ((lks os x).map (nm R) = (lks ot y).map (nm S)) && eqO os ot R S xs ys
  | _, _ => true
theorem ss_l1 (h1 : Once os R) (h2 : Once ot S) (k1 : ∀ o ∈ os, o.f2.length = 2) (k2 : ∀ o ∈ ot, o.f2.length = 2) : ∀ (p1 p2 q1 q2 : List Int), R = q1 ++ p1 → S = q2 ++ p2 → q1.length = q2.length → p1.length = p2.length →
    Ev (fun k => spec_SameShape.l1 k R S (R.length : Int) (q1.length : Int) os rs nt nx ot rt nu ny) (eqO os ot R S p1 p2, true)
  | [], [], q1, q2, e1, e2, e3, e4 => by
    have : R.length = q1.length := by rw [e1]; simp
    refine Ev.step (fun k => by simp only [spec_SameShape.l1]; rw [if_neg (by omega)]) ?_
    exact Ev.now _
  | [], _ :: _, _, _, _, _, _, e4 => by simp at e4
  | _ :: _, [], _, _, _, _, _, e4 => by simp at e4
  | x :: p1, y :: p2, q1, q2, e1, e2, e3, e4 => by
    have l1 : R.length = q1.length + (p1.length + 1) := by rw [e1]; simp
    have l2 : S.length = q2.length + (p2.length + 1) := by rw [e2]; simp
    have r1 : rd R (q1.length : Int) = x := by rw [e1]; exact rd_at rfl
    have r2 : rd S (q1.length : Int) = y := by rw [e2, e3]; exact rd_at rfl
    have a1 := h1.2 x (by rw [e1]; simp)
    have a2 := h2.2 y (by rw [e2]; simp)
    have b1 := at_lt os x
    have b2 := at_lt ot y
    have c1 := k1 _ (rdT_mem os _ a1 b1)
    have c2 := k2 _ (rdT_mem ot _ a2 b2)
    have g0 : (0 : Int) ≤ (q1.length : Int) := by omega
    have g1 : (q1.length : Int) < (R.length : Int) := by omega
    have g2 : (q1.length : Int) < (S.length : Int) := by omega
    have ih := ss_l1 h1 h2 k1 k2 p1 p2 (q1 ++ [x]) (q2 ++ [y]) (by rw [e1]; simp) (by rw [e2]; simp) (by simp [e3]) (by simpa using e4)
    refine Ev.step (fun k => by simp only [spec_SameShape.l1]; rw [if_pos g1]) ?_
    refine ite_t g0 (ite_t g1 ?_)
    rw [r1, r2]
    refine bind_ev (spec_at os rs nt nx x (by omega)) (ite_t a1 (ite_t b1 (ite_t g2 (bind_ev (spec_at ot rt nu ny y (by omega)) (ite_t a2 (ite_t b2 ?_))))))
    have := ss_l2 os rs nt nx ot rt nu ny R S hR hS ho ht (rd_T45 os (at_ os x)).f0 (rd_T45 os (at_ os x)).f1 (rd_T45 ot (at_ ot y)).f0 (rd_T45 ot (at_ ot y)).f1 (lks os x) (lks ot y) (by show (rd_T45 os (at_ os x)).f2.length ≤ _; omega) (q1.length : Int) _ (by rw [w_succ (by omega)]; simpa using ih) (lks os x) (lks ot y) [] [] rfl rfl rfl (by show (rd_T45 os (at_ os x)).f2.length = (rd_T45 ot (at_ ot y)).f2.length; omega)
    exact this
theorem ss_l0 (h1 : Once os R) (h2 : Once ot S) (k1 : ∀ o ∈ os, o.f2.length = 2) (k2 : ∀ o ∈ ot, o.f2.length = 2) (hl : R.length = S.length) (hrs : rs.length ≤ 1000) : ∀ (p1 p2 q1 q2 : List Int), rs = q1 ++ p1 → rt = q2 ++ p2 → q1.length = q2.length → p1.length = p2.length →
    Ev (fun k => spec_SameShape.l0 k R S (rs.length : Int) (q1.length : Int) os rs nt nx ot rt nu ny) (decide (p1.map (nm R) = p2.map (nm S)) && eqO os ot R S R S, true)
  | [], [], q1, q2, e1, e2, e3, e4 => by
    have : rs.length = q1.length := by rw [e1]; simp
    refine Ev.step (fun k => by simp only [spec_SameShape.l0]; rw [if_neg (by omega)]) ?_
    have := ss_l1 os rs nt nx ot rt nu ny R S hR hS ho ht h1 h2 k1 k2 R S [] [] rfl rfl rfl hl
    simpa using this
  | [], _ :: _, _, _, _, _, _, e4 => by simp at e4
  | _ :: _, [], _, _, _, _, _, e4 => by simp at e4
  | x :: p1, y :: p2, q1, q2, e1, e2, e3, e4 => by
    have l1 : rs.length = q1.length + (p1.length + 1) := by rw [e1]; simp
    have l2 : rt.length = q2.length + (p2.length + 1) := by rw [e2]; simp
    have r1 : rd rs (q1.length : Int) = x := by rw [e1]; exact rd_at rfl
    have r2 : rd rt (q1.length : Int) = y := by rw [e2, e3]; exact rd_at rfl
    have e5 : p1.length = p2.length := by simpa using e4
    have g0 : (0 : Int) ≤ (q1.length : Int) := by omega
    have g1 : (q1.length : Int) < (rs.length : Int) := by omega
    have g2 : (q1.length : Int) < (rt.length : Int) := by omega
    refine Ev.step (fun k => by simp only [spec_SameShape.l0]; rw [if_pos g1]) ?_
    refine ite_t g0 (ite_t g1 ?_)
    rw [r1, r2]
    refine bind_ev (number_ev R x (by omega)) (ite_t g2 (bind_ev (number_ev S y (by omega)) ?_))
    by_cases e : nm R x = nm S y
    · refine ite_t e ?_
      rw [w_succ (by omega)]
      have ih := ss_l0 h1 h2 k1 k2 hl hrs p1 p2 (q1 ++ [x]) (q2 ++ [y]) (by rw [e1]; simp) (by rw [e2]; simp) (by simp [e3]) e5
      simpa [e] using ih
    · refine ite_f e ?_
      simp only [List.map_cons, List.cons.injEq, e, false_and, decide_false, Bool.false_and]
      exact Ev.now _
end
end Go.Proofs.Ytnocadhibajaoaa.Pure
