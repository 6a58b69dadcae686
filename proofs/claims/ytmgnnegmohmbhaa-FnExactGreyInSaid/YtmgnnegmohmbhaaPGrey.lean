/- GreyIn: the program and the reference tell the same grey cells; what is handed back is held as it was marked. Conditions: none. -/
import Derived.Test.YtmgnnegmohmbhaaPM
import Derived.Test.YtmgnnegmohmbhaaGoodFnExactGreyIn
import Derived.Test.YtmgnnegmohmbhaaQx0
import Derived.Test.YtmgnnegmohmbhaaQx2
import Derived.Test.YtmgnnegmohmbhaaQx5
import Derived.Test.YtmgnnegmohmbhaaQx7
set_option linter.unusedVariables false
set_option linter.unusedSimpArgs false
namespace Go.Proofs.Ytmgnnegmohmbhaa.Pure
open Go.RowKit Go.Proofs.Ytmgnnegmohmbhaa.Q Go.Proofs.YtmgnnegmohmbhaaW.PrintWords Go.Proofs.YtmgnnegmohmbhaaW.PrintLast Go.Proofs.Ytmgnnegmohmbhaa.Kit Go.Proofs.Ytmgnnegmohmbhaa.Wf

def greyOf : Nat → List S44 → List Int
  | _, [] => []
  | i, c :: cs => if c.f1 = 1 then (i : Int) :: greyOf (i + 1) cs else greyOf (i + 1) cs
theorem greyOf_le : ∀ (i : Nat) (l : List S44), (greyOf i l).length ≤ l.length
  | _, [] => Nat.le_refl _
  | i, c :: cs => by
    have := greyOf_le (i + 1) cs
    unfold greyOf
    split <;> simp <;> omega
theorem spec_grey_l0 : ∀ (post pre : List S44) (acc : List Int), pre.length + post.length ≤ 1048576 → acc.length ≤ pre.length →
    Ev (fun k => spec_l15Grey.l0 k acc (pre ++ post) ((pre ++ post).length : Int) (pre.length : Int)) (acc ++ greyOf pre.length post)
  | [], pre, acc, hb, ha => by
    refine Ev.step (fun k => by simp only [spec_l15Grey.l0]; rw [if_neg (by simp)]) ?_
    exact some_ev (by simp [greyOf])
  | c :: post, pre, acc, hb, ha => by
    simp at hb
    refine Ev.step (fun k => by
      simp only [spec_l15Grey.l0]
      rw [if_pos (by simp; omega), if_pos (by omega), if_pos (by simp; omega), rdat_T44 rfl, w_succ (by omega)]) ?_
    by_cases h : c.f1 = 1
    · refine ite_t h (ite_t (by omega) ?_)
      have ih := spec_grey_l0 post (pre ++ [c]) (acc ++ [(pre.length : Int)]) (by simp; omega) (by simp; omega)
      simpa [greyOf, h] using ih
    · refine ite_f h ?_
      have ih := spec_grey_l0 post (pre ++ [c]) acc (by simp; omega) (by simp; omega)
      simpa [greyOf, h] using ih
theorem impl_grey_l0 : ∀ (post pre : List S44) (acc : List Int), pre.length + post.length ≤ 1048576 → acc.length ≤ pre.length →
    Ev (fun k => impl_Marker_grey.l0 k acc (pre ++ post) ((pre ++ post).length : Int) (pre.length : Int)) (acc ++ greyOf pre.length post)
  | [], pre, acc, hb, ha => by
    refine Ev.step (fun k => by simp only [impl_Marker_grey.l0]; rw [if_neg (by simp)]) ?_
    exact some_ev (by simp [greyOf])
  | c :: post, pre, acc, hb, ha => by
    simp at hb
    refine Ev.step (fun k => by
      simp only [impl_Marker_grey.l0]
      rw [if_pos (by simp; omega), if_pos (by omega), if_pos (by simp; omega), rdat_T44 rfl, w_succ (by omega)]) ?_
    by_cases h : c.f1 = 1
    · refine ite_t h (ite_t (by omega) ?_)
      have ih := impl_grey_l0 post (pre ++ [c]) (acc ++ [(pre.length : Int)]) (by simp; omega) (by simp; omega)
      simpa [greyOf, h] using ih
    · refine ite_f h ?_
      have ih := impl_grey_l0 post (pre ++ [c]) acc (by simp; omega) (by simp; omega)
      simpa [greyOf, h] using ih
theorem grey_both (cs : List S44) (rs : List Int) (m : Bool) (hrs : rs.length ≤ 1048576) (hcs : cs.length ≤ 1048576) (hm : ∀ c ∈ cs, c.f0.length ≤ 1048576) :
    ∃ o : List Int × Bool, o.1.length ≤ 1048576 ∧ Ev (fun k => spec_GreyIn.f k cs rs m) o ∧ Ev (fun k => impl_GreyIn.f k cs rs m) o := by
  unfold spec_GreyIn.f impl_GreyIn.f
  by_cases h : goodM cs rs m = true
  · refine ⟨(greyOf 0 cs, true), Nat.le_trans (greyOf_le _ _) hcs, ?_, ?_⟩
    · refine bind_ev (spec_good cs rs m hrs hcs hm) (ite_t h ?_)
      exact bind_ev (by unfold spec_l15Grey.f; simpa using spec_grey_l0 cs [] [] (by simpa using hcs) (by simp)) (Ev.now _)
    · refine bind_ev (impl_good cs rs m hcs hm) (ite_t h ?_)
      exact bind_ev (by unfold impl_Marker_grey.f; simpa using impl_grey_l0 cs [] [] (by simpa using hcs) (by simp)) (Ev.now _)
  · exact ⟨([], false), by simp, bind_ev (spec_good cs rs m hrs hcs hm) (ite_f h (Ev.now _)), bind_ev (impl_good cs rs m hcs hm) (ite_f h (Ev.now _))⟩
theorem cntCell_le : ∀ (l : List S44), (∀ c ∈ l, c.f0.length ≤ 1048576) → markCellS_cnt l ≤ l.length * 1048578
  | [], _ => by simp [markCellS_cnt]
  | x :: xs, h => by
    have ih := cntCell_le xs (fun c hc => h c (List.mem_cons_of_mem _ hc))
    have h1 := h x (by simp)
    simp only [markCellS_cnt, markCellS_cnt1, List.length_cons]
    omega
theorem FnExactGreyIn (y : S33) (hp : wf_S33 y) : ∃ k, laws_FnExactGreyIn.f k y.f0 y.f1 y.f2 = some true := by
  obtain ⟨z, ⟨k1, hz⟩, hz2⟩ := szMarker_ok y 1048576 (by omega) (by omega) hp
  unfold laws_FnExactGreyIn.f
  by_cases h : z < 0
  · exact ⟨k1, if_pos ⟨z, hz k1 (Nat.le_refl _), .inl h⟩⟩
  · have hl := (hz2 (by omega)).2
    have hl2 := cv_bd y hl
    have hm : ∀ c ∈ (cv_S33 y).f0, c.f0.length ≤ 1048576 := fun c hc => (hl2.1.2 c hc).1
    obtain ⟨k2, ht⟩ := toMarker_ev y hl
    obtain ⟨⟨o, b⟩, ho, ⟨k3, h1⟩, ⟨k4, h2⟩⟩ := grey_both (cv_S33 y).f0 (cv_S33 y).f1 (cv_S33 y).f2 hl2.2.1 hl2.1.1 hm
    simp only at ho
    obtain ⟨k5, he⟩ := eqMarker_ev _ hl2
    obtain ⟨k6, hq⟩ := eqIntS_ev o ho
    obtain ⟨k7, hh⟩ := heldIntS_ev o.length 1 (by omega) (by omega) (by omega)
    obtain ⟨k8, hk⟩ := markIntS_flat o 1 (by omega) (by omega) (by omega)
    have hc := cntCell_le _ hm
    have hc2 : (1 + (markCellS_cnt (cv_S33 y).f0 : Nat) + ((cv_S33 y).f1.length : Nat) : Int) < 2305843009213693952 := by
      have h3 := hl2.1.1
      have h4 := hl2.2.1
      omega
    generalize hk' : k1 + k2 + k3 + k4 + k5 + k6 + k7 + k8 = k
    exact ⟨k, if_pos ⟨z, hz k (by omega), .inr ⟨h, _, _, _, ht k (by omega), _, _, h1 k (by omega), _, _, _, ht k (by omega), _, h2 k (by omega), hq k (by omega), _, _, _, ht k (by omega), he k (by omega), hc2, hq k (by omega), _, _, hk k (by omega), by omega, hh k (by omega),
      _, _, _, ht k (by omega), _, h2 k (by omega), hq k (by omega), hh k (by omega), trivial⟩⟩⟩
end Go.Proofs.Ytmgnnegmohmbhaa.Pure
