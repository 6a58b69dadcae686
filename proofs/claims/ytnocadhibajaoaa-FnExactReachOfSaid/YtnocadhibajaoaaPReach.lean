/- ReachOf: the program and the reference tell the same names. Conditions: none. -/
import Derived.Test.YtnocadhibajaoaaPFrom
import Derived.Test.YtnocadhibajaoaaGoodFnExactReachOf
import Derived.Test.YtnocadhibajaoaaQx0
import Derived.Test.YtnocadhibajaoaaQx1
import Derived.Test.YtnocadhibajaoaaQx6
import Derived.Test.YtnocadhibajaoaaQx15
set_option linter.unusedVariables false
set_option linter.unusedSimpArgs false
set_option linter.unusedSectionVars false
namespace Go.Proofs.Ytnocadhibajaoaa.Pure
open Go.RowKit Go.Proofs.Ytnocadhibajaoaa.Q Go.Proofs.YtnocadhibajaoaaW.PrintWords Go.Proofs.YtnocadhibajaoaaW.PrintLast Go.Proofs.Ytnocadhibajaoaa.Kit Go.Proofs.Ytnocadhibajaoaa.Wf
theorem reachOf_both (os : List S45) (rs nt : List Int) (n : Int) (ho : os.length ≤ 1048576) (hn : nt.length ≤ 1048576) (hrs : rs.length ≤ 1048576) (hm : ∀ c ∈ os, c.f2.length ≤ 1048576) :
    ∃ o : List Int × Bool, o.1.length ≤ 1048576 ∧ Ev (fun k => spec_ReachOf.f k os rs nt n) o ∧ Ev (fun k => impl_ReachOf.f k os rs nt n) o := by
  unfold spec_ReachOf.f impl_ReachOf.f
  by_cases h : goodH os rs nt n = true
  · obtain ⟨hb, h2, hos, hr, _⟩ := goodH_facts h
    obtain ⟨R, hR, hn', e1, e2⟩ := from_both os rs nt n false 65 (fun o => by unfold fn_67.f impl_Heap_reach_1.f; simp) hb hos rs (by omega) hr
    refine ⟨(srt [] R, true), by simp only; rw [srt_len]; simp; omega, ?_, ?_⟩
    · exact bind_ev (spec_good os rs nt n ho hn hrs hm) (ite_t h (bind_ev e2 (bind_ev (sorted_ev R (by omega) hn') (Ev.now _))))
    · refine bind_ev (impl_good os rs nt n ho hn hrs hm) (ite_t h (bind_ev ?_ (Ev.now _)))
      unfold impl_Heap_reach.f
      exact bind_ev e1 (Ev.now _)
  · exact ⟨([], false), by simp, bind_ev (spec_good os rs nt n ho hn hrs hm) (ite_f h (Ev.now _)), bind_ev (impl_good os rs nt n ho hn hrs hm) (ite_f h (Ev.now _))⟩
theorem cntObj_le : ∀ (l : List S45), (∀ c ∈ l, c.f2.length ≤ 1048576) → markObjectS_cnt l ≤ l.length * 1048578
  | [], _ => by simp [markObjectS_cnt]
  | x :: xs, h => by
    have ih := cntObj_le xs (fun c hc => h c (List.mem_cons_of_mem _ hc))
    have h1 := h x (by simp)
    simp only [markObjectS_cnt, markObjectS_cnt1, List.length_cons]
    omega
theorem FnExactReachOf (y : S32) (hp : wf_S32 y) : ∃ k, laws_FnExactReachOf.f k y.f0 y.f1 y.f2 y.f3 = some true := by
  obtain ⟨z, ⟨k1, hz⟩, hz2⟩ := szHeap_ok y 1048576 (by omega) (by omega) hp
  unfold laws_FnExactReachOf.f
  by_cases h : z < 0
  · exact ⟨k1, if_pos ⟨z, hz k1 (Nat.le_refl _), .inl h⟩⟩
  · have hl := (hz2 (by omega)).2
    have hl2 := cv_bd y hl
    have hm : ∀ c ∈ (cv_S32 y).f0, c.f2.length ≤ 1048576 := fun c hc => (hl2.1.2 c hc).2.2
    obtain ⟨k2, ht⟩ := toHeap_ev y hl
    obtain ⟨⟨o, b⟩, ho, ⟨k3, h1⟩, ⟨k4, h2⟩⟩ := reachOf_both (cv_S32 y).f0 (cv_S32 y).f1 (cv_S32 y).f2 (cv_S32 y).f3 hl2.1.1 hl2.2.2.1 hl2.2.1 hm
    simp only at ho
    obtain ⟨k5, he⟩ := eqHeap_ev _ hl2
    obtain ⟨k6, hq⟩ := eqIntS_ev o ho
    obtain ⟨k7, hh⟩ := heldIntS_ev o.length 1 (by omega) (by omega) (by omega)
    obtain ⟨k8, hk⟩ := markIntS_flat o 1 (by omega) (by omega) (by omega)
    have hc := cntObj_le _ hm
    have hc2 : (1 + (markObjectS_cnt (cv_S32 y).f0 : Nat) + ((cv_S32 y).f1.length : Nat) + ((cv_S32 y).f2.length : Nat) : Int) < 2305843009213693952 := by
      have h3 := hl2.1.1
      have h4 := hl2.2.1
      have h5 := hl2.2.2.1
      omega
    generalize hk' : k1 + k2 + k3 + k4 + k5 + k6 + k7 + k8 = k
    exact ⟨k, if_pos ⟨z, hz k (by omega), .inr ⟨h, _, _, _, _, ht k (by omega), _, _, h1 k (by omega), _, _, _, _, ht k (by omega), _, h2 k (by omega), hq k (by omega), _, _, _, _, ht k (by omega), he k (by omega), hc2, hq k (by omega), _, _, hk k (by omega), by omega, hh k (by omega),
      _, _, _, _, ht k (by omega), _, h2 k (by omega), hq k (by omega), hh k (by omega), trivial⟩⟩⟩
end Go.Proofs.Ytnocadhibajaoaa.Pure
