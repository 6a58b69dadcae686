/- MinorKeeps: the program and the reference tell the same names. Conditions: none. -/
import Derived.Test.YtnocadhibajaoaaPFrom
import Derived.Test.YtnocadhibajaoaaGoodFnExactMinorKeeps
import Derived.Test.YtnocadhibajaoaaQx0
import Derived.Test.YtnocadhibajaoaaQx1
import Derived.Test.YtnocadhibajaoaaQx5
import Derived.Test.YtnocadhibajaoaaQx6
import Derived.Test.YtnocadhibajaoaaQx15
set_option linter.unusedVariables false
set_option linter.unusedSimpArgs false
set_option linter.unusedSectionVars false
namespace Go.Proofs.Ytnocadhibajaoaa.Pure
open Go.RowKit Go.Proofs.Ytnocadhibajaoaa.Q Go.Proofs.YtnocadhibajaoaaW.PrintWords Go.Proofs.YtnocadhibajaoaaW.PrintLast Go.Proofs.Ytnocadhibajaoaa.Kit Go.Proofs.Ytnocadhibajaoaa.Wf
/-- What the noted names' objects lead to, behind the roots. -/
def withNoted (os : List S45) : List Int → List Int → List Int
  | acc, [] => acc
  | acc, x :: xs => withNoted os (acc ++ (rd_T45 os (at_ os x)).f2) xs
theorem withNoted_facts {os : List S45} (ho : ∀ o ∈ os, 0 ≤ o.f0 ∧ o.f2.length = 2 ∧ ∀ x ∈ o.f2, link os x = true) : ∀ (l acc : List Int), (∀ x ∈ l, at_ os x ≥ 0) → (∀ x ∈ acc, link os x = true) →
    (withNoted os acc l).length = acc.length + 2 * l.length ∧ ∀ x ∈ withNoted os acc l, link os x = true
  | [], acc, _, ha => by simpa [withNoted] using ha
  | x :: xs, acc, hl, ha => by
    obtain ⟨_, h1, h2⟩ := ho _ (rdT_mem os (at_ os x) (hl x (by simp)) (at_lt os x))
    obtain ⟨h3, h4⟩ := withNoted_facts ho xs (acc ++ (rd_T45 os (at_ os x)).f2) (fun z hz => hl z (by simp [hz])) (fun z hz => by
      rcases List.mem_append.1 hz with hz | hz
      · exact ha z hz
      · exact h2 z hz)
    simp only [withNoted]
    refine ⟨?_, h4⟩
    rw [h3]; simp only [List.length_append, List.length_cons, h1]; omega
section
variable (os : List S45) (rs nt : List Int) (n : Int) (hb : os.length ≤ 24) (ho : ∀ o ∈ os, 0 ≤ o.f0 ∧ o.f2.length = 2 ∧ ∀ x ∈ o.f2, link os x = true) (l : List Int) (hll : l.length ≤ 1048576)
include hb ho hll
theorem specKeeps_l0 (R : List Int) : ∀ (post pre acc : List Int), l = pre ++ post → acc.length ≤ 6 + 2 * pre.length → (∀ x ∈ post, at_ os x ≥ 0) →
    Ev (fun k => (spec_l14Reach.f k os rs nt n (withNoted os acc post) true).bind fun t => (spec_l14Sorted.f k t).bind fun t2 => some t2) R →
    Ev (fun k => spec_l14Keeps.l0 k acc l (l.length : Int) (pre.length : Int) os rs nt n) R
  | [], pre, acc, he, ha, hx, h => by
    have : l.length = pre.length := by rw [he]; simp
    refine Ev.step (fun k => by simp only [spec_l14Keeps.l0]; rw [if_neg (by omega)]) ?_
    exact h
  | x :: post, pre, acc, he, ha, hx, h => by
    have hn' : l.length = pre.length + (post.length + 1) := by rw [he]; simp
    have hr : rd l (pre.length : Int) = x := by rw [he]; exact rd_at rfl
    obtain ⟨_, h1, h2⟩ := ho _ (rdT_mem os (at_ os x) (hx x (by simp)) (at_lt os x))
    have ih := specKeeps_l0 R post (pre ++ [x]) (acc ++ (rd_T45 os (at_ os x)).f2) (by simp [he]) (by simp only [List.length_append, h1, List.length_singleton]; omega) (fun z hz => hx z (by simp [hz])) (by simpa [withNoted] using h)
    refine Ev.step (fun k => by simp only [spec_l14Keeps.l0]; rw [if_pos (by omega), if_pos (by omega), if_pos (by omega), hr, w_succ (by omega)]) ?_
    refine bind_ev (spec_at os rs nt n x (by omega)) (ite_t (hx x (by simp)) (ite_t (at_lt os x) (ite_t (by omega) ?_)))
    simpa using ih
theorem implKeeps_l0 (R : List Int) : ∀ (post pre acc : List Int), l = pre ++ post → acc.length ≤ 6 + 2 * pre.length → (∀ x ∈ post, at_ os x ≥ 0) →
    Ev (fun k => (impl_Heap_from.f k os rs nt n (withNoted os acc post) 66).bind fun t => some t) R →
    Ev (fun k => impl_Heap_keeps.l0 k acc l (l.length : Int) (pre.length : Int) os rs nt n) R
  | [], pre, acc, he, ha, hx, h => by
    have : l.length = pre.length := by rw [he]; simp
    refine Ev.step (fun k => by simp only [impl_Heap_keeps.l0]; rw [if_neg (by omega)]) ?_
    exact h
  | x :: post, pre, acc, he, ha, hx, h => by
    have hn' : l.length = pre.length + (post.length + 1) := by rw [he]; simp
    have hr : rd l (pre.length : Int) = x := by rw [he]; exact rd_at rfl
    obtain ⟨_, h1, h2⟩ := ho _ (rdT_mem os (at_ os x) (hx x (by simp)) (at_lt os x))
    have ih := implKeeps_l0 R post (pre ++ [x]) (acc ++ (rd_T45 os (at_ os x)).f2) (by simp [he]) (by simp only [List.length_append, h1, List.length_singleton]; omega) (fun z hz => hx z (by simp [hz])) (by simpa [withNoted] using h)
    refine Ev.step (fun k => by simp only [impl_Heap_keeps.l0]; rw [if_pos (by omega), if_pos (by omega), if_pos (by omega), hr, w_succ (by omega), impl_at os rs nt n x]) ?_
    refine bind_ev (Ev.now _) (ite_t (hx x (by simp)) (ite_t (at_lt os x) (ite_t (by omega) ?_)))
    simpa using ih
end
theorem keeps_both (os : List S45) (rs nt : List Int) (n : Int) (ho : os.length ≤ 1048576) (hn : nt.length ≤ 1048576) (hrs : rs.length ≤ 1048576) (hm : ∀ c ∈ os, c.f2.length ≤ 1048576) :
    ∃ o : List Int × Bool, o.1.length ≤ 1048576 ∧ Ev (fun k => spec_MinorKeeps.f k os rs nt n) o ∧ Ev (fun k => impl_MinorKeeps.f k os rs nt n) o := by
  unfold spec_MinorKeeps.f impl_MinorKeeps.f
  by_cases h : goodH os rs nt n = true
  · obtain ⟨hb, h2, hos, hr, hnt⟩ := goodH_facts h
    obtain ⟨w1, w2⟩ := withNoted_facts hos nt rs hnt hr
    obtain ⟨R, hR, hn', e1, e2⟩ := from_both os rs nt n true 66 (fun o => by unfold fn_67.f impl_Heap_keeps_1.f; simp) hb hos (withNoted os rs nt) (by omega) w2
    refine ⟨(srt [] R, true), by simp only; rw [srt_len]; simp; omega, ?_, ?_⟩
    · refine bind_ev (spec_good os rs nt n ho hn hrs hm) (ite_t h (bind_ev ?_ (Ev.now _)))
      unfold spec_l14Keeps.f
      refine bind_ev (Ev.now _) (ite_t (by simp; omega) ?_)
      have := specKeeps_l0 os rs nt n hb hos nt hn (srt [] R) nt [] rs rfl (by simp; omega) hnt (bind_ev e2 (bind_ev (sorted_ev R (by omega) hn') (Ev.now _)))
      simpa using this
    · refine bind_ev (impl_good os rs nt n ho hn hrs hm) (ite_t h (bind_ev ?_ (Ev.now _)))
      unfold impl_Heap_keeps.f
      refine bind_ev (Ev.now _) (ite_t (by simp; omega) ?_)
      have := implKeeps_l0 os rs nt n hb hos nt hn (srt [] R) nt [] rs rfl (by simp; omega) hnt (bind_ev e1 (Ev.now _))
      simpa using this
  · exact ⟨([], false), by simp, bind_ev (spec_good os rs nt n ho hn hrs hm) (ite_f h (Ev.now _)), bind_ev (impl_good os rs nt n ho hn hrs hm) (ite_f h (Ev.now _))⟩
theorem cntObj_le : ∀ (l : List S45), (∀ c ∈ l, c.f2.length ≤ 1048576) → markObjectS_cnt l ≤ l.length * 1048578
  | [], _ => by simp [markObjectS_cnt]
  | x :: xs, h => by
    have ih := cntObj_le xs (fun c hc => h c (List.mem_cons_of_mem _ hc))
    have h1 := h x (by simp)
    simp only [markObjectS_cnt, markObjectS_cnt1, List.length_cons]
    omega
theorem FnExactMinorKeeps (y : S32) (hp : wf_S32 y) : ∃ k, laws_FnExactMinorKeeps.f k y.f0 y.f1 y.f2 y.f3 = some true := by
  obtain ⟨z, ⟨k1, hz⟩, hz2⟩ := szHeap_ok y 1048576 (by omega) (by omega) hp
  unfold laws_FnExactMinorKeeps.f
  by_cases h : z < 0
  · exact ⟨k1, if_pos ⟨z, hz k1 (Nat.le_refl _), .inl h⟩⟩
  · have hl := (hz2 (by omega)).2
    have hl2 := cv_bd y hl
    have hm : ∀ c ∈ (cv_S32 y).f0, c.f2.length ≤ 1048576 := fun c hc => (hl2.1.2 c hc).2.2
    obtain ⟨k2, ht⟩ := toHeap_ev y hl
    obtain ⟨⟨o, b⟩, ho, ⟨k3, h1⟩, ⟨k4, h2⟩⟩ := keeps_both (cv_S32 y).f0 (cv_S32 y).f1 (cv_S32 y).f2 (cv_S32 y).f3 hl2.1.1 hl2.2.2.1 hl2.2.1 hm
    simp only at ho
    obtain ⟨k5, he⟩ := eqHeap_ev _ hl2
    obtain ⟨k6, hq⟩ := eqIntS_ev o ho
    obtain ⟨k7, hh⟩ := heldIntS_ev o.length 1 (by omega) (by omega) (by omega)
    obtain ⟨k8, hk⟩ := markIntS_flat o 1 (by omega) (by omega) (by omega)
    have hc := cntObj_le _ hm
    have hc2 : (1 + (markObjectS_cnt (cv_S32 y).f0 : Nat) + ((cv_S32 y).f1.length : Nat) + ((cv_S32 y).f2.length : Nat) : Int) < 2305843009213693952 := by
      have h3 := hl2.1.1
      have h4 := hl2.2.1
      have h5 := hl2.2.2.1
      omega
    generalize hk' : k1 + k2 + k3 + k4 + k5 + k6 + k7 + k8 = k
    exact ⟨k, if_pos ⟨z, hz k (by omega), .inr ⟨h, _, _, _, _, ht k (by omega), _, _, h1 k (by omega), _, _, _, _, ht k (by omega), _, h2 k (by omega), hq k (by omega), _, _, _, _, ht k (by omega), he k (by omega), hc2, hq k (by omega), _, _, hk k (by omega), by omega, hh k (by omega),
      _, _, _, _, ht k (by omega), _, h2 k (by omega), hq k (by omega), hh k (by omega), trivial⟩⟩⟩
end Go.Proofs.Ytnocadhibajaoaa.Pure
