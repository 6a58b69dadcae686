/- SameShape: the program and the reference tell the same; the law. Conditions: none. -/
import Derived.Test.YtnocadhibajaoaaPShT
import Derived.Test.YtnocadhibajaoaaQx0
import Derived.Test.YtnocadhibajaoaaQx5
import Derived.Test.YtnocadhibajaoaaQx6
import Derived.Test.YtnocadhibajaoaaQx8
import Derived.Test.YtnocadhibajaoaaQx9
set_option linter.unusedVariables false
set_option linter.unusedSimpArgs false
set_option linter.unusedSectionVars false
namespace Go.Proofs.Ytnocadhibajaoaa.Pure
open Go.RowKit Go.Proofs.Ytnocadhibajaoaa.Q Go.Proofs.YtnocadhibajaoaaW.PrintWords Go.Proofs.YtnocadhibajaoaaW.PrintLast Go.Proofs.Ytnocadhibajaoaa.Kit Go.Proofs.Ytnocadhibajaoaa.Wf
theorem index_nm0 (x : Int) : ∀ (post pre : List Int), pre.length + post.length ≤ 1048576 →
    Ev (fun k => slices_Index_int_int.l0 k (pre ++ post) x ((pre ++ post).length : Int) (pre.length : Int)) (nmI x pre.length post)
  | [], pre, hb => by
    refine Ev.step (fun k => by simp only [slices_Index_int_int.l0]; rw [if_neg (by simp)]) ?_
    exact Ev.now _
  | y :: post, pre, hb => by
    simp only [List.length_cons] at hb
    refine Ev.step (fun k => by
      simp only [slices_Index_int_int.l0]
      rw [if_pos (by simp; omega), if_pos (by omega), if_pos (by simp; omega), rd_at rfl, w_succ (by omega)]) ?_
    unfold nmI
    by_cases h : x = y
    · rw [if_pos h.symm]; exact ite_t h (Ev.now _)
    · rw [if_neg (fun e => h e.symm)]
      refine ite_f h ?_
      have ih := index_nm0 x post (pre ++ [y]) (by simp; omega)
      simpa using ih
theorem index_nm (l : List Int) (x : Int) (hb : l.length ≤ 1048576) : Ev (fun k => slices_Index_int_int.f k l x) (nm l x) := by
  unfold slices_Index_int_int.f nm
  simpa using index_nm0 x l [] (by simpa using hb)
theorem shape1_ev (a : List Int) (x : Int) (ha : a.length ≤ 1000) : Ev (fun k => impl_Heap_shape_1.f k a x) (num a x) := by
  unfold impl_Heap_shape_1.f num
  by_cases h : x < 0
  · rw [if_pos h]; exact ite_t h (Ev.now _)
  · rw [if_neg h]
    refine ite_f h (bind_ev (impl_has a x (by omega)) ?_)
    by_cases hm : x ∈ a
    · rw [if_pos hm]
      exact ite_t ((has_iff a x).2 hm) (bind_ev (index_nm a x (by omega)) (Ev.now _))
    · rw [if_neg hm]
      refine ite_f (fun e => hm ((has_iff a x).1 e)) (ite_t (by omega) (bind_ev (index_nm (a ++ [x]) x (by simp; omega)) ?_))
      have e : nm (a ++ [x]) x = (a.length : Int) := by
        have := nmI_end x [] a 0 hm
        unfold nm
        rw [this]; simp
      rw [e]
      exact Ev.now _
section
variable (os : List S45) (rs nt : List Int) (nx : Int)
theorem shI_l2 (i : Int) (L : List Int) (hL : L.length ≤ 1000) (o : List Int) : ∀ (p q a out : List Int), L = q ++ p → a.length + p.length ≤ 1000 → out.length + p.length ≤ 1000 →
    Ev (fun k => impl_Heap_shape.l1 k (out ++ (numL a p).2) (wrap64 (i + 1)) os rs nt nx (numL a p).1) o →
    Ev (fun k => impl_Heap_shape.l2 k out i L (L.length : Int) (q.length : Int) os rs nt nx a) o
  | [], q, a, out, e1, h1, h2, hJ => by
    have : L.length = q.length := by rw [e1]; simp
    refine Ev.step (fun k => by simp only [impl_Heap_shape.l2]; rw [if_neg (by omega)]) ?_
    simpa [numL] using hJ
  | x :: p, q, a, out, e1, h1, h2, hJ => by
    have l1 : L.length = q.length + (p.length + 1) := by rw [e1]; simp
    have r1 : rd L (q.length : Int) = x := by rw [e1]; exact rd_at rfl
    simp only [List.length_cons] at h1 h2
    have hn : (num a x).1.length ≤ a.length + 1 := by
      unfold num; split
      · simp
      · split <;> simp
    refine Ev.step (fun k => by simp only [impl_Heap_shape.l2]; rw [if_pos (show (q.length : Int) < (L.length : Int) by omega), if_pos (show (0 : Int) ≤ (q.length : Int) by omega), if_pos (show (q.length : Int) < (L.length : Int) by omega), r1, w_succ (by omega)]) ?_
    refine bind_ev (shape1_ev a x (by omega)) (ite_t (by omega) ?_)
    have := shI_l2 i L hL o p (q ++ [x]) (num a x).1 (out ++ [(num a x).2]) (by rw [e1]; simp) (by omega) (by simp; omega) (by simpa [numL] using hJ)
    simpa using this
theorem numL_le : ∀ (xs a : List Int), (numL a xs).1.length ≤ a.length + xs.length
  | [], a => by simp [numL]
  | x :: xs, a => by
    have h1 := numL_le xs (num a x).1
    have hn : (num a x).1.length ≤ a.length + 1 := by
      unfold num; split
      · simp
      · split <;> simp
    show (numL (num a x).1 xs).1.length ≤ _
    simp only [List.length_cons]
    omega
/-- The walk's list comes to what the relation tells, where the order that it ends with is short. -/
theorem shI_l1 (hb : os.length ≤ 24) (h2 : ∀ o ∈ os, o.f2.length = 2) (R o : List Int) (hR : R.length ≤ 24) (hR0 : ∀ x ∈ R, 0 ≤ at_ os x) : ∀ (i : Nat) (a out : List Int), ShR os i a out R o → i ≤ a.length → out.length ≤ 6 + 2 * i →
    a.length ≤ 24 ∧ (∃ u, R = a ++ u) ∧ Ev (fun k => impl_Heap_shape.l1 k out (i : Int) os rs nt nx a) o := by
  intro i a out h
  induction h with
  | done e =>
    rename_i i a out
    intro _ _
    refine ⟨hR, ⟨[], by simp⟩, ?_⟩
    refine Ev.step (fun k => by simp only [impl_Heap_shape.l1]; rw [if_neg (by omega)]) ?_
    exact Ev.now _
  | step hx hs ih =>
    rename_i i a out R o x
    intro hi ho
    obtain ⟨u, hu⟩ := numL_pre (lks os x) a
    obtain ⟨hlt, hxe⟩ := List.getElem?_eq_some_iff.1 hx
    have hl1 := numL_len (lks os x) a
    have hxm : x ∈ a := List.mem_of_getElem? hx
    by_cases hk : 0 ≤ at_ os x
    · have hal2 := at_lt os x
      have hom := rdT_mem os (at_ os x) hk hal2
      have hl2 : (lks os x).length = 2 := h2 _ hom
      obtain ⟨k1, ⟨v, k2⟩, k3⟩ := ih hR hR0 (by rw [hu]; simp; omega) (by rw [List.length_append, hl1, hl2]; omega)
      have hal : a.length ≤ 24 := by rw [hu] at k1; simp at k1; omega
      refine ⟨hal, ⟨u ++ v, by rw [k2, hu]; simp⟩, ?_⟩
      have hrd : rd a (i : Int) = x := by unfold rd; rw [Int.toNat_natCast, List.getD_eq_getElem?_getD, hx]; rfl
      refine Ev.step (fun k => by simp only [impl_Heap_shape.l1]; rw [if_pos (show (i : Int) < (a.length : Int) by omega), if_pos (show (0 : Int) ≤ (i : Int) by omega), hrd, impl_at]) ?_
      refine ite_t hk (ite_t hal2 ?_)
      have := shI_l2 os rs nt nx (i : Int) (lks os x) (by omega) o (lks os x) [] a out rfl (by omega) (by omega) (by rw [w_succ (by omega)]; exact k3)
      simp only [List.length_nil, Int.natCast_zero] at this
      exact this
    · exfalso
      have : ∀ (i : Nat) (a out R o : List Int), ShR os i a out R o → ∃ u, R = a ++ u := by
        intro i a out R o h
        induction h with
        | done e => exact ⟨[], by simp⟩
        | step hx hs ih =>
          obtain ⟨v, hv⟩ := ih
          obtain ⟨u, hu⟩ := numL_pre (lks os _) _
          exact ⟨u ++ v, by rw [hv, hu]; simp⟩
      obtain ⟨v, hv⟩ := this _ _ _ _ _ hs
      exact hk (hR0 x (by rw [hv, hu]; simp [hxm]))
theorem shI_l0 (o : List Int) : ∀ (p q a out : List Int), rs = q ++ p → rs.length ≤ 100 → a.length + p.length ≤ 1000 → out.length + p.length ≤ 1000 →
    Ev (fun k => impl_Heap_shape.l1 k (out ++ (numL a p).2) 0 os rs nt nx (numL a p).1) o →
    Ev (fun k => impl_Heap_shape.l0 k out rs (rs.length : Int) (q.length : Int) os rs nt nx a) o
  | [], q, a, out, e1, h0, h1, h2, hJ => by
    have : rs.length = q.length := by rw [e1]; simp
    refine Ev.step (fun k => by simp only [impl_Heap_shape.l0]; rw [if_neg (by omega)]) ?_
    simpa [numL] using hJ
  | x :: p, q, a, out, e1, h0, h1, h2, hJ => by
    have l1 : rs.length = q.length + (p.length + 1) := by rw [e1]; simp
    have r1 : rd rs (q.length : Int) = x := by rw [e1]; exact rd_at rfl
    simp only [List.length_cons] at h1 h2
    have hn : (num a x).1.length ≤ a.length + 1 := by
      unfold num; split
      · simp
      · split <;> simp
    refine Ev.step (fun k => by simp only [impl_Heap_shape.l0]; rw [if_pos (show (q.length : Int) < (rs.length : Int) by omega), if_pos (show (0 : Int) ≤ (q.length : Int) by omega), if_pos (show (q.length : Int) < (rs.length : Int) by omega), r1, w_succ (by omega)]) ?_
    refine bind_ev (shape1_ev a x (by omega)) (ite_t (by omega) ?_)
    have := shI_l0 o p (q ++ [x]) (num a x).1 (out ++ [(num a x).2]) (by rw [e1]; simp) h0 (by omega) (by simp; omega) (by simpa [numL] using hJ)
    simpa using this
theorem shape_ev (hb : os.length ≤ 24) (h2 : ∀ o ∈ os, o.f2.length = 2) (hrs : rs.length = 6) (R o : List Int) (hR : R.length ≤ 24) (hR0 : ∀ x ∈ R, 0 ≤ at_ os x) (h : ShR os 0 (numL [] rs).1 (numL [] rs).2 R o) :
    Ev (fun k => impl_Heap_shape.f k os rs nt nx) o := by
  obtain ⟨_, _, e⟩ := shI_l1 os rs nt nx hb h2 R o hR hR0 0 _ _ h (by omega) (by rw [numL_len]; omega)
  have := shI_l0 os rs nt nx o rs [] [] [] rfl (by omega) (by simp; omega) (by simp; omega) (by simpa using e)
  unfold impl_Heap_shape.f
  simpa using this
end
theorem sameShape_both (os : List S45) (rs nt : List Int) (nx : Int) (ot : List S45) (rt nu : List Int) (ny : Int) (ho : os.length ≤ 1048576) (hn : nt.length ≤ 1048576) (hrs : rs.length ≤ 1048576) (hm : ∀ c ∈ os, c.f2.length ≤ 1048576) (ho2 : ot.length ≤ 1048576) (hn2 : nu.length ≤ 1048576) (hrs2 : rt.length ≤ 1048576) (hm2 : ∀ c ∈ ot, c.f2.length ≤ 1048576) :
    ∃ o : Bool × Bool, Ev (fun k => spec_SameShape.f k os rs nt nx ot rt nu ny) o ∧ Ev (fun k => impl_SameShape.f k os rs nt nx ot rt nu ny) o := by
  have sno : Ev (fun k => spec_SameShape.j0 k true os rs nt nx ot rt nu ny) (false, false) := Ev.step (fun k => by simp only [spec_SameShape.j0]; rw [if_pos trivial]) (Ev.now _)
  have ino : Ev (fun k => impl_SameShape.j0 k true os rs nt nx ot rt nu ny) (false, false) := Ev.step (fun k => by simp only [impl_SameShape.j0]; rw [if_pos trivial]) (Ev.now _)
  by_cases h1 : goodH os rs nt nx = true
  · by_cases h2 : goodH ot rt nu ny = true
    · obtain ⟨o1, o2, l1, l2, e, ⟨R, lR, hR, sR⟩, ⟨S, lS, hS, sS⟩⟩ := same_shape h1 h2 hn hn2
      obtain ⟨b1, r1, q1, _, _⟩ := goodH_facts h1
      obtain ⟨b2, r2, q2, _, _⟩ := goodH_facts h2
      refine ⟨_, e, ?_⟩
      unfold impl_SameShape.f
      refine bind_ev (impl_good os rs nt nx ho hn hrs hm) (ite_t h1 (bind_ev (impl_good ot rt nu ny ho2 hn2 hrs2 hm2) ?_))
      rw [h2]
      refine Ev.step (fun k => by simp only [impl_SameShape.j0]; rw [if_neg (by simp)]) ?_
      exact bind_ev (shape_ev os rs nt nx b1 (fun o ho => (q1 o ho).2.1) r1 R o1 lR hR sR) (bind_ev (shape_ev ot rt nu ny b2 (fun o ho => (q2 o ho).2.1) r2 S o2 lS hS sS) (bind_ev (equal_ev o1 o2 (by omega)) (Ev.now _)))
    · refine ⟨(false, false), ?_, ?_⟩
      · unfold spec_SameShape.f
        refine bind_ev (spec_good os rs nt nx ho hn hrs hm) (ite_t h1 (bind_ev (spec_good ot rt nu ny ho2 hn2 hrs2 hm2) ?_))
        rw [Bool.not_eq_true] at h2
        rw [h2]
        exact sno
      · unfold impl_SameShape.f
        refine bind_ev (impl_good os rs nt nx ho hn hrs hm) (ite_t h1 (bind_ev (impl_good ot rt nu ny ho2 hn2 hrs2 hm2) ?_))
        rw [Bool.not_eq_true] at h2
        rw [h2]
        exact ino
  · refine ⟨(false, false), ?_, ?_⟩
    · unfold spec_SameShape.f
      exact bind_ev (spec_good os rs nt nx ho hn hrs hm) (ite_f h1 sno)
    · unfold impl_SameShape.f
      exact bind_ev (impl_good os rs nt nx ho hn hrs hm) (ite_f h1 ino)
theorem FnExactSameShape (y : S32) (hp : wf_S32 y) (x : S32) (hx : wf_S32 x) : ∃ k, laws_FnExactSameShape.f k y.f0 y.f1 y.f2 y.f3 x.f0 x.f1 x.f2 x.f3 = some true := by
  have key : Ev (fun k => laws_FnExactSameShape.f k y.f0 y.f1 y.f2 y.f3 x.f0 x.f1 x.f2 x.f3) true := by
    obtain ⟨z, hz, hz2⟩ := szHeap_ok y 1048576 (by omega) (by omega) hp
    unfold laws_FnExactSameShape.f
    refine bind_ev hz ?_
    by_cases h : z < 0
    · exact ite_t h (Ev.now _)
    refine ite_f h ?_
    obtain ⟨z1, hl⟩ := hz2 (by omega)
    obtain ⟨u, hu, hu2⟩ := szHeap_ok x z (by omega) (by omega) hx
    refine bind_ev hu ?_
    by_cases h' : u < 0
    · exact ite_t h' (Ev.now _)
    refine ite_f h' ?_
    have hm := (hu2 (by omega)).2
    have b1 := cv_bd y hl
    have b2 := cv_bd x hm
    have ty := toHeap_ev y hl
    have tx := toHeap_ev x hm
    obtain ⟨o, e1, e2⟩ := sameShape_both (cv_S32 y).f0 (cv_S32 y).f1 (cv_S32 y).f2 (cv_S32 y).f3 (cv_S32 x).f0 (cv_S32 x).f1 (cv_S32 x).f2 (cv_S32 x).f3 b1.1.1 b1.2.2.1 b1.2.1 (fun c hc => (b1.1.2 c hc).2.2) b2.1.1 b2.2.2.1 b2.2.1 (fun c hc => (b2.1.2 c hc).2.2)
    refine bind_ev ty (bind_ev tx (bind_ev e1 (bind_ev ty (bind_ev tx (bind_ev e2 (ite_f (by simp) ?_))))))
    rw [show (o.2 != o.2) = false by simp]
    refine Ev.step (fun k => by simp only [laws_FnExactSameShape.j0]; rw [if_neg (by simp)]) ?_
    exact bind_ev ty (bind_ev (eqHeap_ev _ b1) (ite_t rfl (bind_ev tx (bind_ev (eqHeap_ev _ b2) (ite_t rfl (Ev.now _))))))
  obtain ⟨K, hK⟩ := key
  exact ⟨K, hK K (Nat.le_refl _)⟩
end Go.Proofs.Ytnocadhibajaoaa.Pure
