/- SetMethod: the program and the reference make the same world, which is held as it was marked. Conditions: none. -/
import Derived.Test.YtjmgleomljfieaaGoodFnExactSetMethod
import Derived.Test.YtjmgleomljfieaaPF0
set_option linter.unusedVariables false
set_option linter.unusedSimpArgs false
namespace Go.Proofs.Ytjmgleomljfieaa.Pure
open Go.RowKit Go.Proofs.Ytjmgleomljfieaa.Q Go.Proofs.YtjmgleomljfieaaW.PrintWords Go.Proofs.YtjmgleomljfieaaW.PrintLast Go.Proofs.Ytjmgleomljfieaa.Kit Go.Proofs.Ytjmgleomljfieaa.Wf

theorem cntClass_le : ∀ (l : List S82), (∀ c ∈ l, c.f1.length ≤ 1048576) → markClassS_cnt l ≤ l.length * 1048577
  | [], _ => by simp [markClassS_cnt]
  | x :: xs, h => by
    have ih := cntClass_le xs (fun c hc => h c (List.mem_cons_of_mem _ hc))
    have h1 := h x (by simp)
    simp only [markClassS_cnt, markClassS_cnt1, List.length_cons]
    omega
theorem heldClassS_l0 : ∀ (post pre : List S82) (n : Int), pre.length + post.length ≤ 1048576 → (∀ c ∈ post, c.f1.length ≤ 1048576) → 0 ≤ n → n + (markClassS_cnt post : Nat) < 2305843009213693952 →
    Ev (fun k => laws_heldClassS.l0 k (pre ++ markClassS_mk n post) n (pre.length : Int)) (n + (markClassS_cnt post : Nat))
  | [], pre, n, hb, hm, h0, hn => by
    simp only [markClassS_mk, List.append_nil]
    refine Ev.step (fun k => by simp only [laws_heldClassS.l0]; rw [if_neg (by omega)]) ?_
    simpa [markClassS_cnt] using Ev.now _
  | x :: post, pre, n, hb, hm, h0, hn => by
    have h1 := hm x (by simp)
    simp only [markClassS_cnt, markClassS_cnt1, List.length_cons] at hn hb
    have ih := heldClassS_l0 post (pre ++ [markClassS_one n x]) (n + (markClassS_cnt1 x : Nat)) (by simp; omega) (fun c hc => hm c (by simp [hc])) (by omega) (by simp only [markClassS_cnt1]; omega)
    simp only [markClassS_mk]
    refine Ev.step (fun k => by
      simp only [laws_heldClassS.l0]
      rw [if_pos (by simp; omega), if_pos (by omega), rdat_T82 rfl, if_pos (show (markClassS_one n x).f0 = n from rfl)]) ?_
    have e1 : wrap64 (n + 1) = n + 1 := w64 (by omega) (by omega)
    have hh := heldIntS_ev x.f1.length (n + 1) (by omega) (by omega) (by omega)
    simp only [markClassS_one] at ih ⊢
    rw [e1]
    refine bind_ev hh (ite_f (by omega) ?_)
    rw [w_succ (by omega)]
    have e2 : n + 1 + (x.f1.length : Int) = n + (markClassS_cnt1 x : Nat) := by simp only [markClassS_cnt1]; omega
    have e3 : n + (markClassS_cnt1 x : Nat) + (markClassS_cnt post : Nat) = n + (markClassS_cnt (x :: post) : Nat) := by simp only [markClassS_cnt]; omega
    rw [e2, ← e3]
    simpa using ih
theorem heldWorld_ev (l : List S82) (st : Int) (hb : l.length ≤ 1048576) (hm : ∀ c ∈ l, c.f1.length ≤ 1048576) : Ev (fun k => laws_heldWorld.f k (markClassS_mk 1 l) st 1) (1 + (markClassS_cnt l : Nat) : Int) := by
  have hc := cntClass_le l hm
  have h := heldClassS_l0 l [] 1 (by simpa using hb) hm (by omega) (by omega)
  unfold laws_heldWorld.f laws_heldClassS.f
  refine bind_ev (by simpa using h) (ite_f (by omega) (Ev.now _))

theorem own_l0 (st : Int) : ∀ (post pre : List S82), pre.length + post.length ≤ 1048576 → (∀ c ∈ post, c.f1.length ≤ 1048576) →
    Ev (fun k => spec_l12Own.l0 k (pre ++ post) ((pre ++ post).length : Int) (pre.length : Int) pre st) (pre ++ post, st)
  | [], pre, hb, hm => by
    refine Ev.step (fun k => by simp only [spec_l12Own.l0]; rw [if_neg (by simp)]) ?_
    simpa using Ev.now _
  | x :: post, pre, hb, hm => by
    have h1 := hm x (by simp)
    simp only [List.length_cons] at hb
    have ih := own_l0 st post (pre ++ [x]) (by simp; omega) (fun c hc => hm c (by simp [hc]))
    refine Ev.step (fun k => by
      simp only [spec_l12Own.l0]
      rw [if_pos (by simp; omega), if_pos (by omega), if_pos (by simp; omega), rdat_T82 rfl, w_succ (by omega)]) ?_
    simp only [Option.bind_some, List.nil_append]
    refine ite_t (by simp; omega) (ite_t (by omega) ?_)
    simpa using ih
theorem own_ev (ws : List S82) (st : Int) (hb : ws.length ≤ 1048576) (hm : ∀ c ∈ ws, c.f1.length ≤ 1048576) : Ev (fun k => spec_l12Own.f k ws st) (ws, st) := by
  have h := own_l0 st ws [] (by simpa using hb) hm
  unfold spec_l12Own.f
  simpa using h

def setM (ws : List S82) (a n t : Int) : List S82 := ws.set a.toNat ⟨(rd_T82 ws a).f0, (rd_T82 ws a).f1.set n.toNat t⟩
theorem impl_set_l0 (a n t st : Int) (ws : List S82) (ha : 0 ≤ a) (ha2 : a < ws.length) (hn : 0 ≤ n) (hn2 : n < ((rd_T82 ws a).f1.length : Int)) : ∀ (post pre : List S82), ws = pre ++ post → pre.length + post.length ≤ 1048576 → (∀ c ∈ post, c.f1.length ≤ 1048576) →
    Ev (fun k => impl_SetMethod.l0 k a n t (pre ++ post) ((pre ++ post).length : Int) (pre.length : Int) pre st) (setM ws a n t, st, true)
  | [], pre, hw, hb, hm => by
    simp only [List.append_nil] at hw ⊢
    subst hw
    refine Ev.step (fun k => by
      simp only [impl_SetMethod.l0]
      rw [if_neg (by simp), if_pos ha, if_pos ha2, if_pos hn, if_pos hn2]) ?_
    exact Ev.now _
  | x :: post, pre, hw, hb, hm => by
    have h1 := hm x (by simp)
    simp only [List.length_cons] at hb
    have ih := impl_set_l0 a n t st ws ha ha2 hn hn2 post (pre ++ [x]) (by simp [hw]) (by simp; omega) (fun c hc => hm c (by simp [hc]))
    refine Ev.step (fun k => by
      simp only [impl_SetMethod.l0]
      rw [if_pos (by simp; omega), if_pos (by omega), if_pos (by simp; omega), rdat_T82 rfl, w_succ (by omega)]) ?_
    simp only [Option.bind_some, List.nil_append]
    refine ite_t (by simp; omega) (ite_t (by omega) ?_)
    simpa using ih

theorem setMethod_both (ws : List S82) (st a n t : Int) (hb : ws.length ≤ 1048576) (hm : ∀ c ∈ ws, c.f1.length ≤ 1048576) :
    ∃ r : List S82 × Int × Bool, (r.1.length ≤ 1048576 ∧ ∀ c ∈ r.1, c.f1.length ≤ 1048576) ∧ Ev (fun k => spec_SetMethod.f k ws st a n t) r ∧ Ev (fun k => impl_SetMethod.f k ws st a n t) r := by
  have h1 := spec_world ws st hb hm
  have h2 := impl_world ws st hb
  have hnil : (([] : List S82).length ≤ 1048576 ∧ ∀ c ∈ ([] : List S82), c.f1.length ≤ 1048576) := by simp
  have hj : Ev (fun k => impl_SetMethod.j0 k a n t true ws st) (([] : List S82), (0 : Int), false) :=
    ⟨1, fun k hk => by obtain ⟨m, rfl⟩ : ∃ m, k = m + 1 := ⟨k - 1, by omega⟩; simp [impl_SetMethod.j0]⟩
  unfold spec_SetMethod.f impl_SetMethod.f
  simp only [spec_class, impl_in, spec_l12Name.f, spec_in, Option.bind_some]
  rw [w64 (x := (ws.length : Int) - 1) (by omega) (by omega)]
  cases hg : goodW ws st with
  | false =>
    rw [hg] at h1 h2
    exact ⟨([], 0, false), hnil, bind_ev h1 (ite_f (by simp) (Ev.now _)), bind_ev h2 (ite_f (by simp) hj)⟩
  | true =>
    rw [hg] at h1 h2
    cases ha : inB a 0 (ws.length - 1) with
    | false => exact ⟨([], 0, false), hnil, bind_ev h1 (ite_t rfl (ite_f (by simp) (Ev.now _))), bind_ev h2 (ite_t rfl (ite_f (by simp) hj))⟩
    | true =>
      cases hn : inB n 0 4 with
      | false => exact ⟨([], 0, false), hnil, bind_ev h1 (ite_t rfl (ite_t rfl (ite_f (by simp) (Ev.now _)))), bind_ev h2 (ite_t rfl (ite_t rfl (ite_f (by simp) hj)))⟩
      | true =>
        cases ht : inB t 0 1000 with
        | false => exact ⟨([], 0, false), hnil, bind_ev h1 (ite_t rfl (ite_t rfl (ite_t rfl (ite_f (by simp) (Ev.now _))))), bind_ev h2 (ite_t rfl (ite_t rfl (ite_t rfl (ite_f (by simp) hj))))⟩
        | true =>
          by_cases hs : st = 1000000
          · subst hs
            exact ⟨([], 0, false), hnil, bind_ev h1 (ite_t rfl (ite_t rfl (ite_t rfl (ite_t rfl (ite_t rfl (Ev.now _)))))), bind_ev h2 (ite_t rfl (ite_t rfl (ite_t rfl (ite_t rfl hj))))⟩
          · have ha' := (inB_iff _ _ _).1 ha
            have hn' := (inB_iff _ _ _).1 hn
            have hlt : a.toNat < ws.length := by omega
            obtain ⟨c, hc, hr⟩ := rdT82_some hlt
            rw [Int.toNat_of_nonneg ha'.1] at hr
            have hmem : c ∈ ws := List.mem_of_getElem? hc
            have hck := classOk hg hc
            have h5 : (rd_T82 ws a).f1.length = 5 := by rw [hr]; exact hck.five
            have hbs : st ≠ 1000000 ∧ 0 ≤ st ∧ st ≤ 1000000 := by
              simp only [goodW, Bool.and_eq_true] at hg
              have := (inB_iff _ _ _).1 hg.2
              exact ⟨hs, this.1, this.2⟩
            have hset : (setM ws a n t).length ≤ 1048576 ∧ ∀ c ∈ setM ws a n t, c.f1.length ≤ 1048576 := by
              refine ⟨by simpa [setM] using hb, fun d hd => ?_⟩
              rcases List.mem_or_eq_of_mem_set hd with h | h
              · exact hm d h
              · subst h; simp [h5]
            refine ⟨(setM ws a n t, st + 1, true), hset, ?_, ?_⟩
            · refine bind_ev h1 (ite_t rfl (ite_t rfl (ite_t rfl (ite_t rfl (ite_f hs (bind_ev (own_ev ws st hb hm) ?_))))))
              refine ite_t ha'.1 (ite_t (by show a < (ws.length : Int); omega) (ite_t hn'.1 (ite_t (by show n < ((rd_T82 ws a).f1.length : Int); rw [h5]; omega) ?_)))
              show Ev (fun k => some (setM ws a n t, wrap64 (st + 1), true)) _
              rw [w64 (x := st + 1) (by omega) (by omega)]
              exact Ev.now _
            · refine bind_ev h2 (ite_t rfl (ite_t rfl (ite_t rfl (ite_t rfl ?_))))
              refine Ev.step (fun k => by simp only [impl_SetMethod.j0]; rw [if_neg (by simp [hs])]) ?_
              have := impl_set_l0 a n t (wrap64 (st + 1)) ws ha'.1 (by omega) hn'.1 (by rw [h5]; omega) ws [] rfl (by simpa using hb) hm
              rw [w64 (x := st + 1) (by omega) (by omega)] at this ⊢
              simpa using this

theorem FnExactSetMethod (y : S24) (hp : wf_S24 y) (a : Int) (_ : (Lit.int .i64 a).wf = true) (n : Int) (_ : (Lit.int .i64 n).wf = true) (t : Int) (_ : (Lit.int .i64 t).wf = true) : ∃ k, laws_FnExactSetMethod.f k y.f0 y.f1 a n t = some true := by
  obtain ⟨z, ⟨k1, hz⟩, hz2⟩ := szWorld_ok y 1048576 (by omega) (by omega) hp
  unfold laws_FnExactSetMethod.f
  by_cases h : z < 0
  · exact ⟨k1, if_pos ⟨z, hz k1 (Nat.le_refl _), .inl h⟩⟩
  · have hl := (hz2 (by omega)).2
    have hl2 := cv_lens y hl
    obtain ⟨k2, ht⟩ := toWorld_ev y hl
    obtain ⟨⟨ws, s, o⟩, hb, ⟨k3, h1⟩, ⟨k4, h2⟩⟩ := setMethod_both (cv_S24 y).f0 (cv_S24 y).f1 a n t hl2.1 hl2.2
    obtain ⟨k5, he⟩ := eqWorld_ev _ (cv_bd y hl)
    obtain ⟨k6, hq⟩ := eqWorld_ev ⟨ws, s⟩ ⟨⟨hb.1, fun c hc => ⟨trivial, hb.2 c hc⟩⟩, trivial⟩
    obtain ⟨k7, hh⟩ := heldWorld_ev ws s hb.1 hb.2
    have hc := cntClass_le _ hl2.2
    have hc1 := cntClass_le ws hb.2
    have hc2 : (1 + (markClassS_cnt (cv_S24 y).f0 : Nat) : Int) < 2305843009213693952 := by
      have := hl2.1
      omega
    have hc3 : (1 + (markClassS_cnt ws : Nat) : Int) < 2305843009213693952 := by
      have := hb.1
      simp only at hc1 this
      omega
    generalize hk : k1 + k2 + k3 + k4 + k5 + k6 + k7 = k
    exact ⟨k, if_pos ⟨z, hz k (by omega), .inr ⟨h, _, _, ht k (by omega), _, _, _, h1 k (by omega), _, _, ht k (by omega), _, _, h2 k (by omega), hq k (by omega), _, _, ht k (by omega), he k (by omega), hc2, hq k (by omega), hc3, hh k (by omega),
      _, _, ht k (by omega), _, _, h2 k (by omega), hq k (by omega), hh k (by omega), trivial⟩⟩⟩
end Go.Proofs.Ytjmgleomljfieaa.Pure
