/- FnWorlds: a class has what the nearest one above it has, and what is set counts for those below alone, for drawn worlds. Conditions: none. -/
import Derived.Test.YtjmgleomljfieaaPWl0
import Derived.Test.YtjmgleomljfieaaPWd
import Derived.Test.YtjmgleomljfieaaQx0
import Derived.Test.YtjmgleomljfieaaQx2
import Derived.Test.YtjmgleomljfieaaQx3
import Derived.Test.YtjmgleomljfieaaQx4
import Derived.Test.YtjmgleomljfieaaQx5
import Derived.Test.YtjmgleomljfieaaQx7
import Derived.Test.YtjmgleomljfieaaQx8
import Derived.Test.YtjmgleomljfieaaQx9
set_option linter.unusedVariables false
set_option linter.unusedSimpArgs false
set_option linter.unusedSectionVars false
namespace Go.Proofs.Ytjmgleomljfieaa.Pure
open Go.RowKit Go.Proofs.Ytjmgleomljfieaa.Q Go.Proofs.YtjmgleomljfieaaW.PrintWords Go.Proofs.YtjmgleomljfieaaW.PrintLast Go.Proofs.Ytjmgleomljfieaa.Kit

theorem findMethod_val (ws : List S82) (st a n : Int) (hb : ws.length ≤ 1048576) (hm : ∀ c ∈ ws, c.f1.length ≤ 1048576) :
    ∃ r : Int × Bool, Ev (fun k => spec_FindMethod.f k ws st a n) r ∧ Ev (fun k => impl_FindMethod.f k ws st a n) r ∧ (goodW ws st = true → 0 ≤ a → a < ws.length → 0 ≤ n → n ≤ 4 → r = (fnd ws n ws.length a, decide (fnd ws n ws.length a > 0))) := by
  have h1 := spec_world ws st hb hm
  have h2 := impl_world ws st hb
  unfold spec_FindMethod.f impl_FindMethod.f
  simp only [spec_class, impl_in, spec_l12Name.f, spec_in, Option.bind_some]
  rw [w64 (x := (ws.length : Int) - 1) (by omega) (by omega)]
  cases hg : goodW ws st with
  | false =>
    rw [hg] at h1 h2
    exact ⟨(0, false), bind_ev h1 (ite_f (by simp) (Ev.now _)), bind_ev h2 (ite_f (by simp) (Ev.now _)), fun h => by cases h⟩
  | true =>
    rw [hg] at h1 h2
    cases ha : inB a 0 (ws.length - 1) with
    | false => exact ⟨(0, false), bind_ev h1 (ite_t rfl (ite_f (by simp) (Ev.now _))), bind_ev h2 (ite_t rfl (ite_f (by simp) (Ev.now _))), fun _ p q => by rw [(inB_iff a 0 (ws.length - 1)).2 ⟨p, by omega⟩] at ha; cases ha⟩
    | true =>
      cases hn : inB n 0 4 with
      | false => exact ⟨(0, false), bind_ev h1 (ite_t rfl (ite_t rfl (ite_f (by simp) (Ev.now _)))), bind_ev h2 (ite_t rfl (ite_t rfl (ite_f (by simp) (Ev.now _)))), fun _ _ _ p q => by rw [(inB_iff n 0 4).2 ⟨p, q⟩] at hn; cases hn⟩
      | true =>
        have ha' := (inB_iff _ _ _).1 ha
        have hn' := (inB_iff _ _ _).1 hn
        obtain ⟨i1, i2, _⟩ := fnd_ev ws st hg n hn'.1 hn'.2 ws.length a (by omega) (by omega) (by omega)
        exact ⟨(fnd ws n ws.length a, decide (fnd ws n ws.length a > 0)), bind_ev h1 (ite_t rfl (ite_t rfl (ite_t rfl (bind_ev i1 (Ev.now _))))), bind_ev h2 (ite_t rfl (ite_t rfl (ite_t rfl (bind_ev i2 (Ev.now _))))), fun _ _ _ _ _ => rfl⟩
theorem subclass_val (ws : List S82) (st a b : Int) (hb : ws.length ≤ 1048576) (hm : ∀ c ∈ ws, c.f1.length ≤ 1048576) :
    ∃ r : Bool × Bool, Ev (fun k => spec_SubclassOf.f k ws st a b) r ∧ Ev (fun k => impl_SubclassOf.f k ws st a b) r ∧ (goodW ws st = true → 0 ≤ a → a < ws.length → 0 ≤ b → b < ws.length → r = (clm ws b ws.length a, true)) := by
  have h1 := spec_world ws st hb hm
  have h2 := impl_world ws st hb
  have s0 : Ev (fun k => spec_SubclassOf.j0 k a b true ws st) (false, false) := Ev.step (fun k => by simp only [spec_SubclassOf.j0]; rw [if_pos trivial]) (Ev.now _)
  have i0 : Ev (fun k => impl_SubclassOf.j0 k a b true ws st) (false, false) := Ev.step (fun k => by simp only [impl_SubclassOf.j0]; rw [if_pos trivial]) (Ev.now _)
  unfold spec_SubclassOf.f impl_SubclassOf.f
  simp only [spec_class, impl_in, Option.bind_some]
  rw [w64 (x := (ws.length : Int) - 1) (by omega) (by omega)]
  cases hg : goodW ws st with
  | false =>
    rw [hg] at h1 h2
    exact ⟨(false, false), bind_ev h1 (ite_f (by simp) s0), bind_ev h2 (ite_f (by simp) i0), fun h => by cases h⟩
  | true =>
    rw [hg] at h1 h2
    cases ha : inB a 0 (ws.length - 1) with
    | false => exact ⟨(false, false), bind_ev h1 (ite_t rfl (ite_f (by simp) s0)), bind_ev h2 (ite_t rfl (ite_f (by simp) i0)), fun _ p q => by rw [(inB_iff a 0 (ws.length - 1)).2 ⟨p, by omega⟩] at ha; cases ha⟩
    | true =>
      cases hn : inB b 0 (ws.length - 1) with
      | false => exact ⟨(false, false), bind_ev h1 (ite_t rfl (ite_t rfl (by simpa using s0))), bind_ev h2 (ite_t rfl (ite_t rfl (by simpa using i0))), fun _ _ _ p q => by rw [(inB_iff b 0 (ws.length - 1)).2 ⟨p, by omega⟩] at hn; cases hn⟩
      | true =>
        have ha' := (inB_iff _ _ _).1 ha
        have hn' := (inB_iff _ _ _).1 hn
        obtain ⟨i1, i2⟩ := clm_ev ws st hg b hn'.1 ws.length a (by omega) (by omega) (by omega)
        refine ⟨(clm ws b ws.length a, true), bind_ev h1 (ite_t rfl (ite_t rfl ?_)), bind_ev h2 (ite_t rfl (ite_t rfl ?_)), fun _ _ _ _ _ => rfl⟩
        · exact Ev.step (fun k => by simp only [spec_SubclassOf.j0]; rw [if_neg (by simp)]) i1
        · exact Ev.step (fun k => by simp only [impl_SubclassOf.j0]; rw [if_neg (by simp)]) i2

theorem own_l0 (st : Int) : ∀ (post pre : List S82), pre.length + post.length ≤ 1048576 → (∀ c ∈ post, c.f1.length ≤ 1048576) →
    Ev (fun k => spec_l12Own.l0 k (pre ++ post) ((pre ++ post).length : Int) (pre.length : Int) pre st) (pre ++ post, st)
  | [], pre, hb, hm => by
    refine Ev.step (fun k => by simp only [spec_l12Own.l0]; rw [if_neg (by simp)]) ?_
    simpa using Ev.now _
  | x :: post, pre, hb, hm => by
    have h1 := hm x (by simp)
    simp only [List.length_cons] at hb
    have ih := own_l0 st post (pre ++ [x]) (by simp; omega) (fun c hc => hm c (by simp [hc]))
    refine Ev.step (fun k => by
      simp only [spec_l12Own.l0]
      rw [if_pos (by simp; omega), if_pos (by omega), if_pos (by simp; omega), rdat_T82 rfl, w_succ (by omega)]) ?_
    simp only [Option.bind_some, List.nil_append]
    refine ite_t (by simp; omega) (ite_t (by omega) ?_)
    simpa using ih
theorem own_ev (ws : List S82) (st : Int) (hb : ws.length ≤ 1048576) (hm : ∀ c ∈ ws, c.f1.length ≤ 1048576) : Ev (fun k => spec_l12Own.f k ws st) (ws, st) := by
  have h := own_l0 st ws [] (by simpa using hb) hm
  unfold spec_l12Own.f
  simpa using h

theorem impl_set_l0 (a n t st : Int) (ws : List S82) (ha : 0 ≤ a) (ha2 : a < ws.length) (hn : 0 ≤ n) (hn2 : n < ((rd_T82 ws a).f1.length : Int)) : ∀ (post pre : List S82), ws = pre ++ post → pre.length + post.length ≤ 1048576 → (∀ c ∈ post, c.f1.length ≤ 1048576) →
    Ev (fun k => impl_SetMethod.l0 k a n t (pre ++ post) ((pre ++ post).length : Int) (pre.length : Int) pre st) (setW ws a n t, st, true)
  | [], pre, hw, hb, hm => by
    simp only [List.append_nil] at hw ⊢
    subst hw
    refine Ev.step (fun k => by
      simp only [impl_SetMethod.l0]
      rw [if_neg (by simp), if_pos ha, if_pos ha2, if_pos hn, if_pos hn2]) ?_
    exact Ev.now _
  | x :: post, pre, hw, hb, hm => by
    have h1 := hm x (by simp)
    simp only [List.length_cons] at hb
    have ih := impl_set_l0 a n t st ws ha ha2 hn hn2 post (pre ++ [x]) (by simp [hw]) (by simp; omega) (fun c hc => hm c (by simp [hc]))
    refine Ev.step (fun k => by
      simp only [impl_SetMethod.l0]
      rw [if_pos (by simp; omega), if_pos (by omega), if_pos (by simp; omega), rdat_T82 rfl, w_succ (by omega)]) ?_
    simp only [Option.bind_some, List.nil_append]
    refine ite_t (by simp; omega) (ite_t (by omega) ?_)
    simpa using ih

theorem setMethod_val (ws : List S82) (st a n t : Int) (hb : ws.length ≤ 1048576) (hm : ∀ c ∈ ws, c.f1.length ≤ 1048576) :
    ∃ r : List S82 × Int × Bool, (r.1.length ≤ 1048576 ∧ ∀ c ∈ r.1, c.f1.length ≤ 1048576) ∧ Ev (fun k => spec_SetMethod.f k ws st a n t) r ∧ Ev (fun k => impl_SetMethod.f k ws st a n t) r ∧
      (r.2.2 = true → goodW ws st = true ∧ 0 ≤ a ∧ a < ws.length ∧ 0 ≤ n ∧ n ≤ 4 ∧ 0 ≤ t ∧ t ≤ 1000 ∧ st ≠ 1000000 ∧ 0 ≤ st ∧ st ≤ 1000000 ∧ r.1 = setW ws a n t ∧ r.2.1 = st + 1) := by
  have h1 := spec_world ws st hb hm
  have h2 := impl_world ws st hb
  have hnil : (([] : List S82).length ≤ 1048576 ∧ ∀ c ∈ ([] : List S82), c.f1.length ≤ 1048576) := by simp
  have hj : Ev (fun k => impl_SetMethod.j0 k a n t true ws st) (([] : List S82), (0 : Int), false) :=
    ⟨1, fun k hk => by obtain ⟨m, rfl⟩ : ∃ m, k = m + 1 := ⟨k - 1, by omega⟩; simp [impl_SetMethod.j0]⟩
  unfold spec_SetMethod.f impl_SetMethod.f
  simp only [spec_class, impl_in, spec_l12Name.f, spec_in, Option.bind_some]
  rw [w64 (x := (ws.length : Int) - 1) (by omega) (by omega)]
  cases hg : goodW ws st with
  | false =>
    rw [hg] at h1 h2
    exact ⟨([], 0, false), hnil, bind_ev h1 (ite_f (by simp) (Ev.now _)), bind_ev h2 (ite_f (by simp) hj), by simp⟩
  | true =>
    rw [hg] at h1 h2
    cases ha : inB a 0 (ws.length - 1) with
    | false => exact ⟨([], 0, false), hnil, bind_ev h1 (ite_t rfl (ite_f (by simp) (Ev.now _))), bind_ev h2 (ite_t rfl (ite_f (by simp) hj)), by simp⟩
    | true =>
      cases hn : inB n 0 4 with
      | false => exact ⟨([], 0, false), hnil, bind_ev h1 (ite_t rfl (ite_t rfl (ite_f (by simp) (Ev.now _)))), bind_ev h2 (ite_t rfl (ite_t rfl (ite_f (by simp) hj))), by simp⟩
      | true =>
        cases ht : inB t 0 1000 with
        | false => exact ⟨([], 0, false), hnil, bind_ev h1 (ite_t rfl (ite_t rfl (ite_t rfl (ite_f (by simp) (Ev.now _))))), bind_ev h2 (ite_t rfl (ite_t rfl (ite_t rfl (ite_f (by simp) hj)))), by simp⟩
        | true =>
          by_cases hs : st = 1000000
          · subst hs
            exact ⟨([], 0, false), hnil, bind_ev h1 (ite_t rfl (ite_t rfl (ite_t rfl (ite_t rfl (ite_t rfl (Ev.now _)))))), bind_ev h2 (ite_t rfl (ite_t rfl (ite_t rfl (ite_t rfl hj)))), by simp⟩
          · have ha' := (inB_iff _ _ _).1 ha
            have hn' := (inB_iff _ _ _).1 hn
            have hlt : a.toNat < ws.length := by omega
            obtain ⟨c, hc, hr⟩ := rdT82_some hlt
            rw [Int.toNat_of_nonneg ha'.1] at hr
            have hmem : c ∈ ws := List.mem_of_getElem? hc
            have hck := classOk hg hc
            have h5 : (rd_T82 ws a).f1.length = 5 := by rw [hr]; exact hck.five
            have hbs : st ≠ 1000000 ∧ 0 ≤ st ∧ st ≤ 1000000 := by
              simp only [goodW, Bool.and_eq_true] at hg
              have := (inB_iff _ _ _).1 hg.2
              exact ⟨hs, this.1, this.2⟩
            have hset : (setW ws a n t).length ≤ 1048576 ∧ ∀ c ∈ setW ws a n t, c.f1.length ≤ 1048576 := by
              refine ⟨by simpa [setW] using hb, fun d hd => ?_⟩
              rcases List.mem_or_eq_of_mem_set hd with h | h
              · exact hm d h
              · subst h; simp [h5]
            have ht' := (inB_iff _ _ _).1 ht
            refine ⟨(setW ws a n t, st + 1, true), hset, ?_, ?_, fun _ => ⟨rfl, ha'.1, by omega, hn'.1, hn'.2, ht'.1, ht'.2, hs, hbs.2.1, hbs.2.2, rfl, rfl⟩⟩
            · refine bind_ev h1 (ite_t rfl (ite_t rfl (ite_t rfl (ite_t rfl (ite_f hs (bind_ev (own_ev ws st hb hm) ?_))))))
              refine ite_t ha'.1 (ite_t (by show a < (ws.length : Int); omega) (ite_t hn'.1 (ite_t (by show n < ((rd_T82 ws a).f1.length : Int); rw [h5]; omega) ?_)))
              show Ev (fun k => some (setW ws a n t, wrap64 (st + 1), true)) _
              rw [w64 (x := st + 1) (by omega) (by omega)]
              exact Ev.now _
            · refine bind_ev h2 (ite_t rfl (ite_t rfl (ite_t rfl (ite_t rfl ?_))))
              refine Ev.step (fun k => by simp only [impl_SetMethod.j0]; rw [if_neg (by simp [hs])]) ?_
              have := impl_set_l0 a n t (wrap64 (st + 1)) ws ha'.1 (by omega) hn'.1 (by rw [h5]; omega) ws [] rfl (by simpa using hb) hm
              rw [w64 (x := st + 1) (by omega) (by omega)] at this ⊢
              simpa using this

theorem newCache_both (ws : List S82) (st a : Int) (hb : ws.length ≤ 1048576) (hm : ∀ c ∈ ws, c.f1.length ≤ 1048576) :
    ∃ n s o, Ev (fun k => spec_NewCache.f k ws st a) (n, 0, [], s, 0, 0, o) ∧ Ev (fun k => impl_NewCache.f k ws st a) (n, 0, [], s, 0, 0, o) := by
  have hs := spec_world ws st hb hm
  have hi := impl_world ws st hb
  by_cases h : goodW ws st = true ∧ inB a 0 4 = true
  · refine ⟨a, st, true, ?_, ?_⟩
    · unfold spec_NewCache.f
      refine bind_ev hs (ite_t h.1 ?_)
      unfold spec_l12Name.f
      rw [spec_in, h.2]
      exact Ev.now _
    · unfold impl_NewCache.f
      refine bind_ev hi (ite_t h.1 ?_)
      rw [impl_in, h.2]
      exact Ev.now _
  · refine ⟨0, 0, false, ?_, ?_⟩
    · unfold spec_NewCache.f
      refine bind_ev hs ?_
      by_cases g : goodW ws st = true
      · refine ite_t g ?_
        unfold spec_l12Name.f
        rw [spec_in, Bool.eq_false_iff.mpr (fun hn => h ⟨g, hn⟩)]
        exact Ev.now _
      · exact ite_f g (Ev.now _)
    · unfold impl_NewCache.f
      refine bind_ev hi ?_
      by_cases g : goodW ws st = true
      · refine ite_t g ?_
        rw [impl_in, Bool.eq_false_iff.mpr (fun hn => h ⟨g, hn⟩)]
        exact Ev.now _
      · exact ite_f g (Ev.now _)

theorem sameInts_l0 : ∀ (post pre : List Int), pre.length + post.length ≤ 1048576 →
    Ev (fun k => laws_sameInts.l0 k (pre ++ post) (pre ++ post) ((pre ++ post).length : Int) (pre.length : Int)) true
  | [], pre, hb => Ev.step (fun k => by simp only [laws_sameInts.l0]; rw [if_neg (by simp)]) (Ev.now _)
  | x :: post, pre, hb => by
    have ih := sameInts_l0 post (pre ++ [x]) (by simp at hb ⊢; omega)
    simp only [List.length_cons] at hb
    refine Ev.step (fun k => by
      simp only [laws_sameInts.l0]
      rw [if_pos (by simp; omega), if_pos (by omega), if_pos (by simp; omega), if_pos (by simp; omega), w_succ (by omega)]) ?_
    exact ite_t trivial (by simpa using ih)
theorem sameInts_ev (l : List Int) (hb : l.length ≤ 1048576) : Ev (fun k => laws_sameInts.f k l l) true := by
  have := sameInts_l0 l [] (by simpa using hb)
  unfold laws_sameInts.f
  exact ite_t rfl (by simpa using this)
theorem sameWorlds_l0 (st : Int) : ∀ (post pre : List S82), pre.length + post.length ≤ 1048576 → (∀ c ∈ post, c.f1.length ≤ 1048576) →
    Ev (fun k => laws_sameWorlds.l0 k ((pre ++ post).length : Int) (pre.length : Int) (pre ++ post) st (pre ++ post) st) true
  | [], pre, hb, hm => Ev.step (fun k => by simp only [laws_sameWorlds.l0]; rw [if_neg (by simp)]) (Ev.now _)
  | x :: post, pre, hb, hm => by
    have ih := sameWorlds_l0 st post (pre ++ [x]) (by simp at hb ⊢; omega) (fun c hc => hm c (by simp [hc]))
    simp only [List.length_cons] at hb
    refine Ev.step (fun k => by
      simp only [laws_sameWorlds.l0]
      rw [if_pos (by simp; omega), if_pos (by omega), if_pos (by simp; omega), if_pos (by simp; omega), rdat_T82 rfl, w_succ (by omega)]) ?_
    exact ite_t trivial (bind_ev (sameInts_ev x.f1 (hm x (by simp))) (ite_t rfl (by simpa using ih)))
theorem sameWorlds_ev (ws : List S82) (st : Int) (hb : ws.length ≤ 1048576) (hm : ∀ c ∈ ws, c.f1.length ≤ 1048576) : Ev (fun k => laws_sameWorlds.f k ws st ws st) true := by
  have := sameWorlds_l0 st ws [] (by simpa using hb) hm
  unfold laws_sameWorlds.f
  refine ite_t rfl ?_
  have e : (((ws.length : Int)) != (ws.length : Int)) = false := by simp
  rw [e]
  exact Ev.step (fun k => by simp only [laws_sameWorlds.j0]; rw [if_neg (by simp)]) (by simpa using this)
theorem sameCaches_nil (n s : Int) : Ev (fun k => laws_sameCaches.f k n 0 [] s 0 0 n 0 [] s 0 0) true := by
  unfold laws_sameCaches.f
  refine ite_t rfl (ite_t rfl (ite_t rfl (ite_t rfl (ite_t rfl ?_))))
  refine Ev.step (fun k => by simp only [laws_sameCaches.j0]; rw [if_neg (by simp)]) ?_
  exact Ev.step (fun k => by simp only [laws_sameCaches.l0]; rw [if_neg (by simp)]) (Ev.now _)
theorem goodW_ev (ws : List S82) (st : Int) (hb : ws.length ≤ 1048576) : Ev (fun k => impl_GoodWorld.f k ws st) (goodW ws st) := by
  unfold impl_GoodWorld.f
  exact bind_ev (impl_world ws st hb) (Ev.now _)
theorem worlds_l0 (m : List Int) (J3 : Ev (fun k => laws_FnWorlds.j3 k m) true) {ws : List S82} {st a n t : Int} (hg : goodW ws st = true) (ha : 0 ≤ a) (ha2 : a < ws.length) (hn : 0 ≤ n) (hn4 : n ≤ 4) (ht0 : 0 ≤ t) (ht1 : t ≤ 1000) (hs : st ≠ 1000000) (hs0 : 0 ≤ st) (hs1 : st ≤ 1000000)
    (hb : ws.length ≤ 8) (hm : ∀ c ∈ ws, c.f1.length ≤ 1048576) (hm2 : ∀ c ∈ setW ws a n t, c.f1.length ≤ 1048576) : ∀ (d kk : Nat), kk + d = ws.length →
    Ev (fun k => laws_FnWorlds.l0 k m a n t (ws.length : Int) (kk : Int) ws st (setW ws a n t) (st + 1)) true
  | 0, kk, hd => by
    have hx := setW_good hg hs ha ha2 ht0 ht1 (n := n)
    have hxl : (setW ws a n t).length = ws.length := by simp [setW]
    have hw : wrap64 (st + 1) = st + 1 := w64 (by omega) (by omega)
    refine Ev.step (fun k => by simp only [laws_FnWorlds.l0]; rw [if_neg (by omega), hw]) ?_
    have hgx := goodW_ev (setW ws a n t) (st + 1) (by omega)
    rw [hx] at hgx
    exact bind_ev hgx (ite_t rfl (ite_t rfl J3))
  | d + 1, kk, hd => by
    have ih := worlds_l0 m J3 hg ha ha2 hn hn4 ht0 ht1 hs hs0 hs1 hb hm hm2 d (kk + 1) (by omega)
    have hx := setW_good hg hs ha ha2 ht0 ht1 (n := n)
    have hxl : (setW ws a n t).length = ws.length := by simp [setW]
    obtain ⟨o1, _, i1, v1⟩ := subclass_val ws st (kk : Int) a (by omega) hm
    obtain ⟨o2, _, i2, v2⟩ := findMethod_val ws st (kk : Int) n (by omega) hm
    obtain ⟨o3, _, i3, v3⟩ := findMethod_val (setW ws a n t) (st + 1) (kk : Int) n (by omega) hm2
    have v1 := v1 hg (by omega) (by omega) ha ha2
    have v2 := v2 hg (by omega) (by omega) hn hn4
    have v3 := v3 hx (by omega) (by omega) hn hn4
    rw [hxl] at v3
    obtain ⟨len, hlen⟩ : ∃ l, ws.length = l + 1 := ⟨ws.length - 1, by omega⟩
    have j2 : Ev (fun k => laws_FnWorlds.j2 k m a n t (ws.length : Int) (kk : Int) false ws st (setW ws a n t) (st + 1)) true := by
      refine Ev.step (fun k => by simp only [laws_FnWorlds.j2]; rw [if_neg (by simp), w_succ (by omega)]) ih
    have hat : (kk : Int) = a → t > 0 → (o3.1 != t) = false := by
      intro e ht
      rw [v3, hlen, e]
      have := fnd_at hg ha ha2 hn hn4 ht len
      simp [this]
    have tail : Ev (fun k => (if (kk : Int) = a then (if t > 0 then (laws_FnWorlds.j2 k m a n t (ws.length : Int) (kk : Int) (o3.1 != t) ws st (setW ws a n t) (st + 1)) else (laws_FnWorlds.j2 k m a n t (ws.length : Int) (kk : Int) false ws st (setW ws a n t) (st + 1))) else (laws_FnWorlds.j2 k m a n t (ws.length : Int) (kk : Int) false ws st (setW ws a n t) (st + 1)))) true := by
      by_cases e : (kk : Int) = a
      · refine ite_t e ?_
        by_cases ht : t > 0
        · refine ite_t ht ?_
          rw [hat e ht]; exact j2
        · exact ite_f ht j2
      · exact ite_f e j2
    refine Ev.step (fun k => by simp only [laws_FnWorlds.l0]; rw [if_pos (by omega)]) ?_
    refine bind_ev i1 (bind_ev i2 (bind_ev i3 (ite_t (by rw [v1]) ?_)))
    by_cases hc : clm ws a ws.length (kk : Int) = true
    · exact ite_t (by rw [v1]; exact hc) tail
    · refine ite_f (by rw [v1]; exact hc) ?_
      have e := fnd_below hg ha ha2 (n := n) (t := t) ws.length (kk : Int) (by omega) (by simpa using hc)
      refine ite_f (by rw [v2, v3, e]; simp) (ite_t (by rw [v2, v3, e]) tail)
theorem FnWorlds (c : List Int) (hb : c.length ≤ maxLen ∧ ∀ x ∈ c, (Lit.int .u8 x).wf = true) (m : List Int) (hmb : m.length ≤ maxLen ∧ ∀ x ∈ m, (Lit.int .u8 x).wf = true) : ∃ k, laws_FnWorlds.f k c m = some true := by
  refine Ev.rounds ?_
  unfold laws_FnWorlds.f
  by_cases g : wrap64 ((c.length : Int) + (m.length : Int)) > 1048576
  · exact ite_t g (Ev.now _)
  refine ite_f g ?_
  have bc := bytes_of hb.2
  have bm := bytes_of hmb.2
  have five : ∀ {ws : List S82}, Five ws → ∀ c ∈ ws, c.f1.length ≤ 1048576 := fun h c hc => by rw [h c hc]; omega
  obtain ⟨ws, st, a, n, t, e1, w1, w2, w3⟩ := drawSet_ok bc
  obtain ⟨o, ob, s1, i1, v1⟩ := setMethod_val ws st a n t (by omega) (five w3)
  obtain ⟨us, ust, ua, un, e2, u1, u2, u3⟩ := drawFind_ok bm
  obtain ⟨p, s2, i2, _⟩ := findMethod_val us ust ua un (by omega) (five u3)
  obtain ⟨vs, vst, va, vn, e3, x1, x2, x3⟩ := drawSub_ok bm
  obtain ⟨q, s3, i3, _⟩ := subclass_val vs vst va vn (by omega) (five x3)
  obtain ⟨zs, zst, zn, e4, z1, z2, z3⟩ := drawNew_ok bm
  obtain ⟨r1, r2, r3, s4, i4⟩ := newCache_both zs zst zn (by omega) (five z3)
  have J4 : Ev (fun k => laws_FnWorlds.j4 k true) true := Ev.step (fun k => by simp only [laws_FnWorlds.j4]) (Ev.now _)
  have J3 : Ev (fun k => laws_FnWorlds.j3 k m) true := by
    refine Ev.step (fun k => by simp only [laws_FnWorlds.j3]; rfl) ?_
    exact bind_ev e2 (bind_ev i2 (bind_ev s2 (bind_ev e3 (bind_ev i3 (bind_ev s3 (bind_ev e4 (bind_ev i4 (bind_ev s4 (ite_t (by simp) (ite_t rfl (ite_t (by simp) (ite_t (by simp) (ite_t (by simp) (bind_ev (sameCaches_nil r1 r2) J4))))))))))))))
  have J0 : Ev (fun k => laws_FnWorlds.j0 k m a n t o.2.2 false ws st o.1 o.2.1) true := by
    refine Ev.step (fun k => by simp only [laws_FnWorlds.j0]; rw [if_neg (by simp)]) ?_
    by_cases ho : o.2.2 = true
    · obtain ⟨g1, g2, g3, g4, g5, g6, g7, g8, g9, g10, g11, g12⟩ := v1 ho
      refine ite_t ho ?_
      rw [g11, g12]
      have := worlds_l0 m J3 g1 g2 g3 g4 g5 g6 g7 g8 g9 g10 w2 (five w3) (fun c hc => ob.2 c (by rw [g11]; exact hc)) ws.length 0 (by omega)
      simpa using this
    · exact ite_f ho J3
  refine bind_ev e1 (bind_ev i1 (bind_ev s1 (ite_f (by simp) (bind_ev (sameWorlds_ev o.1 o.2.1 ob.1 ob.2) (ite_t rfl (bind_ev (goodW_ev ws st (by omega)) (bind_ev (spec_world ws st (by omega) (five w3)) ?_)))))))
  have : (goodW ws st != goodW ws st) = false := by simp
  rw [this]
  exact J0
end Go.Proofs.Ytjmgleomljfieaa.Pure
