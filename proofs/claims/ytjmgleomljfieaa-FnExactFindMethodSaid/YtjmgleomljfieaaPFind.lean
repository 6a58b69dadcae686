/- Worlds: what is found upwards, by the program and by the reference; who is below whom. Conditions: none. -/
import Derived.Test.YtjmgleomljfieaaPWorld
import Derived.Test.YtjmgleomljfieaaQx0
import Derived.Test.YtjmgleomljfieaaQx4
import Derived.Test.YtjmgleomljfieaaQx5
import Derived.Test.YtjmgleomljfieaaQx6
import Derived.Test.YtjmgleomljfieaaQx7
set_option linter.unusedVariables false
set_option linter.unusedSimpArgs false
namespace Go.Proofs.Ytjmgleomljfieaa.Pure
open Go.RowKit Go.Proofs.Ytjmgleomljfieaa.Q Go.Proofs.YtjmgleomljfieaaW.PrintWords Go.Proofs.YtjmgleomljfieaaW.PrintLast Go.Proofs.Ytjmgleomljfieaa.Kit Go.Proofs.Ytjmgleomljfieaa.Wf

theorem goodCs_at : ∀ (cs : List S82) (i j : Nat) (c : S82), goodCs i cs = true → cs[j]? = some c → goodC (i + j) c = true
  | [], i, j, c, h, hc => by simp at hc
  | d :: cs, i, 0, c, h, hc => by
    simp only [goodCs, Bool.and_eq_true] at h
    simp at hc; subst hc; exact h.1
  | d :: cs, i, j + 1, c, h, hc => by
    simp only [goodCs, Bool.and_eq_true] at h
    have := goodCs_at cs (i + 1) j c h.2 (by simpa using hc)
    rwa [show i + 1 + j = i + (j + 1) by omega] at this
theorem rdT82_some {ws : List S82} {j : Nat} (h : j < ws.length) : ∃ c, ws[j]? = some c ∧ rd_T82 ws (j : Int) = c :=
  ⟨ws[j], by simp [h], by unfold rd_T82; rw [Int.toNat_natCast, List.getD_eq_getElem?_getD]; simp [h]⟩
structure ClassOk (j : Nat) (c : S82) : Prop where
  lo : -1 ≤ c.f0
  hi : c.f0 < j
  five : c.f1.length = 5
  all : ∀ t ∈ c.f1, 0 ≤ t ∧ t ≤ 1000
theorem classOk {ws : List S82} {st : Int} (hg : goodW ws st = true) {j : Nat} {c : S82} (hc : ws[j]? = some c) : ClassOk j c := by
  simp only [goodW, Bool.and_eq_true] at hg
  have h := goodCs_at ws 0 j c hg.1.1 hc
  simp only [goodC, Bool.and_eq_true, decide_eq_true_eq, Nat.zero_add, List.all_eq_true] at h
  exact ⟨h.1.1.1, h.1.1.2, h.1.2, fun t ht => by have := h.2 t ht; unfold goodT at this; exact (inB_iff _ _ _).1 this⟩
theorem rd_mem {l : List Int} {i : Int} (h0 : 0 ≤ i) (h : i < l.length) : rd l i ∈ l := by
  unfold rd; rw [List.getD_eq_getElem?_getD]
  have : i.toNat < l.length := by omega
  simp [this]

/-- What is found upwards from a class (0 for none), by both alike. -/
theorem find_both (ws : List S82) (st : Int) (hg : goodW ws st = true) (name : Int) (h0 : 0 ≤ name) (h4 : name ≤ 4) : ∀ (m : Nat) (i : Int), i < m → -1 ≤ i → i < ws.length →
    ∃ r : Int, Ev (fun k => spec_l12Find.l0 k i name ws st) r ∧ Ev (fun k => impl_World_find.l0 k i name ws st) r ∧ 0 ≤ r ∧ r ≤ 1000
  | 0, i, hm, h1, h2 => ⟨0, Ev.step (fun k => by simp only [spec_l12Find.l0]; rw [if_neg (by omega)]) (Ev.now _), Ev.step (fun k => by simp only [impl_World_find.l0]; rw [if_neg (by omega), if_pos (by omega)]) (Ev.now _), by omega, by omega⟩
  | m + 1, i, hm, h1, h2 => by
    by_cases hi : i < 0
    · exact ⟨0, Ev.step (fun k => by simp only [spec_l12Find.l0]; rw [if_neg (by omega)]) (Ev.now _), Ev.step (fun k => by simp only [impl_World_find.l0]; rw [if_neg (by omega), if_pos (by omega)]) (Ev.now _), by omega, by omega⟩
    · obtain ⟨j, rfl⟩ := Int.eq_ofNat_of_zero_le (show 0 ≤ i by omega)
      obtain ⟨c, hc, hrd⟩ := rdT82_some (ws := ws) (j := j) (by omega)
      have ok := classOk hg hc
      have hm5 : name < c.f1.length := by rw [ok.five]; omega
      have ht := ok.all _ (rd_mem h0 hm5)
      by_cases hz : rd c.f1 name = 0
      · obtain ⟨r, i1, i2, i3⟩ := find_both ws st hg name h0 h4 m c.f0 (by have := ok.hi; omega) ok.lo (by have := ok.hi; omega)
        refine ⟨r, ?_, ?_, i3⟩
        · refine Ev.step (fun k => by
            simp only [spec_l12Find.l0]
            rw [if_pos (by omega), if_pos (by omega), if_pos (by omega), if_pos h0, hrd, if_pos hm5, if_neg (by omega)]) i1
        · refine Ev.step (fun k => by
            simp only [impl_World_find.l0]
            rw [if_pos (by omega), if_pos (by omega), if_pos (by omega), if_pos h0, hrd, if_pos hm5, if_pos hz]) i2
      · refine ⟨rd c.f1 name, ?_, ?_, ht⟩
        · refine Ev.step (fun k => by
            simp only [spec_l12Find.l0]
            rw [if_pos (by omega), if_pos (by omega), if_pos (by omega), if_pos h0, hrd, if_pos hm5, if_pos (by omega)]) (Ev.now _)
        · refine Ev.step (fun k => by
            simp only [impl_World_find.l0]
            rw [if_pos (by omega), if_pos (by omega), if_pos (by omega), if_pos h0, hrd, if_pos hm5, if_neg hz, if_neg (by omega)]) (Ev.now _)
theorem climb_both (ws : List S82) (st : Int) (hg : goodW ws st = true) (b : Int) (hb : 0 ≤ b) : ∀ (m : Nat) (i : Int), i < m → -1 ≤ i → i < ws.length →
    ∃ r : Bool, Ev (fun k => spec_SubclassOf.l0 k i b ws st) (r, true) ∧ Ev (fun k => impl_SubclassOf.l0 k i b ws st) (r, true)
  | 0, i, hm, h1, h2 => ⟨i == b, Ev.step (fun k => by simp only [spec_SubclassOf.l0]; rw [if_neg (by omega)]) (Ev.now _), Ev.step (fun k => by simp only [impl_SubclassOf.l0]; rw [if_neg (by omega)]) (Ev.now _)⟩
  | m + 1, i, hm, h1, h2 => by
    by_cases hi : i > b
    · obtain ⟨j, rfl⟩ := Int.eq_ofNat_of_zero_le (show 0 ≤ i by omega)
      obtain ⟨c, hc, hrd⟩ := rdT82_some (ws := ws) (j := j) (by omega)
      have ok := classOk hg hc
      obtain ⟨r, i1, i2⟩ := climb_both ws st hg b hb m c.f0 (by have := ok.hi; omega) ok.lo (by have := ok.hi; omega)
      exact ⟨r, Ev.step (fun k => by simp only [spec_SubclassOf.l0]; rw [if_pos hi, if_pos (by omega), if_pos (by omega), hrd]) i1, Ev.step (fun k => by simp only [impl_SubclassOf.l0]; rw [if_pos hi, if_pos (by omega), if_pos (by omega), hrd]) i2⟩
    · exact ⟨i == b, Ev.step (fun k => by simp only [spec_SubclassOf.l0]; rw [if_neg (by omega)]) (Ev.now _), Ev.step (fun k => by simp only [impl_SubclassOf.l0]; rw [if_neg (by omega)]) (Ev.now _)⟩

theorem spec_class (ws : List S82) (st i : Int) : spec_l12Class.f ws st i = some (inB i 0 (ws.length - 1)) := by
  unfold spec_l12Class.f inB
  split
  · congr 1; simp; omega
  · rfl
theorem goodW_len {ws : List S82} {st : Int} (hg : goodW ws st = true) : 1 ≤ ws.length ∧ ws.length ≤ 8 := by
  simp only [goodW, Bool.and_eq_true] at hg
  have := (inB_iff _ _ _).1 hg.1.2
  omega

theorem findMethod_both (ws : List S82) (st a n : Int) (hb : ws.length ≤ 1048576) (hm : ∀ c ∈ ws, c.f1.length ≤ 1048576) :
    ∃ r : Int × Bool, Ev (fun k => spec_FindMethod.f k ws st a n) r ∧ Ev (fun k => impl_FindMethod.f k ws st a n) r := by
  have h1 := spec_world ws st hb hm
  have h2 := impl_world ws st hb
  unfold spec_FindMethod.f impl_FindMethod.f
  simp only [spec_class, impl_in, spec_l12Name.f, spec_in, Option.bind_some]
  rw [w64 (x := (ws.length : Int) - 1) (by omega) (by omega)]
  cases hg : goodW ws st with
  | false =>
    rw [hg] at h1 h2
    exact ⟨(0, false), bind_ev h1 (ite_f (by simp) (Ev.now _)), bind_ev h2 (ite_f (by simp) (Ev.now _))⟩
  | true =>
    rw [hg] at h1 h2
    cases ha : inB a 0 (ws.length - 1) with
    | false => exact ⟨(0, false), bind_ev h1 (ite_t rfl (ite_f (by simp) (Ev.now _))), bind_ev h2 (ite_t rfl (ite_f (by simp) (Ev.now _)))⟩
    | true =>
      cases hn : inB n 0 4 with
      | false => exact ⟨(0, false), bind_ev h1 (ite_t rfl (ite_t rfl (ite_f (by simp) (Ev.now _)))), bind_ev h2 (ite_t rfl (ite_t rfl (ite_f (by simp) (Ev.now _))))⟩
      | true =>
        have ha' := (inB_iff _ _ _).1 ha
        have hn' := (inB_iff _ _ _).1 hn
        obtain ⟨r, i1, i2, _⟩ := find_both ws st hg n hn'.1 hn'.2 ws.length a (by omega) (by omega) (by omega)
        exact ⟨(r, decide (r > 0)), bind_ev h1 (ite_t rfl (ite_t rfl (ite_t rfl (bind_ev i1 (Ev.now _))))), bind_ev h2 (ite_t rfl (ite_t rfl (ite_t rfl (bind_ev i2 (Ev.now _)))))⟩
theorem subclass_both (ws : List S82) (st a b : Int) (hb : ws.length ≤ 1048576) (hm : ∀ c ∈ ws, c.f1.length ≤ 1048576) :
    ∃ r : Bool × Bool, Ev (fun k => spec_SubclassOf.f k ws st a b) r ∧ Ev (fun k => impl_SubclassOf.f k ws st a b) r := by
  have h1 := spec_world ws st hb hm
  have h2 := impl_world ws st hb
  have s0 : Ev (fun k => spec_SubclassOf.j0 k a b true ws st) (false, false) := Ev.step (fun k => by simp only [spec_SubclassOf.j0]; rw [if_pos trivial]) (Ev.now _)
  have i0 : Ev (fun k => impl_SubclassOf.j0 k a b true ws st) (false, false) := Ev.step (fun k => by simp only [impl_SubclassOf.j0]; rw [if_pos trivial]) (Ev.now _)
  unfold spec_SubclassOf.f impl_SubclassOf.f
  simp only [spec_class, impl_in, Option.bind_some]
  rw [w64 (x := (ws.length : Int) - 1) (by omega) (by omega)]
  cases hg : goodW ws st with
  | false =>
    rw [hg] at h1 h2
    exact ⟨(false, false), bind_ev h1 (ite_f (by simp) s0), bind_ev h2 (ite_f (by simp) i0)⟩
  | true =>
    rw [hg] at h1 h2
    cases ha : inB a 0 (ws.length - 1) with
    | false => exact ⟨(false, false), bind_ev h1 (ite_t rfl (ite_f (by simp) s0)), bind_ev h2 (ite_t rfl (ite_f (by simp) i0))⟩
    | true =>
      cases hn : inB b 0 (ws.length - 1) with
      | false => exact ⟨(false, false), bind_ev h1 (ite_t rfl (ite_t rfl (by simpa using s0))), bind_ev h2 (ite_t rfl (ite_t rfl (by simpa using i0)))⟩
      | true =>
        have ha' := (inB_iff _ _ _).1 ha
        have hn' := (inB_iff _ _ _).1 hn
        obtain ⟨r, i1, i2⟩ := climb_both ws st hg b hn'.1 ws.length a (by omega) (by omega) (by omega)
        refine ⟨(r, true), bind_ev h1 (ite_t rfl (ite_t rfl ?_)), bind_ev h2 (ite_t rfl (ite_t rfl ?_))⟩
        · exact Ev.step (fun k => by simp only [spec_SubclassOf.j0]; rw [if_neg (by simp)]) i1
        · exact Ev.step (fun k => by simp only [impl_SubclassOf.j0]; rw [if_neg (by simp)]) i2

theorem FnExactFindMethod (y : S24) (hp : wf_S24 y) (a : Int) (_ : (Lit.int .i64 a).wf = true) (n : Int) (_ : (Lit.int .i64 n).wf = true) : ∃ k, laws_FnExactFindMethod.f k y.f0 y.f1 a n = some true := by
  refine Ev.rounds ?_
  obtain ⟨z, hz, hz2⟩ := szWorld_ok y 1048576 (by omega) (by omega) hp
  unfold laws_FnExactFindMethod.f
  refine bind_ev hz ?_
  by_cases h : z < 0
  · exact ite_t h (Ev.now _)
  · have hl := (hz2 (by omega)).2
    have hl2 := cv_lens y hl
    have ht := toWorld_ev y hl
    obtain ⟨r, h1, h2⟩ := findMethod_both (cv_S24 y).f0 (cv_S24 y).f1 a n hl2.1 hl2.2
    refine ite_f h (bind_ev ht (bind_ev h1 (bind_ev ht (bind_ev h2 (ite_t rfl ?_)))))
    refine Ev.step (fun k => by simp only [laws_FnExactFindMethod.j0]; rw [if_neg (by simp)]) ?_
    exact bind_ev ht (bind_ev (eqWorld_ev _ (cv_bd y hl)) (ite_t rfl (Ev.now _)))

theorem FnExactSubclassOf (y : S24) (hp : wf_S24 y) (a : Int) (_ : (Lit.int .i64 a).wf = true) (n : Int) (_ : (Lit.int .i64 n).wf = true) : ∃ k, laws_FnExactSubclassOf.f k y.f0 y.f1 a n = some true := by
  refine Ev.rounds ?_
  obtain ⟨z, hz, hz2⟩ := szWorld_ok y 1048576 (by omega) (by omega) hp
  unfold laws_FnExactSubclassOf.f
  refine bind_ev hz ?_
  by_cases h : z < 0
  · exact ite_t h (Ev.now _)
  · have hl := (hz2 (by omega)).2
    have hl2 := cv_lens y hl
    have ht := toWorld_ev y hl
    obtain ⟨r, h1, h2⟩ := subclass_both (cv_S24 y).f0 (cv_S24 y).f1 a n hl2.1 hl2.2
    refine ite_f h (bind_ev ht (bind_ev h1 (bind_ev ht (bind_ev h2 (ite_f (by simp) ?_)))))
    refine Ev.step (fun k => by simp only [laws_FnExactSubclassOf.j0]; rw [if_neg (by simp)]) ?_
    exact bind_ev ht (bind_ev (eqWorld_ev _ (cv_bd y hl)) (ite_t rfl (Ev.now _)))
end Go.Proofs.Ytjmgleomljfieaa.Pure
