/- Worlds: the program and the reference ask the same of a world; its classes. Conditions: none. -/
import Derived.Test.YtjmgleomljfieaaDataN
import Derived.Test.YtjmgleomljfieaaQx0
import Derived.Test.YtjmgleomljfieaaQx2
set_option linter.unusedVariables false
set_option linter.unusedSimpArgs false
namespace Go.Proofs.Ytjmgleomljfieaa.Pure
open Go.RowKit Go.Proofs.Ytjmgleomljfieaa.Q Go.Proofs.YtjmgleomljfieaaW.PrintWords Go.Proofs.YtjmgleomljfieaaW.PrintLast Go.Proofs.Ytjmgleomljfieaa.Kit

def inB (a b c : Int) : Bool := if a ≥ b then decide (a ≤ c) else false
theorem spec_in (a b c : Int) : spec_l1In.f a b c = some (inB a b c) := by unfold spec_l1In.f inB; split <;> rfl
theorem impl_in (a b c : Int) : impl_in.f a b c = some (inB a b c) := by unfold impl_in.f inB; split <;> rfl
theorem inB_iff (a b c : Int) : inB a b c = true ↔ b ≤ a ∧ a ≤ c := by
  unfold inB; split <;> simp <;> omega
def goodT (t : Int) : Bool := inB t 0 1000
/-- A class at place i is as said. -/
def goodC (i : Nat) (c : S82) : Bool := decide (-1 ≤ c.f0) && decide (c.f0 < i) && decide (c.f1.length = 5) && c.f1.all goodT
def goodCs : Nat → List S82 → Bool
  | _, [] => true
  | i, c :: cs => goodC i c && goodCs (i + 1) cs
def goodW (cs : List S82) (st : Int) : Bool := goodCs 0 cs && inB cs.length 1 8 && inB st 0 1000000

theorem cnt_world (l : List Int) : slices_ContainsFunc_int_int.f l 83 = some (!l.all goodT) := by
  have h : Kit.anyO (fun x : Int => impl_isWorld_1.f x) l = some (!l.all goodT) := by
    have e : (fun x : Int => impl_isWorld_1.f x) = fun x => some (!goodT x) := by
      funext x; unfold impl_isWorld_1.f; rw [impl_in]; rfl
    rw [e, Kit.anyO_some]
    congr 1
    rw [List.not_all_eq_any_not]
  unfold slices_ContainsFunc_int_int.f
  simpa using h

theorem impl_world_l0 (ws : List S82) (st : Int) : ∀ (post pre : List S82), pre.length + post.length ≤ 1048576 →
    Ev (fun k => impl_isWorld.l0 k (pre ++ post) ((pre ++ post).length : Int) (pre.length : Int) ws st) (goodCs pre.length post && inB ws.length 1 8 && inB st 0 1000000)
  | [], pre, hb => by
    refine Ev.step (fun k => by simp only [impl_isWorld.l0]; rw [if_neg (by simp), impl_in, impl_in]) ?_
    simp only [Option.bind_some, goodCs, Bool.true_and]
    cases inB (↑ws.length) 1 8
    · exact ite_f (by simp) (Ev.now _)
    · exact ite_t rfl (Ev.now _)
  | c :: post, pre, hb => by
    simp at hb
    refine Ev.step (fun k => by
      simp only [impl_isWorld.l0]
      rw [if_pos (by simp; omega), if_pos (by omega), if_pos (by simp; omega), rdat_T82 rfl, impl_in, cnt_world]) ?_
    simp only [Option.bind_some, goodCs, goodC]
    rw [w64 (by omega) (by omega)]
    by_cases h1 : inB c.f0 (-1) (↑pre.length - 1) = true
    · have h1' := (inB_iff _ _ _).1 h1
      refine ite_t h1 ?_
      by_cases h2 : c.f1.length = 5
      · refine ite_t (by omega) ?_
        cases h3 : c.f1.all goodT with
        | true =>
          refine ite_f (by simp) ?_
          rw [w_succ (by omega)]
          have ih := impl_world_l0 ws st post (pre ++ [c]) (by simp; omega)
          have e1 : decide (-1 ≤ c.f0) = true := by simp; omega
          have e2 : decide (c.f0 < (pre.length : Int)) = true := by simp; omega
          rw [e1, e2, h2]
          simpa using ih
        | false => exact ite_t (by simp) (some_ev (by simp))
      · exact ite_f (by omega) (some_ev (by simp [h2]))
    · refine ite_f h1 (some_ev ?_)
      have h1' : ¬ (-1 ≤ c.f0 ∧ c.f0 ≤ ↑pre.length - 1) := fun h => h1 ((inB_iff _ _ _).2 h)
      have e : (decide (-1 ≤ c.f0) && decide (c.f0 < (pre.length : Int))) = false := by
        rw [Bool.and_eq_false_iff]; simp; omega
      rw [e]; simp
theorem impl_world (ws : List S82) (st : Int) (hb : ws.length ≤ 1048576) : Ev (fun k => impl_isWorld.f k ws st) (goodW ws st) := by
  have h := impl_world_l0 ws st ws [] (by simpa using hb)
  unfold impl_isWorld.f goodW
  simpa using h

theorem spec_world_l1 (x8 : List S82) (x9 x10 : Int) (ws : List S82) (st : Int) (r : Bool) (hr : Ev (fun k => spec_GoodWorld.l0 k x8 x9 (wrap64 (x10 + 1)) ws st) r) : ∀ (post pre : List Int), pre.length + post.length ≤ 1048576 →
    Ev (fun k => spec_GoodWorld.l1 k x8 x9 x10 (pre ++ post) ((pre ++ post).length : Int) (pre.length : Int) ws st) (post.all goodT && r)
  | [], pre, hb => by
    refine Ev.step (fun k => by simp only [spec_GoodWorld.l1]; rw [if_neg (by simp)]) ?_
    simpa using hr
  | t :: post, pre, hb => by
    simp at hb
    refine Ev.step (fun k => by
      simp only [spec_GoodWorld.l1]
      rw [if_pos (by simp; omega), if_pos (by omega), if_pos (by simp; omega), rd_at rfl, spec_in]) ?_
    simp only [Option.bind_some, List.all_cons]
    cases h : inB t 0 1000 with
    | true =>
      refine ite_t rfl ?_
      rw [w_succ (by omega)]
      have ih := spec_world_l1 x8 x9 x10 ws st r hr post (pre ++ [t]) (by simp; omega)
      simpa [goodT, h] using ih
    | false => exact ite_f (by simp) (some_ev (by simp [goodT, h]))
theorem spec_world_l0 (ws : List S82) (st : Int) : ∀ (post pre : List S82), pre.length + post.length ≤ 1048576 → (∀ c ∈ post, c.f1.length ≤ 1048576) →
    Ev (fun k => spec_GoodWorld.l0 k (pre ++ post) ((pre ++ post).length : Int) (pre.length : Int) ws st) (goodCs pre.length post && inB ws.length 1 8 && inB st 0 1000000)
  | [], pre, hb, hm => by
    refine Ev.step (fun k => by simp only [spec_GoodWorld.l0]; rw [if_neg (by simp), spec_in, spec_in]) ?_
    simp only [Option.bind_some, goodCs, Bool.true_and]
    cases inB (↑ws.length) 1 8
    · exact ite_f (by simp) (Ev.now _)
    · exact ite_t rfl (Ev.now _)
  | c :: post, pre, hb, hm => by
    simp at hb
    have ih := spec_world_l0 ws st post (pre ++ [c]) (by simp; omega) (fun y hy => hm y (by simp [hy]))
    have no : ∀ (b : Bool), b = false → Ev (fun k => spec_GoodWorld.j1 k (pre ++ c :: post) ((pre ++ c :: post).length : Int) (pre.length : Int) true ws st c.f0 c.f1) b := fun b hb => by
      subst hb
      exact Ev.step (fun k => by simp only [spec_GoodWorld.j1]; rw [if_pos trivial]) (Ev.now _)
    refine Ev.step (fun k => by
      simp only [spec_GoodWorld.l0]
      rw [if_pos (by simp; omega), if_pos (by omega), if_pos (by simp; omega), rdat_T82 rfl]) ?_
    simp only [goodCs, goodC]
    by_cases h1 : c.f0 < -1
    · exact ite_t h1 (no _ (by rw [show decide (-1 ≤ c.f0) = false by simp; omega]; simp))
    · refine ite_f h1 ?_
      by_cases h2 : c.f0 ≥ (pre.length : Int)
      · exact ite_t h2 (no _ (by rw [show decide (c.f0 < (pre.length : Int)) = false by simp; omega]; simp))
      · refine ite_f h2 ?_
        by_cases h3 : c.f1.length = 5
        · rw [show (((c.f1.length : Int)) != 5) = false by rw [h3]; rfl]
          refine Ev.step (fun k => by simp only [spec_GoodWorld.j1]; rw [if_neg (by simp)]) ?_
          have e1 : decide (-1 ≤ c.f0) = true := by simp; omega
          have e2 : decide (c.f0 < (pre.length : Int)) = true := by simp; omega
          rw [e1, e2, h3]
          have := spec_world_l1 (pre ++ c :: post) ((pre ++ c :: post).length : Int) (pre.length : Int) ws st _ (by rw [w_succ (by omega)]; simpa using ih) c.f1 [] (by simp; omega)
          simpa [h3, Bool.and_assoc] using this
        · rw [show (((c.f1.length : Int)) != 5) = true by simp; omega]
          exact no _ (by simp [h3])
theorem spec_world (ws : List S82) (st : Int) (hb : ws.length ≤ 1048576) (hm : ∀ c ∈ ws, c.f1.length ≤ 1048576) : Ev (fun k => spec_GoodWorld.f k ws st) (goodW ws st) := by
  have h := spec_world_l0 ws st ws [] (by simpa using hb) hm
  unfold spec_GoodWorld.f goodW
  simpa using h

theorem goodCs_at : ∀ (cs : List S82) (i j : Nat) (c : S82), goodCs i cs = true → cs[j]? = some c → goodC (i + j) c = true
  | [], i, j, c, h, hc => by simp at hc
  | d :: cs, i, 0, c, h, hc => by
    simp only [goodCs, Bool.and_eq_true] at h
    simp at hc; subst hc; exact h.1
  | d :: cs, i, j + 1, c, h, hc => by
    simp only [goodCs, Bool.and_eq_true] at h
    have := goodCs_at cs (i + 1) j c h.2 (by simpa using hc)
    rwa [show i + 1 + j = i + (j + 1) by omega] at this
theorem rdT82_some {ws : List S82} {j : Nat} (h : j < ws.length) : ∃ c, ws[j]? = some c ∧ rd_T82 ws (j : Int) = c :=
  ⟨ws[j], by simp [h], by unfold rd_T82; rw [Int.toNat_natCast, List.getD_eq_getElem?_getD]; simp [h]⟩
structure ClassOk (j : Nat) (c : S82) : Prop where
  lo : -1 ≤ c.f0
  hi : c.f0 < j
  five : c.f1.length = 5
  all : ∀ t ∈ c.f1, 0 ≤ t ∧ t ≤ 1000
theorem classOk {ws : List S82} {st : Int} (hg : goodW ws st = true) {j : Nat} {c : S82} (hc : ws[j]? = some c) : ClassOk j c := by
  simp only [goodW, Bool.and_eq_true] at hg
  have h := goodCs_at ws 0 j c hg.1.1 hc
  simp only [goodC, Bool.and_eq_true, decide_eq_true_eq, Nat.zero_add, List.all_eq_true] at h
  exact ⟨h.1.1.1, h.1.1.2, h.1.2, fun t ht => by have := h.2 t ht; unfold goodT at this; exact (inB_iff _ _ _).1 this⟩
theorem spec_class (ws : List S82) (st i : Int) : spec_l12Class.f ws st i = some (inB i 0 (ws.length - 1)) := by
  unfold spec_l12Class.f inB
  split
  · congr 1; simp; omega
  · rfl
theorem goodW_len {ws : List S82} {st : Int} (hg : goodW ws st = true) : 1 ≤ ws.length ∧ ws.length ≤ 8 := by
  simp only [goodW, Bool.and_eq_true] at hg
  have := (inB_iff _ _ _).1 hg.1.2
  omega

end Go.Proofs.Ytjmgleomljfieaa.Pure
