/- The pure statement of GoodFrame: the program and the reference ask the same of a frame. Conditions: none. -/
import Derived.Test.YtpoddnhfnphdcaaKit
import Derived.Test.YtpoddnhfnphdcaaPInts
import Derived.Test.YtpoddnhfnphdcaaWf
import Derived.Test.YtpoddnhfnphdcaaQx0
import Derived.Test.YtpoddnhfnphdcaaQx1
import Derived.Test.YtpoddnhfnphdcaaQx2
import Derived.Test.YtpoddnhfnphdcaaQx3
namespace Go.Proofs.Ytpoddnhfnphdcaa.Pure
open Go.RowKit Go.Proofs.Ytpoddnhfnphdcaa.Q Go.Proofs.YtpoddnhfnphdcaaW.PrintWords Go.Proofs.YtpoddnhfnphdcaaW.PrintLast Go.Proofs.Ytpoddnhfnphdcaa.Kit Go.Proofs.Ytpoddnhfnphdcaa.Wf

theorem szIntS_some (l : List Int) (n : Int) (h0 : 0 ≤ n) (h : n ≤ 1048576) (hm : l.length ≤ maxLen) : ∃ r, laws_szIntS.f l n = some r ∧ (0 ≤ r → r ≤ 1048576 ∧ l.length ≤ 1048576) := by
  unfold maxLen at hm
  unfold laws_szIntS.f
  rw [w64 (by omega) (by omega)]
  by_cases h : n - (l.length : Int) < 0
  · rw [if_pos h]; exact ⟨_, rfl, by omega⟩
  · rw [if_neg h]; exact ⟨_, rfl, by omega⟩

theorem szFrame_some (y : S24) (hp : wf_S24 y) : ∃ r, laws_szFrame.f y.f0 y.f1 y.f2 1048576 = some r ∧ (0 ≤ r → y.f0.length ≤ 1048576 ∧ y.f1.length ≤ 1048576 ∧ y.f2.length ≤ 1048576) := by
  obtain ⟨⟨h0, _⟩, ⟨h1, _⟩, ⟨h2, _⟩⟩ := hp
  unfold laws_szFrame.f
  obtain ⟨a, ha, ha2⟩ := szIntS_some y.f0 1048576 (by omega) (by omega) h0
  rw [ha, Option.bind_some]
  by_cases c : a < 0
  · rw [if_pos c]; exact ⟨_, rfl, by omega⟩
  rw [if_neg c]
  obtain ⟨b, hb, hb2⟩ := szIntS_some y.f1 a (by omega) (by omega) h1
  rw [hb, Option.bind_some]
  by_cases d : b < 0
  · rw [if_pos d]; exact ⟨_, rfl, by omega⟩
  rw [if_neg d]
  obtain ⟨e, he, he2⟩ := szIntS_some y.f2 b (by omega) (by omega) h2
  rw [he, Option.bind_some]
  by_cases f : e < 0
  · rw [if_pos f]; exact ⟨_, rfl, by omega⟩
  rw [if_neg f]
  exact ⟨_, rfl, fun _ => ⟨(ha2 (by omega)).2, (hb2 (by omega)).2, (he2 (by omega)).2⟩⟩

def word (x : Int) : Bool := if x ≥ 0 then decide (x ≤ 65535) else false
theorem spec_word (x : Int) : spec_l1Word.f x = some (word x) := by
  unfold spec_l1Word.f spec_l1In.f word; split <;> rfl
theorem impl_word (x : Int) : impl_isWord.f x = some (word x) := by
  unfold impl_isWord.f impl_in.f word; split <;> rfl

theorem words_l0 : ∀ (post pre : List Int) (b : Bool), pre.length + post.length ≤ 1048576 → b = post.all word →
    Ev (fun k => spec_l13Words.l0 k (pre ++ post) ((pre ++ post).length : Int) (pre.length : Int)) b
  | [], pre, b, hb, h => by
    subst h
    refine Ev.step (fun k => by simp only [spec_l13Words.l0]; rw [if_neg (by simp)]) (by simpa using Ev.now _)
  | x :: post, pre, b, hb, h => by
    refine Ev.step (fun k => by
      simp only [spec_l13Words.l0]
      rw [if_pos (by simp; omega), if_pos (by omega), if_pos (by simp; omega), rd_at rfl, spec_word]) ?_
    simp only [Option.bind_some]
    cases hx : word x with
    | true =>
      refine ite_t rfl ?_
      rw [w_succ (by simp at hb; omega)]
      have ih := words_l0 post (pre ++ [x]) b (by simp at hb ⊢; omega) (by simpa [hx] using h)
      simpa using ih
    | false =>
      refine ite_f (by simp) (some_ev ?_)
      rw [h]; simp [hx]
theorem words_ev (l : List Int) (hb : l.length ≤ 1048576) : Ev (fun k => spec_l13Words.f k l) (l.all word) := by
  have h := words_l0 l [] _ (by simpa using hb) rfl
  unfold spec_l13Words.f
  simpa using h

def goodFrame (a b c : List Int) : Bool := decide (a.length = 3) && decide (b.length ≤ 4) && decide (c.length ≤ 100) && a.all word && b.all word && c.all word
theorem spec_frame (a b c : List Int) (ha : a.length ≤ 1048576) (hb : b.length ≤ 1048576) (hc : c.length ≤ 1048576) : Ev (fun k => spec_GoodFrame.f k a b c) (goodFrame a b c) := by
  unfold spec_GoodFrame.f goodFrame
  by_cases h1 : a.length = 3
  · by_cases h2 : b.length ≤ 4
    · by_cases h3 : c.length ≤ 100
      · refine ite_t (by omega) (ite_t (by omega) (ite_t (by omega) ?_))
        simp only [h1, h2, h3, decide_true, Bool.true_and]
        refine bind_ev (words_ev a ha) ?_
        cases h4 : a.all word with
        | false => exact ite_f (by simp) (some_ev (by simp))
        | true =>
          refine ite_t rfl (bind_ev (words_ev b hb) ?_)
          cases h5 : b.all word with
          | false => exact ite_f (by simp) (some_ev (by simp))
          | true => exact ite_t rfl (bind_ev (words_ev c hc) (some_ev (by simp)))
      · exact ite_t (by omega) (ite_t (by omega) (ite_f (by omega) (some_ev (by simp [h3]))))
    · exact ite_t (by omega) (ite_f (by omega) (some_ev (by simp [h2])))
  · exact ite_f (by omega) (some_ev (by simp [h1]))
theorem cnt_frame (l : List Int) : slices_ContainsFunc_int_int.f l 62 = some (!l.all word) := by
  have h : Kit.anyO (fun x : Int => impl_isFrame_1.f x) l = some (!l.all word) := by
    have e : (fun x : Int => impl_isFrame_1.f x) = fun x => some (!word x) := by
      funext x; unfold impl_isFrame_1.f; rw [impl_word]; rfl
    rw [e, Kit.anyO_some]
    congr 1
    rw [List.not_all_eq_any_not]
  unfold slices_ContainsFunc_int_int.f
  simpa using h
theorem impl_frame (a b c : List Int) : impl_isFrame.f a b c = some (goodFrame a b c) := by
  unfold impl_isFrame.f goodFrame
  by_cases h1 : a.length = 3
  · rw [if_pos (by omega)]
    by_cases h2 : b.length ≤ 4
    · rw [if_pos (by omega)]
      by_cases h3 : c.length ≤ 100
      · rw [if_pos (by omega)]
        simp only [cnt_frame, Option.bind_some, h1, h2, h3, decide_true, Bool.true_and]
        cases a.all word <;> cases b.all word <;> cases c.all word <;> rfl
      · rw [if_neg (by omega)]; simp [h3]
    · rw [if_neg (by omega)]; simp [h2]
  · rw [if_neg (by omega)]; simp [h1]

theorem toFrame_ev (y : S24) (h : y.f0.length ≤ 1048576 ∧ y.f1.length ≤ 1048576 ∧ y.f2.length ≤ 1048576) : Ev (fun k => laws_toFrame.f k y.f0 y.f1 y.f2) (y.f0, y.f1, y.f2) := by
  unfold laws_toFrame.f
  exact bind_ev (toIntS_ev _ h.1) (bind_ev (toIntS_ev _ h.2.1) (bind_ev (toIntS_ev _ h.2.2) (Ev.now _)))
theorem eqFrame_ev (a b c : List Int) (ha : a.length ≤ 1048576) (hb : b.length ≤ 1048576) (hc : c.length ≤ 1048576) : Ev (fun k => laws_eqFrame.f k a b c a b c) true := by
  unfold laws_eqFrame.f
  exact bind_ev (eqIntS_ev _ (by omega)) (ite_t rfl (bind_ev (eqIntS_ev _ (by omega)) (ite_t rfl (bind_ev (eqIntS_ev _ (by omega)) (ite_t rfl (Ev.now _))))))

theorem FnExactGoodFrame (y : S24) (hp : wf_S24 y) : ∃ k, laws_FnExactGoodFrame.f k y.f0 y.f1 y.f2 = some true := by
  refine Ev.rounds ?_
  obtain ⟨z, hz, hz2⟩ := szFrame_some y hp
  unfold laws_FnExactGoodFrame.f
  rw [hz]
  simp only [Option.bind_some]
  by_cases h : z < 0
  · exact ite_t h (Ev.now _)
  · have hl := hz2 (by omega)
    refine ite_f h ?_
    have ht := toFrame_ev y hl
    refine bind_ev ht (bind_ev (spec_frame _ _ _ hl.1 hl.2.1 hl.2.2) (bind_ev ht ?_))
    refine bind_ev (a := goodFrame y.f0 y.f1 y.f2) (const_ev (by unfold impl_GoodFrame.f; rw [impl_frame]; rfl)) ?_
    refine ite_f (by simp) (bind_ev ht (bind_ev (eqFrame_ev _ _ _ hl.1 hl.2.1 hl.2.2) (ite_t rfl (Ev.now _))))

end Go.Proofs.Ytpoddnhfnphdcaa.Pure
