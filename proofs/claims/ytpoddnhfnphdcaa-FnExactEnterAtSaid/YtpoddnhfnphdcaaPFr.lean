/- Frames: the program and the reference ask the same of a frame. Conditions: none. -/
import Derived.Test.YtpoddnhfnphdcaaDataN
import Derived.Test.YtpoddnhfnphdcaaQx0
import Derived.Test.YtpoddnhfnphdcaaQx1
import Derived.Test.YtpoddnhfnphdcaaQx2
set_option linter.unusedVariables false
set_option linter.unusedSimpArgs false
namespace Go.Proofs.Ytpoddnhfnphdcaa.Pure
open Go.RowKit Go.Proofs.Ytpoddnhfnphdcaa.Q Go.Proofs.YtpoddnhfnphdcaaW.PrintWords Go.Proofs.YtpoddnhfnphdcaaW.PrintLast Go.Proofs.Ytpoddnhfnphdcaa.Kit Go.Proofs.Ytpoddnhfnphdcaa.Wf
def word (x : Int) : Bool := if x ≥ 0 then decide (x ≤ 65535) else false
theorem spec_word (x : Int) : spec_l1Word.f x = some (word x) := by
  unfold spec_l1Word.f spec_l1In.f word; split <;> rfl
theorem impl_word (x : Int) : impl_isWord.f x = some (word x) := by
  unfold impl_isWord.f impl_in.f word; split <;> rfl

theorem words_l0 : ∀ (post pre : List Int) (b : Bool), pre.length + post.length ≤ 1048576 → b = post.all word →
    Ev (fun k => spec_l13Words.l0 k (pre ++ post) ((pre ++ post).length : Int) (pre.length : Int)) b
  | [], pre, b, hb, h => by
    subst h
    refine Ev.step (fun k => by simp only [spec_l13Words.l0]; rw [if_neg (by simp)]) (by simpa using Ev.now _)
  | x :: post, pre, b, hb, h => by
    refine Ev.step (fun k => by
      simp only [spec_l13Words.l0]
      rw [if_pos (by simp; omega), if_pos (by omega), if_pos (by simp; omega), rd_at rfl, spec_word]) ?_
    simp only [Option.bind_some]
    cases hx : word x with
    | true =>
      refine ite_t rfl ?_
      rw [w_succ (by simp at hb; omega)]
      have ih := words_l0 post (pre ++ [x]) b (by simp at hb ⊢; omega) (by simpa [hx] using h)
      simpa using ih
    | false =>
      refine ite_f (by simp) (some_ev ?_)
      rw [h]; simp [hx]
theorem words_ev (l : List Int) (hb : l.length ≤ 1048576) : Ev (fun k => spec_l13Words.f k l) (l.all word) := by
  have h := words_l0 l [] _ (by simpa using hb) rfl
  unfold spec_l13Words.f
  simpa using h

def goodFrame (a b c : List Int) : Bool := decide (a.length = 3) && decide (b.length ≤ 4) && decide (c.length ≤ 100) && a.all word && b.all word && c.all word
theorem spec_frame (a b c : List Int) (ha : a.length ≤ 1048576) (hb : b.length ≤ 1048576) (hc : c.length ≤ 1048576) : Ev (fun k => spec_GoodFrame.f k a b c) (goodFrame a b c) := by
  unfold spec_GoodFrame.f goodFrame
  by_cases h1 : a.length = 3
  · by_cases h2 : b.length ≤ 4
    · by_cases h3 : c.length ≤ 100
      · refine ite_t (by omega) (ite_t (by omega) (ite_t (by omega) ?_))
        simp only [h1, h2, h3, decide_true, Bool.true_and]
        refine bind_ev (words_ev a ha) ?_
        cases h4 : a.all word with
        | false => exact ite_f (by simp) (some_ev (by simp))
        | true =>
          refine ite_t rfl (bind_ev (words_ev b hb) ?_)
          cases h5 : b.all word with
          | false => exact ite_f (by simp) (some_ev (by simp))
          | true => exact ite_t rfl (bind_ev (words_ev c hc) (some_ev (by simp)))
      · exact ite_t (by omega) (ite_t (by omega) (ite_f (by omega) (some_ev (by simp [h3]))))
    · exact ite_t (by omega) (ite_f (by omega) (some_ev (by simp [h2])))
  · exact ite_f (by omega) (some_ev (by simp [h1]))
theorem cnt_frame (l : List Int) : slices_ContainsFunc_int_int.f l 62 = some (!l.all word) := by
  have h : Kit.anyO (fun x : Int => impl_isFrame_1.f x) l = some (!l.all word) := by
    have e : (fun x : Int => impl_isFrame_1.f x) = fun x => some (!word x) := by
      funext x; unfold impl_isFrame_1.f; rw [impl_word]; rfl
    rw [e, Kit.anyO_some]
    congr 1
    rw [List.not_all_eq_any_not]
  unfold slices_ContainsFunc_int_int.f
  simpa using h
theorem impl_frame (a b c : List Int) : impl_isFrame.f a b c = some (goodFrame a b c) := by
  unfold impl_isFrame.f goodFrame
  by_cases h1 : a.length = 3
  · rw [if_pos (by omega)]
    by_cases h2 : b.length ≤ 4
    · rw [if_pos (by omega)]
      by_cases h3 : c.length ≤ 100
      · rw [if_pos (by omega)]
        simp only [cnt_frame, Option.bind_some, h1, h2, h3, decide_true, Bool.true_and]
        cases a.all word <;> cases b.all word <;> cases c.all word <;> rfl
      · rw [if_neg (by omega)]; simp [h3]
    · rw [if_neg (by omega)]; simp [h2]
  · rw [if_neg (by omega)]; simp [h1]
end Go.Proofs.Ytpoddnhfnphdcaa.Pure
