/- Good trees, good patterns: both tell the same. Conditions: none. -/
import Derived.Test.YtfdbdbihhgabpaaPLay
import Derived.Test.YtfdbdbihhgabpaaDataN
import Derived.Test.YtfdbdbihhgabpaaQx0
import Derived.Test.YtfdbdbihhgabpaaQx2
import Derived.Test.YtfdbdbihhgabpaaQx4
import Derived.Test.YtfdbdbihhgabpaaQx5
set_option linter.unusedVariables false
set_option linter.unusedSimpArgs false
set_option linter.unusedSectionVars false
namespace Go.Proofs.Ytfdbdbihhgabpaa.Pure
open Go.RowKit Go.Proofs.Ytfdbdbihhgabpaa.Q Go.Proofs.YtfdbdbihhgabpaaW.PrintWords Go.Proofs.YtfdbdbihhgabpaaW.PrintLast Go.Proofs.Ytfdbdbihhgabpaa.Kit

def inB (a b c : Int) : Bool := if a ≥ b then decide (a ≤ c) else false
theorem spec_in (a b c : Int) : spec_l1In.f a b c = some (inB a b c) := by unfold spec_l1In.f inB; split <;> rfl
theorem impl_in (a b c : Int) : impl_in.f a b c = some (inB a b c) := by unfold impl_in.f inB; split <;> rfl
theorem inB_iff (a b c : Int) : inB a b c = true ↔ b ≤ a ∧ a ≤ c := by
  unfold inB; split <;> simp <;> omega
def treeB (t : List Int) : Bool := inB t.length 1 40 && decide (sk false 1 t = some [])
theorem treeB_ok {t : List Int} (h : treeB t = true) : TreeOk t := by
  unfold treeB at h
  simp only [Bool.and_eq_true, decide_eq_true_eq] at h
  have h1 := (inB_iff _ _ _).1 h.1
  have hn := sk_no0 t 1 h.2
  exact ⟨by omega, by omega, hn, by rw [← sk_any t 1 hn]; exact h.2⟩
theorem endS_len {L : Nat} {any : Bool} {s : List Int} (hL : L = s.length) (h1 : 1 ≤ L) : (endS L (sk any 1 s) == (L : Int)) = decide (sk any 1 s = some []) := by
  cases h : sk any 1 s with
  | none => simp [endS]; omega
  | some r =>
    have := (sk_len any s 1 r h).1
    cases r with
    | nil => simp [endS]
    | cons x r => simp [endS] at this ⊢; omega
theorem endI_len {L : Nat} {any : Bool} {s : List Int} (hL : L = s.length) (h1 : 1 ≤ L) : (endI L (sk any 1 s) = (L : Int)) ↔ sk any 1 s = some [] := by
  cases h : sk any 1 s with
  | none => simp [endI]
  | some r =>
    have := (sk_len any s 1 r h).1
    cases r with
    | nil => simp [endI]
    | cons x r => simp [endI] at this ⊢; omega
theorem spec_tree (t : List Int) (hb : t.length ≤ 1048576) : Ev (fun k => spec_GoodTree.f k t) (treeB t) := by
  unfold spec_GoodTree.f treeB
  refine bind_ev (const_ev (spec_in _ _ _)) ?_
  by_cases h : inB t.length 1 40 = true
  · have h1 := (inB_iff _ _ _).1 h
    refine ite_t h (bind_ev (spec_end t [] t false (by omega) rfl) (some_ev ?_))
    rw [endS_len rfl (by omega), h]; simp
  · exact ite_f h (some_ev (by simp [h]))
def has (l : List Int) (x : Int) : Bool := l.any fun y => decide (y = x)
theorem index_l0 (x : Int) : ∀ (post pre : List Int), pre.length + post.length ≤ 1048576 →
    ∃ r, Ev (fun k => slices_Index_int_int.l0 k (pre ++ post) x ((pre ++ post).length : Int) (pre.length : Int)) r ∧ decide (r ≥ 0) = has post x
  | [], pre, hb => by
    refine ⟨-1, Ev.step (fun k => by simp only [slices_Index_int_int.l0]; rw [if_neg (by simp)]) (Ev.now _), by simp [has]⟩
  | y :: post, pre, hb => by
    simp at hb
    by_cases h : x = y
    · refine ⟨pre.length, Ev.step (fun k => by
        simp only [slices_Index_int_int.l0]
        rw [if_pos (by simp; omega), if_pos (by omega), if_pos (by simp; omega), rd_at rfl, if_pos h]) (Ev.now _), ?_⟩
      subst h
      simp [has]
    · obtain ⟨r, hr, h2⟩ := index_l0 x post (pre ++ [y]) (by simp; omega)
      refine ⟨r, Ev.step (fun k => by
        simp only [slices_Index_int_int.l0]
        rw [if_pos (by simp; omega), if_pos (by omega), if_pos (by simp; omega), rd_at rfl, if_neg h, w_succ (by omega)]) (by simpa using hr), ?_⟩
      rw [h2]
      simp [has, show ¬ y = x from fun z => h z.symm]
theorem impl_has (l : List Int) (x : Int) (hb : l.length ≤ 1048576) : Ev (fun k => slices_Contains_int_int.f k l x) (has l x) := by
  unfold slices_Contains_int_int.f slices_Index_int_int.f
  obtain ⟨r, hr, h2⟩ := index_l0 x l [] (by simpa using hb)
  exact bind_ev (by simpa using hr) (some_ev h2)
theorem has_no {l : List Int} {x : Int} : has l x = false ↔ ∀ y ∈ l, y ≠ x := by simp [has]
theorem impl_tree (t : List Int) (hb : t.length ≤ 1048576) : Ev (fun k => impl_isTree.f k t) (treeB t) := by
  unfold impl_isTree.f treeB
  refine bind_ev (const_ev (impl_in _ _ _)) ?_
  by_cases h : inB t.length 1 40 = true
  · have h1 := (inB_iff _ _ _).1 h
    refine ite_t h (bind_ev (impl_end t [] t (by omega) rfl) ?_)
    by_cases he : sk true 1 t = some []
    · refine ite_t ((endI_len rfl (by omega)).2 he) (bind_ev (impl_has t 0 hb) (some_ev ?_))
      rw [h]
      cases hh : has t 0 with
      | true =>
        have : ¬ sk false 1 t = some [] := fun hs => by
          rw [has_no.2 (sk_no0 t 1 hs)] at hh; cases hh
        simp [this]
      | false =>
        have : sk false 1 t = some [] := by rw [sk_any t 1 (has_no.1 hh)]; exact he
        simp [this]
    · refine ite_f (fun e => he ((endI_len rfl (by omega)).1 e)) (some_ev ?_)
      have : ¬ sk false 1 t = some [] := fun hs => he (by rw [← sk_any t 1 (sk_no0 t 1 hs)]; exact hs)
      simp [this]
  · exact ite_f h (some_ev (by simp [h]))
def patB (p : S57) : Bool := inB p.f0.length 1 10 && !decide (rd p.f0 0 = 0) && decide (sk true 1 p.f0 = some []) && inB p.f1 1 100
theorem patB_ok {p : S57} (h : patB p = true) : KindsOk p.f0 ∧ 1 ≤ p.f1 ∧ p.f1 ≤ 100 := by
  unfold patB at h
  simp only [Bool.and_eq_true, decide_eq_true_eq, Bool.not_eq_true', decide_eq_false_iff_not] at h
  obtain ⟨⟨⟨h1, h2⟩, h3⟩, h4⟩ := h
  have h1 := (inB_iff _ _ _).1 h1
  have h4 := (inB_iff _ _ _).1 h4
  refine ⟨⟨by omega, by omega, ?_, h3⟩, h4⟩
  cases hk : p.f0 with
  | nil => rw [hk] at h1; simp at h1
  | cons k ks => exact ⟨k, ks, rfl, by rw [hk] at h2; simpa [rd] using h2⟩
theorem spec_pat (p : S57) : Ev (fun k => spec_l9Pattern.f k p.f0 p.f1) (patB p) := by
  unfold spec_l9Pattern.f patB
  refine bind_ev (const_ev (spec_in _ _ _)) ?_
  by_cases h : inB p.f0.length 1 10 = true
  · have h1 := (inB_iff _ _ _).1 h
    refine ite_t h (ite_t (by omega) ?_)
    by_cases h0 : rd p.f0 0 = 0
    · exact ite_t h0 (some_ev (by simp [h0]))
    · refine ite_f h0 (bind_ev (spec_end p.f0 [] p.f0 true (by omega) rfl) ?_)
      have e := endS_len (any := true) (s := p.f0) rfl (by omega)
      by_cases he : sk true 1 p.f0 = some []
      · refine ite_t (by simpa [he] using e) (bind_ev (const_ev (spec_in _ _ _)) (some_ev ?_))
        simp [h, h0, he]
      · refine ite_f (by simpa [he] using e) (some_ev ?_)
        simp [he]
  · exact ite_f h (some_ev (by simp [h]))
theorem impl_pat (p : S57) : Ev (fun k => impl_isPattern.f k p.f0 p.f1) (patB p) := by
  unfold impl_isPattern.f patB
  refine bind_ev (const_ev (impl_in _ _ _)) ?_
  by_cases h : inB p.f0.length 1 10 = true
  · have h1 := (inB_iff _ _ _).1 h
    refine ite_t h (ite_t (by omega) ?_)
    by_cases h0 : rd p.f0 0 = 0
    · exact ite_t h0 (some_ev (by simp [h0]))
    · refine ite_f h0 (bind_ev (impl_end p.f0 [] p.f0 (by omega) rfl) ?_)
      have e := endI_len (any := true) (s := p.f0) rfl (by omega)
      by_cases he : sk true 1 p.f0 = some []
      · refine ite_t (e.2 he) (bind_ev (const_ev (impl_in _ _ _)) (some_ev ?_))
        simp [h, h0, he]
      · refine ite_f (fun x => he (e.1 x)) (some_ev ?_)
        simp [he]
  · exact ite_f h (some_ev (by simp [h]))
def patsB (l : List S57) : Bool := l.all patB && decide ((l.length : Int) ≤ 12)
theorem patsB_ok {l : List S57} (h : patsB l = true) : l.length ≤ 12 ∧ ∀ p ∈ l, KindsOk p.f0 ∧ 1 ≤ p.f1 ∧ p.f1 ≤ 100 := by
  unfold patsB at h
  simp only [Bool.and_eq_true, decide_eq_true_eq, List.all_eq_true] at h
  exact ⟨by omega, fun p hp => patB_ok (h.1 p hp)⟩
theorem spec_pats_l0 (l : List S57) (hb : l.length ≤ 1048576) : ∀ (post pre : List S57), l = pre ++ post →
    Ev (fun k => spec_GoodPatterns.l0 k l l (l.length : Int) (pre.length : Int)) (post.all patB && decide ((l.length : Int) ≤ 12))
  | [], pre, hl => by
    have : l.length = pre.length := by rw [hl]; simp
    refine Ev.step (fun k => by simp only [spec_GoodPatterns.l0]; rw [if_neg (by omega)]) ?_
    exact some_ev (by simp)
  | p :: post, pre, hl => by
    have hn : l.length = pre.length + (post.length + 1) := by rw [hl]; simp
    have hr : rd_T57 l (pre.length : Int) = p := by rw [hl]; exact rdat_T57 rfl
    have ih := spec_pats_l0 l hb post (pre ++ [p]) (by simp [hl])
    refine Ev.step (fun k => by simp only [spec_GoodPatterns.l0]; rw [if_pos (by omega), if_pos (by omega), if_pos (by omega), hr, w_succ (by omega)]) ?_
    refine bind_ev (spec_pat p) ?_
    by_cases h : patB p = true
    · refine ite_t h ?_
      simpa [h] using ih
    · exact ite_f h (some_ev (by simp [h]))
theorem spec_pats (l : List S57) (hb : l.length ≤ 1048576) : Ev (fun k => spec_GoodPatterns.f k l) (patsB l) := by
  unfold spec_GoodPatterns.f patsB
  exact spec_pats_l0 l hb l [] rfl
theorem impl_pats (l : List S57) : Ev (fun k => impl_arePatterns.f k l) (patsB l) := by
  unfold impl_arePatterns.f patsB impl_Pattern_61.f
  by_cases h : (l.length : Int) ≤ 12
  · refine ite_t h (bind_ev (a := l.any fun p => !patB p) (ite_t rfl (anyO_ev fun x hx => ?_)) (some_ev ?_))
    · unfold impl_arePatterns_1.f
      exact bind_ev (impl_pat x) (Ev.now _)
    · rw [← List.not_all_eq_any_not]; simp [h]
  · exact ite_f h (some_ev (by simp [h]))
end Go.Proofs.Ytfdbdbihhgabpaa.Pure
