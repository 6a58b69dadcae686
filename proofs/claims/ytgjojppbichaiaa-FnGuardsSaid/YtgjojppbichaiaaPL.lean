/- Lines: the program and the reference ask the same of a line. Conditions: none. -/
import Derived.Test.YtgjojppbichaiaaWf
import Derived.Test.YtgjojppbichaiaaQx0
import Derived.Test.YtgjojppbichaiaaQx1
import Derived.Test.YtgjojppbichaiaaQx2
set_option linter.unusedVariables false
set_option linter.unusedSimpArgs false
namespace Go.Proofs.Ytgjojppbichaiaa.Pure
open Go.RowKit Go.Proofs.Ytgjojppbichaiaa.Q Go.Proofs.YtgjojppbichaiaaW.PrintWords Go.Proofs.YtgjojppbichaiaaW.PrintLast Go.Proofs.Ytgjojppbichaiaa.Kit Go.Proofs.Ytgjojppbichaiaa.Wf

theorem rdl_T86 {pre : List S86} {x : S86} {post : List S86} {n : Nat} (h : n = pre.length) : rd_T86 (pre ++ x :: post) (n : Int) = x := by
  unfold rd_T86; rw [Int.toNat_natCast]; exact getD_at h
theorem rdl_T63 {pre : List S63} {x : S63} {post : List S63} {n : Nat} (h : n = pre.length) : rd_T63 (pre ++ x :: post) (n : Int) = x := by
  unfold rd_T63; rw [Int.toNat_natCast]; exact getD_at h
def inB (a b c : Int) : Bool := if a ≥ b then decide (a ≤ c) else false
theorem spec_in (a b c : Int) : spec_l1In.f a b c = some (inB a b c) := by unfold spec_l1In.f inB; split <;> rfl
theorem impl_in (a b c : Int) : impl_in.f a b c = some (inB a b c) := by unfold impl_in.f inB; split <;> rfl
theorem inB_iff (a b c : Int) : inB a b c = true ↔ b ≤ a ∧ a ≤ c := by
  unfold inB; split <;> simp <;> omega
theorem inB0 (x : Int) : inB x 0 0 = (x == 0) := by
  by_cases h : x = 0
  · subst h; rfl
  · rw [show (x == 0) = false by simpa using h]
    cases e : inB x 0 0
    · rfl
    · have := (inB_iff _ _ _).1 e; omega
/-- A step of a line of n steps is as said. -/
def stepOk (n : Int) (s : S86) : Bool :=
  if s.f0 = 1 then inB s.f1 0 99 && (s.f2 == 0) else if s.f0 = 2 then inB s.f1 1 9 && (s.f2 == 0)
  else if s.f0 = 3 ∨ s.f0 = 5 then inB s.f1 0 39 && (s.f2 == 0) else if s.f0 = 4 then (s.f1 == 0) && inB s.f2 0 n
  else if s.f0 = 6 then inB s.f1 0 39 && inB s.f2 0 9 else false
def guardOk (n : Int) (g : S63) : Bool := inB g.f0 0 n && inB g.f1 g.f0 n && inB g.f2 0 9 && inB g.f3 0 n
def goodL (ss : List S86) (gs : List S63) : Bool := ss.all (stepOk ss.length) && gs.all (guardOk ss.length) && decide ((ss.length : Int) ≤ 120) && decide ((gs.length : Int) ≤ 20)

theorem and_ev {f : Nat → Option Bool} {a b : Bool} (h : Ev f b) : Ev (fun k => (some a).bind fun t => if t = true then f k else some false) (a && b) := by
  simp only [Option.bind_some]
  cases a
  · exact ite_f (by simp) (some_ev rfl)
  · exact ite_t rfl (by simpa using h)
theorem ok1 {n : Int} {s : S86} (h1 : s.f0 = 1) : stepOk n s = (inB s.f1 0 99 && (s.f2 == 0)) := by unfold stepOk; rw [if_pos h1]
theorem ok2 {n : Int} {s : S86} (h2 : s.f0 = 2) : stepOk n s = (inB s.f1 1 9 && (s.f2 == 0)) := by unfold stepOk; rw [if_neg (by omega), if_pos h2]
theorem ok3 {n : Int} {s : S86} (h3 : s.f0 = 3 ∨ s.f0 = 5) : stepOk n s = (inB s.f1 0 39 && (s.f2 == 0)) := by unfold stepOk; rw [if_neg (by omega), if_neg (by omega), if_pos h3]
theorem ok4 {n : Int} {s : S86} (h4 : s.f0 = 4) : stepOk n s = ((s.f1 == 0) && inB s.f2 0 n) := by unfold stepOk; rw [if_neg (by omega), if_neg (by omega), if_neg (by omega), if_pos h4]
theorem ok6 {n : Int} {s : S86} (h6 : s.f0 = 6) : stepOk n s = (inB s.f1 0 39 && inB s.f2 0 9) := by unfold stepOk; rw [if_neg (by omega), if_neg (by omega), if_neg (by omega), if_neg (by omega), if_pos h6]
theorem ok0 {n : Int} {s : S86} (h : ¬ (s.f0 = 1 ∨ s.f0 = 2 ∨ s.f0 = 3 ∨ s.f0 = 5 ∨ s.f0 = 4 ∨ s.f0 = 6)) : stepOk n s = false := by unfold stepOk; rw [if_neg (by omega), if_neg (by omega), if_neg (by omega), if_neg (by omega), if_neg (by omega)]
theorem spec_step (n : Int) (s : S86) : Ev (fun k => spec_l16Step.f k s.f0 s.f1 s.f2 n) (stepOk n s) := by
  unfold spec_l16Step.f
  rw [spec_in, spec_in]
  by_cases h1 : s.f0 = 1
  · rw [ok1 h1]
    exact ite_t h1 (and_ev (Ev.now _))
  · refine ite_f h1 ?_
    by_cases h2 : s.f0 = 2
    · rw [ok2 h2]
      exact ite_t h2 (and_ev (Ev.now _))
    · refine ite_f h2 ?_
      by_cases h3 : s.f0 = 3
      · rw [ok3 (.inl h3)]
        refine ite_t h3 (Ev.step (fun k => by simp only [spec_l16Step.j0]; rw [if_pos (by simp [h3]), spec_in]) ?_)
        exact and_ev (Ev.now _)
      · refine ite_f h3 ?_
        by_cases h5 : s.f0 = 5
        · rw [ok3 (.inr h5)]
          refine Ev.step (fun k => by simp only [spec_l16Step.j0]; rw [if_pos (by simp [h5]), spec_in]) ?_
          exact and_ev (Ev.now _)
        · refine Ev.step (fun k => by simp only [spec_l16Step.j0]; rw [if_neg (by simp [h5]), spec_in, spec_in, spec_in]) ?_
          by_cases h4 : s.f0 = 4
          · rw [ok4 h4]
            refine ite_t h4 ?_
            by_cases h6 : s.f1 = 0
            · exact ite_t h6 (some_ev (by simp [h6]))
            · exact ite_f h6 (some_ev (by simp [h6]))
          · refine ite_f h4 ?_
            by_cases h6 : s.f0 = 6
            · rw [ok6 h6]
              exact ite_t h6 (and_ev (some_ev rfl))
            · rw [ok0 (by omega)]
              exact ite_f h6 (Ev.now _)
theorem spec_l1 (n : Int) (ss : List S86) (gs : List S63) : ∀ (post pre : List S63), pre.length + post.length ≤ 1048576 →
    Ev (fun k => spec_GoodLined.l1 k n (pre ++ post) ((pre ++ post).length : Int) (pre.length : Int) ss gs) (post.all (guardOk n) && (decide (n ≤ 120) && decide ((gs.length : Int) ≤ 20)))
  | [], pre, hb => by
    refine Ev.step (fun k => by simp only [spec_GoodLined.l1]; rw [if_neg (by simp)]) ?_
    by_cases h : n ≤ 120
    · exact ite_t h (some_ev (by simp [h]))
    · exact ite_f h (some_ev (by simp [h]))
  | g :: post, pre, hb => by
    simp at hb
    refine Ev.step (fun k => by
      simp only [spec_GoodLined.l1]
      rw [if_pos (by simp; omega), if_pos (by omega), if_pos (by simp; omega), rdl_T63 rfl, w_succ (by omega), spec_in, spec_in, spec_in, spec_in]) ?_
    have ih := spec_l1 n ss gs post (pre ++ [g]) (by simp; omega)
    have e : ((g :: post).all (guardOk n) && (decide (n ≤ 120) && decide ((gs.length : Int) ≤ 20))) = (inB g.f0 0 n && (inB g.f1 g.f0 n && (inB g.f2 0 9 && (inB g.f3 0 n && (post.all (guardOk n) && (decide (n ≤ 120) && decide ((gs.length : Int) ≤ 20))))))) := by
      simp [guardOk, Bool.and_assoc]
    rw [e]
    exact and_ev (and_ev (and_ev (and_ev (by simpa using ih))))
theorem spec_l0 (n : Int) (ss : List S86) (gs : List S63) (hg : gs.length ≤ 1048576) : ∀ (post pre : List S86), pre.length + post.length ≤ 1048576 →
    Ev (fun k => spec_GoodLined.l0 k n (pre ++ post) ((pre ++ post).length : Int) (pre.length : Int) ss gs) (post.all (stepOk n) && (gs.all (guardOk n) && (decide (n ≤ 120) && decide ((gs.length : Int) ≤ 20))))
  | [], pre, hb => by
    refine Ev.step (fun k => by simp only [spec_GoodLined.l0]; rw [if_neg (by simp)]) ?_
    simpa using spec_l1 n ss gs gs [] (by simpa using hg)
  | s :: post, pre, hb => by
    simp at hb
    refine Ev.step (fun k => by
      simp only [spec_GoodLined.l0]
      rw [if_pos (by simp; omega), if_pos (by omega), if_pos (by simp; omega), rdl_T86 rfl, w_succ (by omega)]) ?_
    refine bind_ev (spec_step n s) ?_
    have ih := spec_l0 n ss gs hg post (pre ++ [s]) (by simp; omega)
    cases h : stepOk n s
    · exact ite_f (by simp) (some_ev (by simp [h]))
    · exact ite_t rfl (by simpa [h] using ih)
theorem spec_good (ss : List S86) (gs : List S63) (hs : ss.length ≤ 1048576) (hg : gs.length ≤ 1048576) : Ev (fun k => spec_GoodLined.f k ss gs) (goodL ss gs) := by
  unfold spec_GoodLined.f goodL
  simpa [Bool.and_assoc] using spec_l0 ss.length ss gs hg ss [] (by simpa using hs)

theorem cnt_impl (n : Int) (gs : List S63) : impl_Guard_80_81.f gs n = some (!gs.all (guardOk n)) := by
  unfold impl_Guard_80_81.f
  have e : (fun x : S63 => impl_isLined_1.f x.f0 x.f1 x.f2 x.f3 n) = fun x => some (!guardOk n x) := by
    funext x
    unfold impl_isLined_1.f guardOk
    rw [impl_in, impl_in, impl_in, impl_in]
    simp only [Option.bind_some]
    cases inB x.f0 0 n <;> cases inB x.f1 x.f0 n <;> cases inB x.f2 0 9 <;> cases inB x.f3 0 n <;> rfl
  rw [e, Kit.anyO_some]
  congr 1
  rw [List.not_all_eq_any_not]
theorem impl_l0 (n : Int) (ss : List S86) (gs : List S63) : ∀ (post pre : List S86), pre.length + post.length ≤ 1048576 →
    Ev (fun k => impl_isLined.l0 k (pre ++ post) ((pre ++ post).length : Int) (pre.length : Int) ss gs n) (post.all (stepOk n) && gs.all (guardOk n))
  | [], pre, hb => by
    refine Ev.step (fun k => by simp only [impl_isLined.l0]; rw [if_neg (by simp), cnt_impl]) ?_
    exact some_ev (by simp)
  | s :: post, pre, hb => by
    simp at hb
    refine Ev.step (fun k => by
      simp only [impl_isLined.l0]
      rw [if_pos (by simp; omega), if_pos (by omega), if_pos (by simp; omega), rdl_T86 rfl]) ?_
    have ih : Ev (fun k => impl_isLined.l0 k (pre ++ s :: post) ((pre ++ s :: post).length : Int) (wrap64 ((pre.length : Int) + 1)) ss gs n) (post.all (stepOk n) && gs.all (guardOk n)) := by
      rw [w_succ (by omega)]
      simpa using impl_l0 n ss gs post (pre ++ [s]) (by simp; omega)
    have j3 : ∀ (a b c : Int), stepOk n s = (inB s.f1 a b && inB s.f2 0 c) → Ev (fun k => impl_isLined.j3 k a b c (pre ++ s :: post) ((pre ++ s :: post).length : Int) (pre.length : Int) ss gs n s.f0 s.f1 s.f2) ((s :: post).all (stepOk n) && gs.all (guardOk n)) := by
      intro a b c e
      refine Ev.step (fun k => by simp only [impl_isLined.j3]; rw [impl_in, impl_in]) ?_
      rw [List.all_cons, e, Bool.and_assoc, Bool.and_assoc]
      exact and_ev (and_ev ih)
    have j2 : ∀ (b : Bool), s.f0 ≠ 1 → s.f0 ≠ 2 → b = decide (s.f0 = 3 ∨ s.f0 = 5) → Ev (fun k => impl_isLined.j2 k 0 39 0 (pre ++ s :: post) ((pre ++ s :: post).length : Int) (pre.length : Int) s.f0 b ss gs n s.f0 s.f1 s.f2) ((s :: post).all (stepOk n) && gs.all (guardOk n)) := by
      intro b h1 h2 hb2
      by_cases h3 : s.f0 = 3 ∨ s.f0 = 5
      · refine Ev.step (fun k => by simp only [impl_isLined.j2]; rw [if_pos (by simp [hb2, h3])]) ?_
        exact j3 0 39 0 (by rw [ok3 h3, inB0])
      · refine Ev.step (fun k => by simp only [impl_isLined.j2]; rw [if_neg (by simp [hb2]; omega)]) ?_
        by_cases h4 : s.f0 = 4
        · exact ite_t h4 (j3 0 0 n (by rw [ok4 h4, inB0]))
        · refine ite_f h4 ?_
          by_cases h6 : s.f0 = 6
          · exact ite_t h6 (j3 0 39 9 (by rw [ok6 h6]))
          · exact ite_f h6 (some_ev (by rw [List.all_cons, ok0 (by omega)]; simp))
    by_cases h1 : s.f0 = 1
    · exact ite_t h1 (j3 0 99 0 (by rw [ok1 h1, inB0]))
    · refine ite_f h1 ?_
      by_cases h2 : s.f0 = 2
      · exact ite_t h2 (j3 1 9 0 (by rw [ok2 h2, inB0]))
      · refine ite_f h2 ?_
        by_cases h3 : s.f0 = 3
        · exact ite_t h3 (j2 _ h1 h2 (by simp [h3]))
        · exact ite_f h3 (j2 _ h1 h2 (by simp only [h3, false_or]; rfl))
theorem impl_good (ss : List S86) (gs : List S63) (hs : ss.length ≤ 1048576) (hg : gs.length ≤ 1048576) : Ev (fun k => impl_isLined.f k ss gs) (goodL ss gs) := by
  unfold impl_isLined.f goodL
  have no : Ev (fun k => impl_isLined.j0 k true ss gs (ss.length : Int)) false := Ev.step (fun k => by simp only [impl_isLined.j0]; rw [if_pos trivial]) (Ev.now _)
  by_cases h1 : (ss.length : Int) > 120
  · refine ite_t h1 ?_
    rw [show decide ((ss.length : Int) ≤ 120) = false from decide_eq_false (by omega)]
    simpa using no
  · refine ite_f h1 ?_
    rw [show decide ((ss.length : Int) ≤ 120) = true from decide_eq_true (by omega)]
    by_cases h2 : (gs.length : Int) > 20
    · rw [show decide ((gs.length : Int) > 20) = true from decide_eq_true h2, show decide ((gs.length : Int) ≤ 20) = false from decide_eq_false (by omega)]
      simpa using no
    · rw [show decide ((gs.length : Int) > 20) = false from decide_eq_false h2, show decide ((gs.length : Int) ≤ 20) = true from decide_eq_true (by omega)]
      refine Ev.step (fun k => by simp only [impl_isLined.j0]; rw [if_neg (by simp)]) ?_
      simpa using impl_l0 ss.length ss gs ss [] (by simpa using hs)
end Go.Proofs.Ytgjojppbichaiaa.Pure
