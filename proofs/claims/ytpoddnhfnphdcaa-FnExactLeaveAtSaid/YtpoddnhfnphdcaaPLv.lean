/- LeaveAt: the program and the reference make the same frame out of the places. Conditions: none. -/
import Derived.Test.YtpoddnhfnphdcaaDataN
import Derived.Test.YtpoddnhfnphdcaaQx0
import Derived.Test.YtpoddnhfnphdcaaQx1
import Derived.Test.YtpoddnhfnphdcaaQx2
import Derived.Test.YtpoddnhfnphdcaaQx3
import Derived.Test.YtpoddnhfnphdcaaQx4
import Derived.Test.YtpoddnhfnphdcaaQx5
set_option linter.unusedVariables false
set_option linter.unusedSimpArgs false
namespace Go.Proofs.Ytpoddnhfnphdcaa.Pure
open Go.RowKit Go.Proofs.Ytpoddnhfnphdcaa.Q Go.Proofs.YtpoddnhfnphdcaaW.PrintWords Go.Proofs.YtpoddnhfnphdcaaW.PrintLast Go.Proofs.Ytpoddnhfnphdcaa.Kit Go.Proofs.Ytpoddnhfnphdcaa.Wf
def inB (a b c : Int) : Bool := if a ≥ b then decide (a ≤ c) else false
theorem spec_in (a b c : Int) : spec_l1In.f a b c = some (inB a b c) := by unfold spec_l1In.f inB; split <;> rfl
theorem impl_in (a b c : Int) : impl_in.f a b c = some (inB a b c) := by unfold impl_in.f inB; split <;> rfl
theorem inB_iff (a b c : Int) : inB a b c = true ↔ b ≤ a ∧ a ≤ c := by
  unfold inB; split <;> simp <;> omega
def word (x : Int) : Bool := inB x 0 65535
def nam (x : Int) : Bool := inB x 0 7
theorem spec_word (x : Int) : spec_l1Word.f x = some (word x) := by unfold spec_l1Word.f; rw [spec_in]; rfl
theorem impl_word (x : Int) : impl_isWord.f x = some (word x) := by unfold impl_isWord.f; rw [impl_in]; rfl
theorem spec_nam (x : Int) : spec_l3Name.f x = some (nam x) := by unfold spec_l3Name.f; rw [spec_in]; rfl
theorem impl_nam (x : Int) : impl_isName.f x = some (nam x) := by unfold impl_isName.f; rw [impl_in]; rfl
theorem any_words (p : Int → Option Bool) (hp : p = fun x => some (!word x)) (l : List Int) : Kit.anyO p l = some (!l.all word) := by
  subst hp
  rw [Kit.anyO_some]
  congr 1
  rw [List.not_all_eq_any_not]
theorem cnt54 (l : List Int) : slices_ContainsFunc_int_int.f l 54 = some (!l.all word) := by
  have h := any_words (fun x : Int => impl_LeaveAt_1.f x) (by funext x; unfold impl_LeaveAt_1.f; rw [impl_word]; rfl) l
  unfold slices_ContainsFunc_int_int.f
  simpa using h
theorem cnt71 (l : List Int) : slices_ContainsFunc_int_int.f l 71 = some (!l.all word) := by
  have h := any_words (fun x : Int => impl_areWords_1.f x) (by funext x; unfold impl_areWords_1.f; rw [impl_word]; rfl) l
  unfold slices_ContainsFunc_int_int.f
  simpa using h
theorem impl_words8 (l : List Int) : impl_areWords.f l = some (l.all word && decide (l.length = 8)) := by
  unfold impl_areWords.f
  rw [cnt71]
  by_cases h : (l.length : Int) = 8
  · rw [if_pos h]; simp [show l.length = 8 by omega]
  · rw [if_neg h]; simp [show ¬ l.length = 8 by omega]
theorem spec_words_l0 : ∀ (post pre : List Int), pre.length + post.length ≤ 1048576 →
    Ev (fun k => spec_l13Words.l0 k (pre ++ post) ((pre ++ post).length : Int) (pre.length : Int)) (post.all word)
  | [], pre, hb => by
    refine Ev.step (fun k => by simp only [spec_l13Words.l0]; rw [if_neg (by simp)]) ?_
    exact some_ev rfl
  | x :: post, pre, hb => by
    simp at hb
    refine Ev.step (fun k => by
      simp only [spec_l13Words.l0]
      rw [if_pos (by simp; omega), if_pos (by omega), if_pos (by simp; omega), rd_at rfl, spec_word, w_succ (by omega)]) ?_
    simp only [Option.bind_some, List.all_cons]
    have ih := spec_words_l0 post (pre ++ [x]) (by simp; omega)
    by_cases h : word x = true
    · exact ite_t h (by simpa [h] using ih)
    · exact ite_f h (some_ev (by simp [h]))
theorem spec_words (l : List Int) (hb : l.length ≤ 1048576) : Ev (fun k => spec_l13Words.f k l) (l.all word) := by
  unfold spec_l13Words.f
  simpa using spec_words_l0 l [] (by simpa using hb)
theorem spec_words8_l0 (l0 : List Int) : ∀ (post pre : List Int), pre.length + post.length ≤ 1048576 →
    Ev (fun k => spec_l3Words.l0 k l0 (pre ++ post) ((pre ++ post).length : Int) (pre.length : Int)) (post.all word && decide (l0.length = 8))
  | [], pre, hb => by
    refine Ev.step (fun k => by simp only [spec_l3Words.l0]; rw [if_neg (by simp)]) ?_
    refine some_ev ?_
    simp only [List.all_nil, Bool.true_and]
    by_cases h : l0.length = 8
    · rw [h]; rfl
    · rw [show decide (l0.length = 8) = false from decide_eq_false h]
      exact beq_eq_false_iff_ne.2 (by omega)
  | x :: post, pre, hb => by
    simp at hb
    refine Ev.step (fun k => by
      simp only [spec_l3Words.l0]
      rw [if_pos (by simp; omega), if_pos (by omega), if_pos (by simp; omega), rd_at rfl, spec_word, w_succ (by omega)]) ?_
    simp only [Option.bind_some, List.all_cons]
    have ih := spec_words8_l0 l0 post (pre ++ [x]) (by simp; omega)
    by_cases h : word x = true
    · exact ite_t h (by simpa [h] using ih)
    · exact ite_f h (some_ev (by simp [h]))
theorem spec_words8 (l : List Int) (hb : l.length ≤ 1048576) : Ev (fun k => spec_l3Words.f k l) (l.all word && decide (l.length = 8)) := by
  unfold spec_l3Words.f
  simpa using spec_words8_l0 l l [] (by simpa using hb)

/-- A place is told rightly; what lies there. -/
def locOk (x : S79) : Bool := if x.f0 = true then word x.f1 else nam x.f1
def val (vars : List Int) (x : S79) : Int := if x.f0 = true then x.f1 else rd vars x.f1
theorem spec_locs_l0 (l0 : List S79) : ∀ (post pre : List S79), pre.length + post.length ≤ 1048576 →
    Ev (fun k => spec_l13Locs.l0 k l0 (pre ++ post) ((pre ++ post).length : Int) (pre.length : Int)) (post.all locOk && decide ((l0.length : Int) ≤ 4))
  | [], pre, hb => by
    refine Ev.step (fun k => by simp only [spec_l13Locs.l0]; rw [if_neg (by simp)]) ?_
    exact some_ev (by simp)
  | x :: post, pre, hb => by
    simp at hb
    refine Ev.step (fun k => by
      simp only [spec_l13Locs.l0]
      rw [if_pos (by simp; omega), if_pos (by omega), if_pos (by simp; omega), rdat_T79 rfl, spec_word, spec_nam, w_succ (by omega)]) ?_
    simp only [Option.bind_some, List.all_cons]
    have ih : Ev (fun k => spec_l13Locs.l0 k l0 (pre ++ x :: post) ((pre ++ x :: post).length : Int) ((pre.length + 1 : Nat) : Int)) (post.all locOk && decide ((l0.length : Int) ≤ 4)) := by
      simpa using spec_locs_l0 l0 post (pre ++ [x]) (by simp; omega)
    by_cases h : x.f0 = true
    · refine ite_t h ?_
      by_cases hw : word x.f1 = true
      · refine ite_t hw (ite_t h ?_)
        rw [show locOk x = true by unfold locOk; rw [if_pos h, hw]]
        simpa using ih
      · exact ite_f hw (some_ev (by rw [show locOk x = false by unfold locOk; rw [if_pos h]; simpa using hw]; simp))
    · refine ite_f h (ite_f h ?_)
      by_cases hw : nam x.f1 = true
      · refine ite_t hw ?_
        rw [show locOk x = true by unfold locOk; rw [if_neg h, hw]]
        simpa using ih
      · exact ite_f hw (some_ev (by rw [show locOk x = false by unfold locOk; rw [if_neg h]; simpa using hw]; simp))
theorem spec_locs (l : List S79) (hb : l.length ≤ 1048576) : Ev (fun k => spec_l13Locs.f k l) (l.all locOk && decide ((l.length : Int) ≤ 4)) := by
  unfold spec_l13Locs.f
  simpa using spec_locs_l0 l l [] (by simpa using hb)
theorem spec_leave_l0 (vars a t : List Int) (hv : vars.length = 8) : ∀ (post pre : List S79) (acc : List Int), pre.length + post.length ≤ 1048576 → post.all locOk = true → acc.length ≤ pre.length →
    Ev (fun k => spec_l13Leave.l0 k vars (pre ++ post) ((pre ++ post).length : Int) (pre.length : Int) a acc t) (a, acc ++ post.map (val vars), t)
  | [], pre, acc, hb, ho, ha => by
    refine Ev.step (fun k => by simp only [spec_l13Leave.l0]; rw [if_neg (by simp)]) ?_
    exact some_ev (by simp)
  | x :: post, pre, acc, hb, ho, ha => by
    simp at hb
    simp only [List.all_cons, Bool.and_eq_true] at ho
    refine Ev.step (fun k => by
      simp only [spec_l13Leave.l0]
      rw [if_pos (by simp; omega), if_pos (by omega), if_pos (by simp; omega), rdat_T79 rfl, w_succ (by omega)]) ?_
    have ih := spec_leave_l0 vars a t hv post (pre ++ [x]) (acc ++ [val vars x]) (by simp; omega) ho.2 (by simp; omega)
    by_cases h : x.f0 = true
    · refine ite_t h (ite_t (by omega) ?_)
      have e : val vars x = x.f1 := by unfold val; rw [if_pos h]
      rw [e] at ih
      simpa [e] using ih
    · have e : val vars x = rd vars x.f1 := by unfold val; rw [if_neg h]
      have hn : nam x.f1 = true := by
        have := ho.1
        unfold locOk at this
        rwa [if_neg h] at this
      have hn' := (inB_iff _ _ _).1 hn
      refine ite_f h (ite_t hn'.1 (ite_t (by omega) (ite_t (by omega) ?_)))
      rw [e] at ih
      simpa [e] using ih
theorem spec_leave (m : List S79) (vars t : List Int) (hm : m.length ≤ 1048576) (ht : t.length ≤ 1048576) (hv : vars.length = 8) (ho : m.all locOk = true) :
    Ev (fun k => spec_l13Leave.f k m vars t) (vars.take 3, m.map (val vars), t) := by
  unfold spec_l13Leave.f
  simp only [Option.bind_some, List.nil_append, List.length_nil]
  refine ite_t (by omega) (ite_t (by simp; omega) (ite_t (by omega) ?_))
  simpa using spec_leave_l0 vars (vars.take 3) t hv m [] [] (by simpa using hm) ho (by simp)
def goodL (maps : List (List S79)) (k : Int) (vars t : List Int) : Bool :=
  decide (0 ≤ k) && decide (k < maps.length) && ((rd_L11 maps k).all locOk && decide (((rd_L11 maps k).length : Int) ≤ 4)) && (vars.all word && decide (vars.length = 8)) && decide ((t.length : Int) ≤ 100) && t.all word
def leaveO (maps : List (List S79)) (k : Int) (vars t : List Int) : List Int × List Int × List Int × Bool :=
  if goodL maps k vars t = true then (vars.take 3, (rd_L11 maps k).map (val vars), t, true) else ([], [], [], false)
theorem leaveO_f {maps : List (List S79)} {k : Int} {vars t : List Int} (h : goodL maps k vars t = false) : leaveO maps k vars t = ([], [], [], false) := by
  unfold leaveO; rw [h]; rfl
theorem spec_leaveAt (cs : List S91) (at_ : List Int) (maps : List (List S79)) (k : Int) (vars t : List Int) (hm : (rd_L11 maps k).length ≤ 1048576) (hv : vars.length ≤ 1048576) (ht : t.length ≤ 1048576) :
    Ev (fun n => spec_LeaveAt.f n cs at_ maps k vars t) (leaveO maps k vars t) := by
  unfold spec_LeaveAt.f
  have no : goodL maps k vars t = false → Ev (fun _ : Nat => some (([] : List Int), ([] : List Int), ([] : List Int), false)) (leaveO maps k vars t) := fun h => some_ev (leaveO_f h).symm
  by_cases h1 : k < 0
  · exact ite_t h1 (no (by unfold goodL; rw [show decide (0 ≤ k) = false from decide_eq_false (by omega)]; simp))
  · refine ite_f h1 ?_
    by_cases h2 : k ≥ (maps.length : Int)
    · exact ite_t h2 (no (by unfold goodL; rw [show decide (k < (maps.length : Int)) = false from decide_eq_false (by omega)]; simp))
    · have h1' : 0 ≤ k := by omega
      have h2' : k < (maps.length : Int) := by omega
      refine ite_f h2 (ite_t h1' (ite_t h2' (bind_ev (spec_locs _ hm) ?_)))
      by_cases h3 : ((rd_L11 maps k).all locOk && decide (((rd_L11 maps k).length : Int) ≤ 4)) = true
      · refine ite_t h3 (bind_ev (spec_words8 vars hv) ?_)
        by_cases h4 : (vars.all word && decide (vars.length = 8)) = true
        · refine ite_t h4 ?_
          by_cases h5 : (t.length : Int) > 100
          · exact ite_t h5 (no (by unfold goodL; rw [show decide ((t.length : Int) ≤ 100) = false from decide_eq_false (by omega)]; simp))
          · refine ite_f h5 (bind_ev (spec_words t ht) ?_)
            by_cases h6 : t.all word = true
            · refine ite_t h6 ?_
              have hg : goodL maps k vars t = true := by
                unfold goodL
                rw [h3, h4, h6, show decide (0 ≤ k) = true from decide_eq_true h1', show decide (k < (maps.length : Int)) = true from decide_eq_true h2', show decide ((t.length : Int) ≤ 100) = true from decide_eq_true (by omega)]
                rfl
              have h3' := (Bool.and_eq_true _ _ ▸ h3 : _ ∧ _)
              have h4' := (Bool.and_eq_true _ _ ▸ h4 : _ ∧ _)
              refine bind_ev (spec_leave _ vars t hm ht (of_decide_eq_true h4'.2) h3'.1) (some_ev ?_)
              unfold leaveO; rw [if_pos hg]
            · exact ite_f h6 (no (by unfold goodL; rw [show t.all word = false by simpa using h6]; simp))
        · exact ite_f h4 (no (by unfold goodL; rw [show (vars.all word && decide (vars.length = 8)) = false by simpa using h4]; simp))
      · exact ite_f h3 (no (by unfold goodL; rw [show ((rd_L11 maps k).all locOk && decide (((rd_L11 maps k).length : Int) ≤ 4)) = false by simpa using h3]; simp))

def outL (b : Bool) (a v t : List Int) : List Int × List Int × List Int × Bool := if b = true then (a, v, t, true) else ([], [], [], false)
theorem impl_leave_l0 (vars a t : List Int) (hv : vars.length = 8) : ∀ (post pre : List S79) (acc : List Int), pre.length + post.length ≤ 1048576 → acc.length ≤ pre.length →
    Ev (fun k => impl_LeaveAt.l0 k vars (pre ++ post) ((pre ++ post).length : Int) (pre.length : Int) a acc t) (outL (post.all locOk) a (acc ++ post.map (val vars)) t)
  | [], pre, acc, hb, ha => by
    refine Ev.step (fun k => by simp only [impl_LeaveAt.l0]; rw [if_neg (by simp)]) ?_
    exact some_ev (by simp [outL])
  | x :: post, pre, acc, hb, ha => by
    simp at hb
    refine Ev.step (fun k => by
      simp only [impl_LeaveAt.l0]
      rw [if_pos (by simp; omega), if_pos (by omega), if_pos (by simp; omega), rdat_T79 rfl, impl_word]) ?_
    simp only [Option.bind_some]
    have ih : Ev (fun k => impl_LeaveAt.l0 k vars (pre ++ x :: post) ((pre ++ x :: post).length : Int) ((pre.length + 1 : Nat) : Int) a (acc ++ [val vars x]) t) (outL (post.all locOk) a (acc ++ (x :: post).map (val vars)) t) := by
      simpa using impl_leave_l0 vars a t hv post (pre ++ [x]) (acc ++ [val vars x]) (by simp; omega) (by simp; omega)
    have no : locOk x = false → Ev (fun _ : Nat => some (([] : List Int), ([] : List Int), ([] : List Int), false)) (outL ((x :: post).all locOk) a (acc ++ (x :: post).map (val vars)) t) := by
      intro h
      exact some_ev (by rw [List.all_cons, h]; rfl)
    by_cases h : x.f0 = true
    · refine ite_t h ?_
      have e : val vars x = x.f1 := by unfold val; rw [if_pos h]
      cases hw : word x.f1 with
      | true =>
        refine Ev.step (fun k => by simp only [impl_LeaveAt.j2]; rw [if_pos trivial, if_pos (by omega), w_succ (by omega)]) ?_
        rw [List.all_cons, show locOk x = true by unfold locOk; rw [if_pos h, hw], Bool.true_and, ← e]
        exact ih
      | false =>
        refine Ev.step (fun k => by simp only [impl_LeaveAt.j2]; rw [if_neg (by simp), if_pos h]) ?_
        exact no (by unfold locOk; rw [if_pos h, hw])
    · refine ite_f h ?_
      have e : val vars x = rd vars x.f1 := by unfold val; rw [if_neg h]
      refine Ev.step (fun k => by simp only [impl_LeaveAt.j2]; rw [if_neg (by simp), if_neg h, impl_nam, w_succ (by omega)]) ?_
      simp only [Option.bind_some]
      by_cases hn : nam x.f1 = true
      · have hn' := (inB_iff _ _ _).1 hn
        refine ite_t hn (ite_t hn'.1 (ite_t (by omega) (ite_t (by omega) ?_)))
        rw [List.all_cons, show locOk x = true by unfold locOk; rw [if_neg h, hn], Bool.true_and, ← e]
        exact ih
      · exact ite_f hn (no (by unfold locOk; rw [if_neg h]; simpa using hn))
theorem impl_leaveAt (cs : List S91) (at_ : List Int) (maps : List (List S79)) (k : Int) (vars t : List Int) (hmm : maps.length ≤ 1048576) (hm : (rd_L11 maps k).length ≤ 1048576) (ht : t.length ≤ 1048576) :
    Ev (fun n => impl_LeaveAt.f n cs at_ maps k vars t) (leaveO maps k vars t) := by
  unfold impl_LeaveAt.f
  rw [impl_in, impl_words8, cnt54, w64 (by omega) (by omega)]
  simp only [Option.bind_some]
  have no : goodL maps k vars t = false → Ev (fun n => impl_LeaveAt.j0 n k vars t true cs at_ maps) (leaveO maps k vars t) := fun h =>
    Ev.step (fun n => by simp only [impl_LeaveAt.j0]; rw [if_pos trivial]) (some_ev (leaveO_f h).symm)
  by_cases h1 : inB k 0 ((maps.length : Int) - 1) = true
  · have h1' := (inB_iff _ _ _).1 h1
    refine ite_t h1 ?_
    by_cases h4 : (vars.all word && decide (vars.length = 8)) = true
    · refine ite_t h4 ?_
      have h4' := (Bool.and_eq_true _ _ ▸ h4 : _ ∧ _)
      have hv8 : vars.length = 8 := of_decide_eq_true h4'.2
      by_cases h5 : (t.length : Int) > 100
      · exact ite_t h5 (no (by unfold goodL; rw [show decide ((t.length : Int) ≤ 100) = false from decide_eq_false (by omega)]; simp))
      · refine ite_f h5 ?_
        by_cases h6 : t.all word = true
        · refine ite_f (by simp [h6]) (ite_t h1'.1 (ite_t (by omega) ?_))
          by_cases h7 : ((rd_L11 maps k).length : Int) > 4
          · rw [show decide (((rd_L11 maps k).length : Int) > 4) = true from decide_eq_true h7]
            exact no (by unfold goodL; rw [show decide (((rd_L11 maps k).length : Int) ≤ 4) = false from decide_eq_false (by omega)]; simp)
          · rw [show decide (((rd_L11 maps k).length : Int) > 4) = false from decide_eq_false h7]
            refine Ev.step (fun n => by simp only [impl_LeaveAt.j0]; rw [if_neg (by simp)]) ?_
            simp only [Option.bind_some, List.nil_append, List.length_nil]
            refine ite_t (by omega) (ite_t (by simp; omega) (ite_t (by omega) (ite_t h1'.1 (ite_t (by omega) ?_))))
            have hg : goodL maps k vars t = (rd_L11 maps k).all locOk := by
              unfold goodL
              rw [h4, h6, show decide (0 ≤ k) = true from decide_eq_true h1'.1, show decide (k < (maps.length : Int)) = true from decide_eq_true (by omega), show decide ((t.length : Int) ≤ 100) = true from decide_eq_true (by omega), show decide (((rd_L11 maps k).length : Int) ≤ 4) = true from decide_eq_true (by omega)]
              simp
            have := impl_leave_l0 vars (vars.take 3) t hv8 (rd_L11 maps k) [] [] (by simpa using hm) (by simp)
            unfold leaveO
            rw [hg]
            simpa [outL] using this
        · exact ite_t (by simpa using h6) (no (by unfold goodL; rw [show t.all word = false by simpa using h6]; simp))
    · exact ite_f h4 (no (by unfold goodL; rw [show (vars.all word && decide (vars.length = 8)) = false by simpa using h4]; simp))
  · refine ite_f h1 (no ?_)
    have h1' : ¬ (0 ≤ k ∧ k ≤ (maps.length : Int) - 1) := fun z => h1 ((inB_iff _ _ _).2 z)
    have : (decide (0 ≤ k) && decide (k < (maps.length : Int))) = false := by
      rw [Bool.and_eq_false_iff]; simp; omega
    unfold goodL; rw [this]; simp
end Go.Proofs.Ytpoddnhfnphdcaa.Pure
