/- Flows: the program and the reference ask the same of a flow. Conditions: none. -/
import Derived.Test.YtpnhlccdhflogaaPIdx
import Derived.Test.YtpnhlccdhflogaaQx0
import Derived.Test.YtpnhlccdhflogaaQx2
import Derived.Test.YtpnhlccdhflogaaQx4
import Derived.Test.YtpnhlccdhflogaaQx5
set_option linter.unusedVariables false
set_option linter.unusedSimpArgs false
set_option linter.unusedSectionVars false
namespace Go.Proofs.Ytpnhlccdhflogaa.Pure
open Go.RowKit Go.Proofs.Ytpnhlccdhflogaa.Q Go.Proofs.YtpnhlccdhflogaaW.PrintWords Go.Proofs.YtpnhlccdhflogaaW.PrintLast Go.Proofs.Ytpnhlccdhflogaa.Kit Go.Proofs.Ytpnhlccdhflogaa.Wf

def goodI (x : S130) : Bool :=
  if x.f0 = 1 then inB x.f1 0 7 && (x.f2 == 0) && (x.f3 == 0) && inB x.f4 0 65535
  else if x.f0 = 2 then inB x.f1 0 7 && inB x.f2 0 7 && (x.f3 == 0) && (x.f4 == 0)
  else if x.f0 = 8 then (x.f1 == 0) && inB x.f2 0 7 && (x.f3 == 0) && (x.f4 == 0)
  else inB x.f0 3 7 && inB x.f1 0 7 && inB x.f2 0 7 && inB x.f3 0 7 && (x.f4 == 0)
theorem spec_instr (x : S130) : spec_l3Good.f x.f0 x.f1 x.f2 x.f3 x.f4 = some (goodI x) := by
  unfold spec_l3Good.f goodI spec_l3Name.f spec_l1Word.f spec_l3Two.f
  simp only [spec_in, Option.bind_some]
  by_cases h1 : x.f0 = 1
  · rw [if_pos h1, if_pos h1]
    cases inB x.f1 0 7 <;> by_cases h2 : x.f2 = 0 <;> by_cases h3 : x.f3 = 0 <;> simp [h2, h3]
  · rw [if_neg h1, if_neg h1]
    by_cases h2 : x.f0 = 2
    · rw [if_pos h2, if_pos h2]
      cases inB x.f1 0 7 <;> cases inB x.f2 0 7 <;> by_cases h3 : x.f3 = 0 <;> simp [h3]
    · rw [if_neg h2, if_neg h2]
      by_cases h8 : x.f0 = 8
      · rw [if_pos h8, if_pos h8]
        by_cases h4 : x.f1 = 0 <;> cases inB x.f2 0 7 <;> by_cases h3 : x.f3 = 0 <;> simp [h3, h4]
      · rw [if_neg h8, if_neg h8]
        cases inB x.f0 3 7 <;> cases inB x.f1 0 7 <;> cases inB x.f2 0 7 <;> cases inB x.f3 0 7 <;> simp
def tailI (x : S130) : Bool := if x.f0 = 1 then (x.f2 == 0) && (x.f3 == 0) else if x.f0 = 2 then (x.f3 == 0) && (x.f4 == 0) else if inB x.f0 3 7 = true then (x.f4 == 0) else if x.f0 = 8 then (x.f1 == 0) && (x.f3 == 0) && (x.f4 == 0) else false
theorem goodI_tail (x : S130) : goodI x = (inB x.f1 0 7 && inB x.f2 0 7 && inB x.f3 0 7 && inB x.f4 0 65535 && tailI x) := by
  have z : ∀ a b c : Int, inB a b c = decide (b ≤ a ∧ a ≤ c) := fun a b c => by
    rw [Bool.eq_iff_iff, inB_iff]; simp
  rw [Bool.eq_iff_iff]
  unfold goodI tailI
  simp only [z]
  by_cases h1 : x.f0 = 1
  · simp [h1]; omega
  · by_cases h2 : x.f0 = 2
    · simp [h2]; omega
    · by_cases h8 : x.f0 = 8
      · simp [h8]; omega
      · simp only [h1, h2, h8, if_false]
        by_cases h3 : 3 ≤ x.f0 ∧ x.f0 ≤ 7
        · simp [h3]; omega
        · simp [h3]
theorem impl_instr (x : S130) : Ev (fun k => impl_isInstr.f k x.f0 x.f1 x.f2 x.f3 x.f4) (goodI x) := by
  rw [goodI_tail]
  have jt : Ev (fun k => impl_isInstr.j0 k true x.f0 x.f1 x.f2 x.f3 x.f4) false := by
    refine Ev.step (fun k => by simp only [impl_isInstr.j0]; rfl) ?_
    exact ite_t (by trivial) (Ev.now _)
  have j1 : ∀ b : Bool, Ev (fun k => impl_isInstr.j1 k x.f0 b x.f0 x.f1 x.f2 x.f3 x.f4) (if b = true then (x.f4 == 0) else if x.f0 = 8 then (x.f1 == 0) && (x.f3 == 0) && (x.f4 == 0) else false) := fun b => by
    refine Ev.step (fun k => by simp only [impl_isInstr.j1]; rfl) ?_
    refine ite_ev (fun _ => Ev.now _) (fun _ => ite_ev (fun _ => ?_) (fun _ => Ev.now _))
    by_cases h1 : x.f1 = 0
    · by_cases h3 : x.f3 = 0
      · exact ite_t h1 (ite_t h3 (some_ev (by simp [h1, h3])))
      · exact ite_t h1 (ite_f h3 (some_ev (by simp [h1, h3])))
    · exact ite_f h1 (some_ev (by simp [h1]))
  have jf : Ev (fun k => impl_isInstr.j0 k false x.f0 x.f1 x.f2 x.f3 x.f4) (tailI x) := by
    refine Ev.step (fun k => by simp only [impl_isInstr.j0]; rfl) ?_
    refine ite_f (by simp) ?_
    unfold tailI
    refine ite_ev (fun _ => ?_) (fun h1 => ite_ev (fun _ => ?_) (fun h2 => ?_))
    · exact ite_ev' (fun h => some_ev (by simp [h])) (fun h => some_ev (by simp [h]))
    · exact ite_ev' (fun h => some_ev (by simp [h])) (fun h => some_ev (by simp [h]))
    · by_cases h3 : x.f0 = 3
      · refine ite_t h3 ?_
        have := j1 (x.f0 == 3)
        rw [show inB x.f0 3 7 = true from (inB_iff _ _ _).2 (by omega)]
        simpa [h3] using this
      · refine ite_f h3 ?_
        by_cases h4 : x.f0 = 4
        · refine ite_t h4 ?_
          have := j1 (x.f0 == 4)
          rw [show inB x.f0 3 7 = true from (inB_iff _ _ _).2 (by omega)]
          simpa [h4] using this
        · refine ite_f h4 ?_
          by_cases h5 : x.f0 = 5
          · refine ite_t h5 ?_
            have := j1 (x.f0 == 5)
            rw [show inB x.f0 3 7 = true from (inB_iff _ _ _).2 (by omega)]
            simpa [h5] using this
          · refine ite_f h5 ?_
            by_cases h6 : x.f0 = 6
            · refine ite_t h6 ?_
              have := j1 (x.f0 == 6)
              rw [show inB x.f0 3 7 = true from (inB_iff _ _ _).2 (by omega)]
              simpa [h6] using this
            · refine ite_f h6 ?_
              have := j1 (x.f0 == 7)
              have e : inB x.f0 3 7 = (x.f0 == 7) := by rw [Bool.eq_iff_iff, inB_iff]; simp; omega
              rw [e]
              exact this
  unfold impl_isInstr.f impl_isName.f impl_isWord.f
  simp only [impl_in, Option.bind_some]
  cases inB x.f1 0 7
  · exact ite_f (by simp) (by simpa using jt)
  refine ite_t rfl ?_
  cases inB x.f2 0 7
  · exact ite_f (by simp) (by simpa using jt)
  refine ite_t rfl ?_
  cases inB x.f3 0 7
  · exact ite_f (by simp) (by simpa using jt)
  refine ite_t rfl ?_
  cases inB x.f4 0 65535
  · simpa using jt
  · simpa using jf
def goodC (l : List S130) : Bool := l.all goodI && decide (l.length ≤ 30)
theorem spec_code_l0 (l : List S130) (hb : l.length ≤ 1048576) : ∀ (post pre : List S130), l = pre ++ post →
    Ev (fun k => spec_GoodCode.l0 k l l (l.length : Int) (pre.length : Int)) (post.all goodI && decide (l.length ≤ 30))
  | [], pre, hl => by
    have : l.length = pre.length := by rw [hl]; simp
    refine Ev.step (fun k => by simp only [spec_GoodCode.l0]; rw [if_neg (by omega)]) ?_
    exact some_ev (by simp; omega)
  | x :: post, pre, hl => by
    have hn : l.length = pre.length + (post.length + 1) := by rw [hl]; simp
    have hr : rd_T130 l (pre.length : Int) = x := by rw [hl]; exact rdat_T130 rfl
    have ih := spec_code_l0 l hb post (pre ++ [x]) (by simp [hl])
    refine Ev.step (fun k => by simp only [spec_GoodCode.l0]; rw [if_pos (by omega), if_pos (by omega), if_pos (by omega), hr, spec_instr, w_succ (by omega)]) ?_
    refine bind_ev (Ev.now _) ?_
    simp only [List.all_cons]
    cases hg : goodI x with
    | true => exact ite_t rfl (by simpa using ih)
    | false => exact ite_f (by simp) (some_ev (by simp))
theorem spec_code (l : List S130) (hb : l.length ≤ 1048576) : Ev (fun k => spec_GoodCode.f k l) (goodC l) := by
  have := spec_code_l0 l hb l [] rfl
  unfold spec_GoodCode.f goodC
  simpa using this
theorem impl_code (l : List S130) : Ev (fun k => impl_isCode.f k l) (goodC l) := by
  unfold impl_isCode.f goodC
  by_cases h : (l.length : Int) ≤ 30
  · refine ite_t h ?_
    have ha : Ev (fun k => impl_Instr_130.f k l 131) (l.any fun x => !goodI x) := by
      have := anyO_ev (p := fun k (x : S130) => impl_isCode_1.f k x.f0 x.f1 x.f2 x.f3 x.f4) (q := fun x => !goodI x) (xs := l) (fun x _ => by
        unfold impl_isCode_1.f
        exact bind_ev (impl_instr x) (Ev.now _))
      unfold impl_Instr_130.f
      exact ite_t rfl this
    refine bind_ev ha (some_ev ?_)
    rw [show decide (l.length ≤ 30) = true by simp; omega, Bool.and_true, List.not_any_eq_all_not]
    congr 1
    funext x; simp
  · refine ite_f h (some_ev ?_)
    rw [show decide (l.length ≤ 30) = false by simp; omega]; simp
def goodB (n : Int) (b : S99) : Bool := goodC b.f0 && inB b.f1 0 7 && inB b.f2 (-1) (n - 1) && inB b.f3 (-1) (n - 1)
def goodF (f : List S99) : Bool := f.all (goodB f.length) && inB f.length 1 8
theorem spec_flow_l0 (l : List S99) (hb : l.length ≤ 1048576) (hm : ∀ b ∈ l, b.f0.length ≤ 1048576) : ∀ (post pre : List S99), l = pre ++ post →
    Ev (fun k => spec_GoodFlow.l0 k l l (l.length : Int) (pre.length : Int)) (post.all (goodB l.length) && inB l.length 1 8)
  | [], pre, hl => by
    have : l.length = pre.length := by rw [hl]; simp
    refine Ev.step (fun k => by simp only [spec_GoodFlow.l0]; rw [if_neg (by omega), spec_in]) ?_
    exact bind_ev (Ev.now _) (some_ev (by simp))
  | x :: post, pre, hl => by
    have hn : l.length = pre.length + (post.length + 1) := by rw [hl]; simp
    have hr : rd_T99 l (pre.length : Int) = x := by rw [hl]; exact rdat_T99 rfl
    have ih := spec_flow_l0 l hb hm post (pre ++ [x]) (by simp [hl])
    have hc := spec_code x.f0 (hm x (by rw [hl]; simp))
    refine Ev.step (fun k => by simp only [spec_GoodFlow.l0]; rw [if_pos (by omega), if_pos (by omega), if_pos (by omega), hr, w_succ (by omega), w64 (x := (l.length : Int) - 1) (by omega) (by omega)]) ?_
    refine bind_ev hc ?_
    simp only [spec_l3Name.f, spec_in, Option.bind_some, List.all_cons, goodB]
    cases goodC x.f0
    · exact ite_f (by simp) (some_ev (by simp))
    refine ite_t rfl ?_
    cases inB x.f1 0 7
    · exact ite_f (by simp) (some_ev (by simp))
    refine ite_t rfl ?_
    cases inB x.f2 (-1) (l.length - 1)
    · exact ite_f (by simp) (some_ev (by simp))
    refine ite_t rfl ?_
    cases inB x.f3 (-1) (l.length - 1)
    · exact ite_f (by simp) (some_ev (by simp))
    exact ite_t rfl (by simpa [goodB] using ih)
theorem spec_flow (l : List S99) (hb : l.length ≤ 1048576) (hm : ∀ b ∈ l, b.f0.length ≤ 1048576) : Ev (fun k => spec_GoodFlow.f k l) (goodF l) := by
  have := spec_flow_l0 l hb hm l [] rfl
  unfold spec_GoodFlow.f goodF
  simpa using this
theorem impl_flow (l : List S99) (hb : l.length ≤ 1048576) : Ev (fun k => impl_isFlow.f k l) (goodF l) := by
  unfold impl_isFlow.f goodF
  simp only [impl_in, Option.bind_some]
  cases h : inB l.length 1 8 with
  | false => exact ite_f (by simp) (some_ev (by simp))
  | true =>
    refine ite_t rfl ?_
    have ha : Ev (fun k => impl_Block_111_112.f k l (l.length : Int)) (l.any fun x => !goodB l.length x) := by
      unfold impl_Block_111_112.f
      refine anyO_ev (q := fun x => !goodB l.length x) (fun x _ => ?_)
      unfold impl_isFlow_1.f goodB impl_isName.f
      refine bind_ev (impl_code x.f0) ?_
      rw [w64 (x := (l.length : Int) - 1) (by omega) (by omega)]
      simp only [impl_in, Option.bind_some]
      cases goodC x.f0
      · exact ite_f (by simp) (some_ev (by simp))
      refine ite_t rfl ?_
      cases inB x.f1 0 7
      · exact ite_f (by simp) (some_ev (by simp))
      refine ite_t rfl ?_
      cases inB x.f2 (-1) (l.length - 1)
      · exact ite_f (by simp) (some_ev (by simp))
      refine ite_t rfl (some_ev (by simp))
    refine bind_ev ha (some_ev ?_)
    rw [Bool.and_true, List.not_any_eq_all_not]
    congr 1
    funext x; simp
structure BlockOk (n : Int) (b : S99) : Prop where
  code : b.f0.length ≤ 30
  thenLo : -1 ≤ b.f2
  thenHi : b.f2 < n
  elseLo : -1 ≤ b.f3
  elseHi : b.f3 < n
theorem blockOk {l : List S99} (h : goodF l = true) {b : S99} (hb : b ∈ l) : BlockOk l.length b := by
  simp only [goodF, Bool.and_eq_true, List.all_eq_true] at h
  have := h.1 b hb
  simp only [goodB, goodC, Bool.and_eq_true, decide_eq_true_eq] at this
  have h2 := (inB_iff _ _ _).1 this.1.2
  have h3 := (inB_iff _ _ _).1 this.2
  exact ⟨this.1.1.1.2, by omega, by omega, by omega, by omega⟩
end Go.Proofs.Ytpnhlccdhflogaa.Pure
