/- Edges: the program and the reference ask the same of edges. Conditions: none. -/
import Derived.Test.YtpnhlccdhflogaaDataN
import Derived.Test.YtpnhlccdhflogaaQx0
import Derived.Test.YtpnhlccdhflogaaQx1
import Derived.Test.YtpnhlccdhflogaaQx2
import Derived.Test.YtpnhlccdhflogaaQx5
set_option linter.unusedVariables false
set_option linter.unusedSimpArgs false
set_option linter.unusedSectionVars false
namespace Go.Proofs.Ytpnhlccdhflogaa.Pure
open Go.RowKit Go.Proofs.Ytpnhlccdhflogaa.Q Go.Proofs.YtpnhlccdhflogaaW.PrintWords Go.Proofs.YtpnhlccdhflogaaW.PrintLast Go.Proofs.Ytpnhlccdhflogaa.Kit Go.Proofs.Ytpnhlccdhflogaa.Wf

theorem ite_ev' {α : Type} {c : Prop} [Decidable c] {f g : Nat → Option α} {r : α} (h : c → Ev f r) (k : ¬ c → Ev g r) : Ev (fun n => if c then f n else g n) r := by
  by_cases hc : c
  · exact ite_t hc (h hc)
  · exact ite_f hc (k hc)
def inB (a b c : Int) : Bool := if a ≥ b then decide (a ≤ c) else false
theorem spec_in (a b c : Int) : spec_l1In.f a b c = some (inB a b c) := by unfold spec_l1In.f inB; split <;> rfl
theorem inB_iff (a b c : Int) : inB a b c = true ↔ b ≤ a ∧ a ≤ c := by
  unfold inB; split <;> simp <;> omega
theorem eds_in (a b c : Int) : Eds.inB a b c = inB a b c := rfl
def goodE (n : Int) (l : List S48) : Bool := Eds.ok n [] l && inB n 1 8 && decide ((l.length : Int) ≤ 20)
theorem impl_edges (n : Int) (l : List S48) : impl_areEdges.f n l = some (goodE n l) := by
  unfold impl_areEdges.f goodE
  rw [eds_in]
  congr 1
  cases inB n 1 8 <;> cases Eds.ok n [] l <;> simp
theorem spec_edges_l1 (n : Int) (l : List S48) (hb : l.length ≤ 1048576) (i : Nat) (hi : i < l.length) (a b c : Int) (r : Bool) (hr : Ev (fun k => spec_GoodEdges.l0 k n l l (l.length : Int) ((i + 1 : Nat) : Int)) r) : ∀ (post pre q : List S48), q = pre ++ post → q.length ≤ 1048576 →
    Ev (fun k => spec_GoodEdges.l1 k n l l (l.length : Int) (i : Int) q (q.length : Int) (pre.length : Int) a b c) (!(post.any fun o => o.f0 == a && o.f1 == b) && r)
  | [], pre, q, hq, hl => by
    have : q.length = pre.length := by rw [hq]; simp
    refine Ev.step (fun k => by simp only [spec_GoodEdges.l1]; rw [if_neg (by omega), w_succ (by omega)]) ?_
    simpa using hr
  | x :: post, pre, q, hq, hl => by
    have hn : q.length = pre.length + (post.length + 1) := by rw [hq]; simp
    have hrd : rd_T48 q (pre.length : Int) = x := by rw [hq]; exact rdat_T48 rfl
    have ih := spec_edges_l1 n l hb i hi a b c r hr post (pre ++ [x]) q (by simp [hq]) hl
    refine Ev.step (fun k => by simp only [spec_GoodEdges.l1]; rw [if_pos (by omega), if_pos (by omega), if_pos (by omega), hrd, w_succ (by omega)]) ?_
    have e2 : (((pre ++ [x]).length : Nat) : Int) = ((pre.length + 1 : Nat) : Int) := by simp
    rw [e2] at ih
    by_cases h0 : x.f0 = a
    · refine ite_t h0 ?_
      by_cases h1 : x.f1 = b
      · exact ite_t h1 (some_ev (by simp [h0, h1]))
      · have e : ((x :: post).any fun o => o.f0 == a && o.f1 == b) = (post.any fun o => o.f0 == a && o.f1 == b) := by simp [h1]
        rw [e]
        exact ite_f h1 ih
    · have e : ((x :: post).any fun o => o.f0 == a && o.f1 == b) = (post.any fun o => o.f0 == a && o.f1 == b) := by simp [h0]
      rw [e]
      exact ite_f h0 ih
theorem spec_edges_l0 (n : Int) (l : List S48) (hb : l.length ≤ 1048576) : ∀ (post pre : List S48), l = pre ++ post →
    Ev (fun k => spec_GoodEdges.l0 k n l l (l.length : Int) (pre.length : Int)) (Eds.ok n pre post && inB n 1 8 && decide ((l.length : Int) ≤ 20))
  | [], pre, hl => by
    have : l.length = pre.length := by rw [hl]; simp
    refine Ev.step (fun k => by simp only [spec_GoodEdges.l0]; rw [if_neg (by omega)]) ?_
    simp only [spec_l11Blocks.f, spec_in, Option.bind_some, Eds.ok, Bool.true_and]
    cases inB n 1 8
    · exact ite_f (by simp) (some_ev (by simp))
    · exact ite_t rfl (some_ev (by simp))
  | x :: post, pre, hl => by
    have hn : l.length = pre.length + (post.length + 1) := by rw [hl]; simp
    have hrd : rd_T48 l (pre.length : Int) = x := by rw [hl]; exact rdat_T48 rfl
    have htk : l.take (pre.length : Int).toNat = pre := by rw [hl]; simp
    have ih := spec_edges_l0 n l hb post (pre ++ [x]) (by simp [hl])
    have e2 : (((pre ++ [x]).length : Nat) : Int) = ((pre.length + 1 : Nat) : Int) := by simp
    rw [e2] at ih
    have jt : Ev (fun k => spec_GoodEdges.j1 k n l (pre.length : Int) l (l.length : Int) (pre.length : Int) true x.f0 x.f1 x.f2) false := by
      refine Ev.step (fun k => by simp only [spec_GoodEdges.j1]; rfl) ?_
      exact ite_t (by trivial) (Ev.now _)
    have jf : Ev (fun k => spec_GoodEdges.j1 k n l (pre.length : Int) l (l.length : Int) (pre.length : Int) false x.f0 x.f1 x.f2) (!(pre.any fun o => o.f0 == x.f0 && o.f1 == x.f1) && (Eds.ok n (pre ++ [x]) post && inB n 1 8 && decide ((l.length : Int) ≤ 20))) := by
      refine Ev.step (fun k => by simp only [spec_GoodEdges.j1]; rfl) ?_
      refine ite_f (by simp) (ite_t (by omega) (ite_t (by omega) (bind_ev (Ev.now _) ?_)))
      rw [htk]
      have := spec_edges_l1 n l hb pre.length (by omega) x.f0 x.f1 x.f2 _ ih pre [] pre rfl (by omega)
      simpa using this
    refine Ev.step (fun k => by simp only [spec_GoodEdges.l0]; rw [if_pos (by omega), if_pos (by omega), if_pos (by omega), hrd, spec_in]) ?_
    simp only [Eds.ok, Eds.ok1, eds_in, Option.bind_some]
    by_cases h1 : x.f0 < 0
    · exact ite_t h1 (by rw [show inB x.f0 0 (n - 1) = false by rw [Bool.eq_false_iff]; intro h; have := (inB_iff _ _ _).1 h; omega]; simpa using jt)
    refine ite_f h1 ?_
    by_cases h2 : x.f0 ≥ n
    · exact ite_t h2 (by rw [show inB x.f0 0 (n - 1) = false by rw [Bool.eq_false_iff]; intro h; have := (inB_iff _ _ _).1 h; omega]; simpa using jt)
    refine ite_f h2 ?_
    rw [show inB x.f0 0 (n - 1) = true from (inB_iff _ _ _).2 (by omega)]
    by_cases h3 : x.f1 < 0
    · exact ite_t h3 (by rw [show inB x.f1 0 (n - 1) = false by rw [Bool.eq_false_iff]; intro h; have := (inB_iff _ _ _).1 h; omega]; simpa using jt)
    refine ite_f h3 ?_
    by_cases h4 : x.f1 ≥ n
    · exact ite_t h4 (by rw [show inB x.f1 0 (n - 1) = false by rw [Bool.eq_false_iff]; intro h; have := (inB_iff _ _ _).1 h; omega]; simpa using jt)
    refine ite_f h4 ?_
    rw [show inB x.f1 0 (n - 1) = true from (inB_iff _ _ _).2 (by omega)]
    cases inB x.f2 0 100000 with
    | false => simpa using jt
    | true => simpa [Eds.had, Bool.and_assoc] using jf
theorem spec_edges (n : Int) (l : List S48) (hb : l.length ≤ 1048576) : Ev (fun k => spec_GoodEdges.f k n l) (goodE n l) := by
  have := spec_edges_l0 n l hb l [] rfl
  unfold spec_GoodEdges.f goodE
  simpa using this
structure EdgeOk (n : Int) (e : S48) : Prop where
  f0 : 0 ≤ e.f0
  f1 : e.f0 < n
  t0 : 0 ≤ e.f1
  t1 : e.f1 < n
  c0 : 0 ≤ e.f2
  c1 : e.f2 ≤ 100000
theorem ok_all (n : Int) : ∀ (post pre : List S48), Eds.ok n pre post = true → ∀ e ∈ post, EdgeOk n e
  | [], _, _, e, he => by cases he
  | x :: post, pre, h, e, he => by
    simp only [Eds.ok, Eds.ok1, eds_in, Bool.and_eq_true] at h
    rcases List.mem_cons.1 he with rfl | he
    · have h1 := (inB_iff _ _ _).1 h.1.1.1.1
      have h2 := (inB_iff _ _ _).1 h.1.1.1.2
      have h3 := (inB_iff _ _ _).1 h.1.1.2
      exact ⟨h1.1, by omega, h2.1, by omega, h3.1, h3.2⟩
    · exact ok_all n post _ h.2 e he
theorem goodE_ok {n : Int} {l : List S48} (h : goodE n l = true) : l.length ≤ 20 ∧ ∀ e ∈ l, EdgeOk n e := by
  simp only [goodE, Bool.and_eq_true, decide_eq_true_eq] at h
  exact ⟨by omega, ok_all n l [] h.1.1⟩
end Go.Proofs.Ytpnhlccdhflogaa.Pure
