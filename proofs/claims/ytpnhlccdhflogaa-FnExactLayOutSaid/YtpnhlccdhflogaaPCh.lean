/- Chains: the reference's chains are the program's, but for empty places. Conditions: none. -/
import Derived.Test.YtpnhlccdhflogaaPEg
import Derived.Test.YtpnhlccdhflogaaQx0
import Derived.Test.YtpnhlccdhflogaaQx2
import Derived.Test.YtpnhlccdhflogaaQx6
set_option linter.unusedVariables false
set_option linter.unusedSimpArgs false
set_option linter.unusedSectionVars false
namespace Go.Proofs.Ytpnhlccdhflogaa.Pure
open Go.RowKit Go.Proofs.Ytpnhlccdhflogaa.Q Go.Proofs.YtpnhlccdhflogaaW.PrintWords Go.Proofs.YtpnhlccdhflogaaW.PrintLast Go.Proofs.Ytpnhlccdhflogaa.Kit Go.Proofs.Ytpnhlccdhflogaa.Wf
/-! ### edges by falling counts -/
abbrev ltC : S48 → S48 → Bool := Go.Proofs.ltOf cf48
theorem ltC_iff {x y : S48} (hx : 0 ≤ x.f2 ∧ x.f2 ≤ 100000) (hy : 0 ≤ y.f2 ∧ y.f2 ≤ 100000) : ltC x y = true ↔ y.f2 < x.f2 := by
  show decide (cf48 x y < 0) = true ↔ _
  unfold cf48 wrap64
  rw [decide_eq_true_iff]
  omega
theorem insR_at (lt : S48 → S48 → Bool) (x : S48) (S : List S48) (hS : ∀ y, S.head? = some y → lt x y = false) : ∀ R : List S48, (∀ y ∈ R, lt x y = true) → insR lt x (R ++ S) = R ++ x :: S
  | [], _ => by
    cases S with
    | nil => rfl
    | cons y ys => show (if lt x y then _ else _) = _; rw [hS y rfl]; rfl
  | y :: R, h => by
    show (if lt x y then y :: insR lt x (R ++ S) else _) = _
    rw [h y (by simp), if_pos rfl, insR_at lt x S hS R (fun z hz => h z (by simp [hz]))]
    rfl
theorem insL_at (lt : S48 → S48 → Bool) (x : S48) (A B : List S48) (hA : ∀ y, A.getLast? = some y → lt x y = false) (hB : ∀ y ∈ B, lt x y = true) : insL lt (A ++ B) x = A ++ x :: B := by
  unfold insL
  rw [List.reverse_append, insR_at lt x A.reverse (by rw [List.head?_reverse]; exact hA) B.reverse (fun y hy => hB y (by simpa using hy))]
  simp
def Sorted (l : List S48) : Prop := l.Pairwise fun a b => b.f2 ≤ a.f2
theorem by_l1 (es : List S48) (m : Nat) (hm : m < 1000) (e : S48) (rest : S48 → Prop) (p : List S48) (hp : p.length ≤ 1000) (i : Int) (r : List S48) (hs : Sorted p) (hc : ∀ y ∈ p, 0 ≤ y.f2 ∧ y.f2 ≤ 100000) (he : 0 ≤ e.f2 ∧ e.f2 ≤ 100000)
    (hr : Ev (fun k => spec_l11By.l0 k (insL ltC p e) es (m : Int) (wrap64 (i + 1))) r) : ∀ (B A : List S48), p = A ++ B → (∀ y ∈ A, e.f2 ≤ y.f2) →
    Ev (fun k => spec_l11By.l1 k p (A.length : Int) es (m : Int) i e.f0 e.f1 e.f2) r
  | [], A, h, hA => by
    have hl : p.length = A.length := by rw [h]; simp
    have hi : insL ltC p e = (([] : List S48) ++ p.take (A.length : Int).toNat ++ [e]) ++ p.drop (A.length : Int).toNat := by
      have := insL_at ltC e A [] (fun y hy => by
        have hy2 : y ∈ A := List.mem_of_getLast? hy
        rw [Bool.eq_false_iff]
        intro h3
        have := (ltC_iff he (hc y (by rw [h]; simp [hy2]))).1 h3
        have := hA y hy2
        omega) (by simp)
      rw [List.append_nil] at h this
      rw [h, this]
      simp
    refine Ev.step (fun k => by simp only [spec_l11By.l1]; rw [if_neg (show ¬ (A.length : Int) < (p.length : Int) by omega)]) ?_
    refine ite_t (by omega) (ite_t (by omega) (bind_ev (Ev.now _) (ite_t (by simp; omega) (bind_ev (Ev.now _) (ite_t (by simp; omega) (bind_ev (Ev.now _) (bind_ev (Ev.now _) (ite_t (by simp; omega) ?_))))))))
    rw [hi] at hr
    exact hr
  | x :: B, A, h, hA => by
    have hl : p.length = A.length + (B.length + 1) := by rw [h]; simp
    have hrd : rd_T48 p (A.length : Int) = x := by rw [h]; exact rdat_T48 rfl
    refine Ev.step (fun k => by simp only [spec_l11By.l1]; rw [if_pos (show (A.length : Int) < (p.length : Int) by omega), if_pos (show (0 : Int) ≤ (A.length : Int) by omega), hrd]) ?_
    by_cases hx : x.f2 ≥ e.f2
    · refine ite_t hx ?_
      rw [w_succ (by omega)]
      have := by_l1 es m hm e rest p hp i r hs hc he hr B (A ++ [x]) (by rw [h]; simp) (fun y hy => by
        rcases List.mem_append.1 hy with h1 | h1
        · exact hA y h1
        · rw [List.mem_singleton.1 h1]; exact hx)
      simpa using this
    · refine ite_f hx ?_
      have hB : ∀ y ∈ x :: B, ltC e y = true := by
        intro y hy
        refine (ltC_iff he (hc y (by rw [h]; simp at hy ⊢; exact .inr hy))).2 ?_
        rcases List.mem_cons.1 hy with h1 | h1
        · rw [h1]; omega
        · have h2 : Sorted (x :: B) := by rw [h] at hs; exact (List.pairwise_append.1 hs).2.1
          have := (List.pairwise_cons.1 h2).1 y h1
          omega
      have hi : insL ltC p e = (([] : List S48) ++ p.take (A.length : Int).toNat ++ [e]) ++ p.drop (A.length : Int).toNat := by
        have := insL_at ltC e A (x :: B) (fun y hy => by
          have hy2 : y ∈ A := List.mem_of_getLast? hy
          rw [Bool.eq_false_iff]
          intro h3
          have := (ltC_iff he (hc y (by rw [h]; simp [hy2]))).1 h3
          have := hA y hy2
          omega) hB
        rw [h, this]
        simp
      refine ite_t (by omega) (bind_ev (Ev.now _) (ite_t (by simp; omega) (bind_ev (Ev.now _) (ite_t (by simp; omega) (bind_ev (Ev.now _) (bind_ev (Ev.now _) (ite_t (by simp; omega) ?_)))))))
      rw [hi] at hr
      exact hr
theorem insL_mem (lt : S48 → S48 → Bool) (x y : S48) : ∀ p : List S48, y ∈ insL lt p x ↔ y = x ∨ y ∈ p := by
  have key : ∀ l : List S48, y ∈ insR lt x l ↔ y = x ∨ y ∈ l := by
    intro l
    induction l with
    | nil => simp [insR]
    | cons z zs ih =>
      unfold insR
      split
      · rw [List.mem_cons, ih, List.mem_cons]
        constructor
        · rintro (h | h | h) <;> simp [h]
        · rintro (h | h | h) <;> simp [h]
      · simp
  intro p
  unfold insL
  rw [List.mem_reverse, key, List.mem_reverse]
theorem insL_sorted (x : S48) (hx : 0 ≤ x.f2 ∧ x.f2 ≤ 100000) : ∀ (p : List S48), (∀ y ∈ p, 0 ≤ y.f2 ∧ y.f2 ≤ 100000) → Sorted p → Sorted (insL ltC p x) := by
  have key : ∀ l : List S48, (∀ y ∈ l, 0 ≤ y.f2 ∧ y.f2 ≤ 100000) → l.Pairwise (fun a b => a.f2 ≤ b.f2) → (insR ltC x l).Pairwise (fun a b => a.f2 ≤ b.f2) := by
    intro l
    induction l with
    | nil => intro _ _; exact List.pairwise_singleton _ _
    | cons z zs ih =>
      intro hc hs
      have hs2 := List.pairwise_cons.1 hs
      show (if ltC x z then z :: insR ltC x zs else x :: z :: zs).Pairwise _
      by_cases h : ltC x z = true
      · rw [if_pos h]
        have h2 := (ltC_iff hx (hc z (by simp))).1 h
        refine List.pairwise_cons.2 ⟨fun y hy => ?_, ih (fun y hy => hc y (by simp [hy])) hs2.2⟩
        have hy2 : y = x ∨ y ∈ zs := by
          have := (insL_mem ltC x y zs.reverse).1 (by unfold insL; simpa using hy)
          simpa using this
        rcases hy2 with h3 | h3
        · rw [h3]; omega
        · exact hs2.1 y h3
      · rw [if_neg h]
        have h2 : ¬ z.f2 < x.f2 := fun h3 => h ((ltC_iff hx (hc z (by simp))).2 h3)
        refine List.pairwise_cons.2 ⟨fun y hy => ?_, hs⟩
        rcases List.mem_cons.1 hy with h3 | h3
        · rw [h3]; omega
        · have := hs2.1 y h3; omega
  intro p hc hs
  unfold insL Sorted
  rw [List.pairwise_reverse]
  exact key p.reverse (fun y hy => hc y (by simpa using hy)) (by rw [List.pairwise_reverse]; exact hs)
theorem by_l0 (es : List S48) (hb : es.length ≤ 500) (hc : ∀ y ∈ es, 0 ≤ y.f2 ∧ y.f2 ≤ 100000) : ∀ (post pre p : List S48), es = pre ++ post → p.length = pre.length → Sorted p → (∀ y ∈ p, 0 ≤ y.f2 ∧ y.f2 ≤ 100000) →
    Ev (fun k => spec_l11By.l0 k p es (es.length : Int) (pre.length : Int)) (post.foldl (insL ltC) p)
  | [], pre, p, h, hl, hs, hp => by
    have : es.length = pre.length := by rw [h]; simp
    refine Ev.step (fun k => by simp only [spec_l11By.l0]; rw [if_neg (by omega)]) ?_
    exact Ev.now _
  | e :: post, pre, p, h, hl, hs, hp => by
    have hn : es.length = pre.length + (post.length + 1) := by rw [h]; simp
    have hrd : rd_T48 es (pre.length : Int) = e := by rw [h]; exact rdat_T48 rfl
    have he := hc e (by rw [h]; simp)
    refine Ev.step (fun k => by simp only [spec_l11By.l0]; rw [if_pos (show (pre.length : Int) < (es.length : Int) by omega), if_pos (show (0 : Int) ≤ (pre.length : Int) by omega), if_pos (show (pre.length : Int) < (es.length : Int) by omega), hrd]) ?_
    have ih := by_l0 es hb hc post (pre ++ [e]) (insL ltC p e) (by rw [h]; simp) (by rw [insL_len]; simp [hl]) (insL_sorted e he p hp hs) (fun y hy => by
      rcases (insL_mem ltC e y p).1 hy with h1 | h1
      · rw [h1]; exact he
      · exact hp y h1)
    have := by_l1 es es.length (by omega) e (fun _ => True) p (by omega) (pre.length : Int) _ hs hp he (by rw [w_succ (by omega)]; simpa using ih) p [] rfl (by simp)
    simpa using this
theorem by_ev (es : List S48) (hb : es.length ≤ 500) (hc : ∀ y ∈ es, 0 ≤ y.f2 ∧ y.f2 ≤ 100000) : Ev (fun k => spec_l11By.f k es) (sortE es) := by
  have := by_l0 es hb hc es [] [] rfl rfl List.Pairwise.nil (by simp)
  unfold spec_l11By.f sortE
  simpa using this
end Go.Proofs.Ytpnhlccdhflogaa.Pure
