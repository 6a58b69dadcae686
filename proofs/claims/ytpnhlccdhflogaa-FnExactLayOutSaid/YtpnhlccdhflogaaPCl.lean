/- Chains: both tell the same chains. Conditions: none. -/
import Derived.Test.YtpnhlccdhflogaaPCk
import Derived.Test.YtpnhlccdhflogaaQx0
import Derived.Test.YtpnhlccdhflogaaQx2
import Derived.Test.YtpnhlccdhflogaaQx3
import Derived.Test.YtpnhlccdhflogaaQx6
set_option linter.unusedVariables false
set_option linter.unusedSimpArgs false
set_option linter.unusedSectionVars false
namespace Go.Proofs.Ytpnhlccdhflogaa.Pure
open Go.RowKit Go.Proofs.Ytpnhlccdhflogaa.Q Go.Proofs.YtpnhlccdhflogaaW.PrintWords Go.Proofs.YtpnhlccdhflogaaW.PrintLast Go.Proofs.Ytpnhlccdhflogaa.Kit Go.Proofs.Ytpnhlccdhflogaa.Wf
theorem ch_l1 {n : Nat} (S : List S48) (hS : S.length ≤ 1000) (r : List (List Int)) : ∀ (post pre : List S48) (X C : List (List Int)), S = pre ++ post → Sim n X C →
    (∀ X', Sim n X' (post.foldl stepC C) → X'.length = X.length → Ev (fun k => spec_l11Chains.l3 k (n : Int) X' [] 0) r) →
    Ev (fun k => spec_l11Chains.l1 k (n : Int) X S (S.length : Int) (pre.length : Int)) r
  | [], pre, X, C, h, hs, hr => by
    have : S.length = pre.length := by rw [h]; simp
    refine Ev.step (fun k => by simp only [spec_l11Chains.l1]; rw [if_neg (by omega)]) ?_
    exact hr X hs rfl
  | e :: post, pre, X, C, h, hs, hr => by
    have hn : S.length = pre.length + (post.length + 1) := by rw [h]; simp
    have hrd : rd_T48 S (pre.length : Int) = e := by rw [h]; exact rdat_T48 rfl
    refine Ev.step (fun k => by simp only [spec_l11Chains.l1]; rw [if_pos (show (pre.length : Int) < (S.length : Int) by omega), if_pos (show (0 : Int) ≤ (pre.length : Int) by omega), if_pos (show (pre.length : Int) < (S.length : Int) by omega), hrd]) ?_
    have hX := hs.len
    have hE : ∀ c ∈ X, c.length ≤ 1000 := by
      intro c hc
      by_cases h0 : c = []
      · rw [h0]; simp
      · have := Iv_elem hs.iv (hs.mem h0 hc)
        have := hs.n8
        omega
    have := ch_l2 (n : Int) X (by omega) hE S (S.length : Int) (pre.length : Int) e r X [] (-1) (-1) rfl (by
      refine ch_step hs S (S.length : Int) (pre.length : Int) e r (fun X' h1 h2 => ?_)
      rw [w_succ (by omega)]
      have := ch_l1 S hS r post (pre ++ [e]) X' (stepC C e) (by rw [h]; simp) h1 (fun X2 h3 h4 => hr X2 h3 (h4.trans h2))
      simpa using this)
    simpa using this
/-- The reference's rows in their order. -/
def outC (X : List (List Int)) (i : Int) (d : Nat) : List (List Int) := (from_ i d).flatMap fun f => X.filter fun c => decide (c ≠ []) && decide (rd c 0 = f)
theorem ch_l4 (n : Nat) (X : List (List Int)) (hX : X.length ≤ 8) (first : Int) (r : List (List Int)) : ∀ (post pre out : List (List Int)), X = pre ++ post → out.length + post.length ≤ 1000 →
    Ev (fun k => spec_l11Chains.l3 k (n : Int) X (out ++ post.filter fun c => decide (c ≠ []) && decide (rd c 0 = first)) (wrap64 (first + 1))) r →
    Ev (fun k => spec_l11Chains.l4 k (n : Int) X out first X (X.length : Int) (pre.length : Int)) r
  | [], pre, out, h, ho, hr => by
    have : X.length = pre.length := by rw [h]; simp
    refine Ev.step (fun k => by simp only [spec_l11Chains.l4]; rw [if_neg (by omega)]) ?_
    simpa using hr
  | c :: post, pre, out, h, ho, hr => by
    have hn : X.length = pre.length + (post.length + 1) := by rw [h]; simp
    have hrd : rd_L5 X (pre.length : Int) = c := by rw [h]; exact rdL5_at rfl
    simp only [List.length_cons] at ho
    have ih := fun out ho => ch_l4 n X hX first r post (pre ++ [c]) out (by rw [h]; simp) ho
    have e3 : (pre ++ [c]).length = pre.length + 1 := by simp
    simp only [e3] at ih
    refine Ev.step (fun k => by simp only [spec_l11Chains.l4]; rw [if_pos (show (pre.length : Int) < (X.length : Int) by omega), if_pos (show (0 : Int) ≤ (pre.length : Int) by omega), if_pos (show (pre.length : Int) < (X.length : Int) by omega), hrd, w_succ (by omega)]) ?_
    by_cases hc : c = []
    · rw [List.filter_cons_of_neg (by simp [hc])] at hr
      exact ite_f (by simp [hc]) (ih out (by omega) hr)
    · have hp : 0 < c.length := List.length_pos_iff.2 hc
      refine ite_t (by omega) (ite_t (by omega) ?_)
      by_cases h1 : rd c 0 = first
      · rw [List.filter_cons_of_pos (by simp [hc, h1])] at hr
        refine ite_t h1 (ite_t (by omega) ?_)
        exact ih (out ++ [c]) (by simp; omega) (by simpa using hr)
      · rw [List.filter_cons_of_neg (by simp [h1])] at hr
        exact ite_f h1 (ih out (by omega) hr)
theorem outC_len {n : Nat} {X C : List (List Int)} (h : Sim n X C) (i : Int) : (X.filter fun c => decide (c ≠ []) && decide (rd c 0 = i)).length ≤ 8 := Nat.le_trans (List.length_filter_le _ _) h.len
theorem ch_l3 {n : Nat} {X C : List (List Int)} (h : Sim n X C) : ∀ (d i : Nat) (out : List (List Int)), i + d = n → out.length + 8 * d ≤ 900 → Ev (fun k => spec_l11Chains.l3 k (n : Int) X out (i : Int)) (out ++ outC X (i : Int) d)
  | 0, i, out, hi, ho => by
    refine Ev.step (fun k => by simp only [spec_l11Chains.l3]; rw [if_neg (by omega)]) ?_
    refine some_ev ?_
    simp [outC, from_]
  | d + 1, i, out, hi, ho => by
    refine Ev.step (fun k => by simp only [spec_l11Chains.l3]; rw [if_pos (by omega)]) ?_
    have hn8 := h.n8
    have hX := h.len
    have hl := outC_len h (i : Int)
    have ih := ch_l3 h d (i + 1) (out ++ X.filter fun c => decide (c ≠ []) && decide (rd c 0 = (i : Int))) (by omega) (by rw [List.length_append]; omega)
    have := ch_l4 n X hX (i : Int) _ X [] out rfl (by omega) (by rw [w_succ (by omega)]; exact ih)
    have e : out ++ outC X (i : Int) (d + 1) = (out ++ X.filter fun c => decide (c ≠ []) && decide (rd c 0 = (i : Int))) ++ outC X ((i + 1 : Nat) : Int) d := by
      unfold outC
      rw [List.append_assoc]
      congr 1
    rw [e]
    simpa using this
theorem mem_from (x : Int) : ∀ (d : Nat) (i : Int), x ∈ from_ i d ↔ i ≤ x ∧ x < i + d
  | 0, i => by
    show x ∈ ([] : List Int) ↔ _
    simp only [List.not_mem_nil, false_iff]
    omega
  | d + 1, i => by
    show x ∈ i :: from_ (i + 1) d ↔ _
    rw [List.mem_cons, mem_from x d (i + 1)]
    omega
theorem from_sorted : ∀ (d : Nat) (i : Int), (from_ i d).Pairwise (fun a b => a < b)
  | 0, _ => List.Pairwise.nil
  | d + 1, i => by
    show (i :: from_ (i + 1) d).Pairwise _
    refine List.pairwise_cons.2 ⟨fun b hb => ?_, from_sorted d (i + 1)⟩
    have := (mem_from b d (i + 1)).1 hb
    omega
theorem sorted_uniq2 : ∀ (A B : List (List Int)), (∀ x, x ∈ A ↔ x ∈ B) → A.Pairwise (fun a b => rd a 0 < rd b 0) → B.Pairwise (fun a b => rd a 0 < rd b 0) → A = B
  | [], [], _, _, _ => rfl
  | [], b :: B, h, _, _ => absurd ((h b).2 (by simp)) (by simp)
  | a :: A, [], h, _, _ => absurd ((h a).1 (by simp)) (by simp)
  | a :: A, b :: B, h, hA, hB => by
    have hA1 := List.pairwise_cons.1 hA
    have hB1 := List.pairwise_cons.1 hB
    have e : a = b := by
      rcases List.mem_cons.1 ((h a).1 (by simp)) with h1 | h1
      · exact h1
      · rcases List.mem_cons.1 ((h b).2 (by simp)) with h2 | h2
        · exact h2.symm
        · have := hB1.1 a h1
          have := hA1.1 b h2
          omega
    subst e
    congr 1
    refine sorted_uniq2 A B (fun x => ?_) hA1.2 hB1.2
    constructor
    · intro hx
      rcases List.mem_cons.1 ((h x).1 (by simp [hx])) with h1 | h1
      · have := hA1.1 x hx; rw [h1] at this; omega
      · exact h1
    · intro hx
      rcases List.mem_cons.1 ((h x).2 (by simp [hx])) with h1 | h1
      · have := hB1.1 x hx; rw [h1] at this; omega
      · exact h1
theorem outC_eq {n : Nat} {X C : List (List Int)} (h : Sim n X C) : outC X 0 n = byFirst C := by
  have hp : (byFirst C).Perm C := List.mergeSort_perm _ _
  have hm2 : (byFirst C).Pairwise (fun a b => rd a 0 ≤ rd b 0) := by
    have := List.pairwise_mergeSort (le := fun a b : List Int => decide (rd a 0 ≤ rd b 0)) (by intro a b c h1 h2; simp at *; omega) (by intro a b; simp; omega) C
    exact this.imp (fun {a b} h => by simpa using h)
  have hne : (byFirst C).Pairwise (fun a b => rd a 0 ≠ rd b 0) := (hp.pairwise_iff (fun {a b} h => h.symm)).2 (Iv_heads h.iv)
  have hX : X.Pairwise (fun a b => ne a = true → ne b = true → rd a 0 ≠ rd b 0) := by
    have := Iv_heads h.iv
    rw [← h.eq] at this
    exact List.pairwise_filter.1 this
  refine sorted_uniq2 _ _ (fun x => ?_) ?_ (strict_of hm2 hne)
  · rw [hp.mem_iff]
    unfold outC
    rw [List.mem_flatMap]
    constructor
    · rintro ⟨f, _, hx⟩
      have hx2 := List.mem_filter.1 hx
      simp only [Bool.and_eq_true, decide_eq_true_eq] at hx2
      exact h.mem hx2.2.1 hx2.1
    · intro hx
      have hb := h.back hx
      have hh := Iv_head h.iv hx
      exact ⟨rd x 0, (mem_from _ n 0).2 (by omega), List.mem_filter.2 ⟨hb.1, by simp [hb.2]⟩⟩
  · unfold outC
    rw [List.pairwise_flatMap]
    constructor
    · intro f _
      rw [List.pairwise_filter]
      refine hX.imp (fun {a b} hab ha hb => ?_)
      simp only [Bool.and_eq_true, decide_eq_true_eq] at ha hb
      exact absurd (ha.2.trans hb.2.symm) (hab (by simp [ne, ha.1]) (by simp [ne, hb.1]))
    · refine (from_sorted n 0).imp (fun {a b} hab x hx y hy => ?_)
      have hx2 := List.mem_filter.1 hx
      have hy2 := List.mem_filter.1 hy
      simp only [Bool.and_eq_true, decide_eq_true_eq] at hx2 hy2
      omega
theorem start_l0 (n : Nat) (hn : n ≤ 8) (es : List S48) (r : List (List Int)) : ∀ (d i : Nat), i + d = n →
    (Ev (fun k => (spec_l11By.f k es).bind fun t => spec_l11Chains.l1 k (n : Int) (startC n) t (t.length : Int) 0) r) →
    Ev (fun k => spec_l11Chains.l0 k (n : Int) es (startC i ++ List.replicate d []) (n : Int) (i : Int)) r
  | 0, i, hi, hr => by
    obtain rfl : i = n := by omega
    refine Ev.step (fun k => by simp only [spec_l11Chains.l0]; rw [if_neg (by omega)]) ?_
    simpa using hr
  | d + 1, i, hi, hr => by
    have hl : (startC i ++ List.replicate (d + 1) ([] : List Int)).length = n := by simp [startC]; omega
    refine Ev.step (fun k => by simp only [spec_l11Chains.l0]; rw [if_pos (show (i : Int) < (n : Int) by omega), if_pos (show (0 : Int) ≤ (i : Int) by omega), if_pos (show (i : Int) < ((startC i ++ List.replicate (d + 1) ([] : List Int)).length : Int) by omega), w_succ (by omega)]) ?_
    have e : (startC i ++ List.replicate (d + 1) ([] : List Int)).set (i : Int).toNat [(i : Int)] = startC (i + 1) ++ List.replicate d [] := by
      rw [Int.toNat_natCast, startC_succ, List.replicate_succ, List.append_assoc]
      exact set_at (by simp [startC])
    rw [e]
    exact start_l0 n hn es r d (i + 1) (by omega) hr
theorem chains_ev (n : Nat) (h1 : 1 ≤ n) (h8 : n ≤ 8) (es : List S48) (h20 : es.length ≤ 20) (hc : ∀ y ∈ es, 0 ≤ y.f2 ∧ y.f2 ≤ 100000) : Ev (fun k => spec_l11Chains.f k (n : Int) es) (chainsP n es) := by
  unfold spec_l11Chains.f
  refine ite_t (by omega) (ite_t (by omega) (bind_ev (Ev.now _) ?_))
  have hs : Sim n (startC n) (startC n) := ⟨List.filter_eq_self.2 (fun c hc => by simpa [ne] using (Iv_start n).2 c hc), Iv_start n, by rw [startC_len]; omega, h8⟩
  have key : Ev (fun k => (spec_l11By.f k es).bind fun t => spec_l11Chains.l1 k (n : Int) (startC n) t (t.length : Int) 0) (chainsP n es) := by
    refine bind_ev (by_ev es (by omega) hc) ?_
    have := ch_l1 (n := n) (sortE es) (by rw [sortE_len]; omega) (chainsP n es) (sortE es) [] (startC n) (startC n) rfl hs (fun X' h3 _ => by
      have := ch_l3 h3 n 0 [] (by omega) (by simp; omega)
      have e := outC_eq h3
      unfold chainsP
      rw [← e]
      simpa using this)
    simpa using this
  have := start_l0 n h8 es _ n 0 (by omega) key
  rw [Int.toNat_natCast, List.length_replicate]
  simpa [startC] using this
end Go.Proofs.Ytpnhlccdhflogaa.Pure
