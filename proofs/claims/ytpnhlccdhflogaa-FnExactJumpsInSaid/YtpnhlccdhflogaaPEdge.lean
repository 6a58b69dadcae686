/- Edges: the program and the reference ask the same of edges, and tell alike what goes straight on. Conditions: none. -/
import Derived.Test.YtpnhlccdhflogaaPIdx
import Derived.Test.YtpnhlccdhflogaaQx0
import Derived.Test.YtpnhlccdhflogaaQx2
import Derived.Test.YtpnhlccdhflogaaQx3
import Derived.Test.YtpnhlccdhflogaaQx4
set_option linter.unusedVariables false
set_option linter.unusedSimpArgs false
set_option linter.unusedSectionVars false
namespace Go.Proofs.Ytpnhlccdhflogaa.Pure
open Go.RowKit Go.Proofs.Ytpnhlccdhflogaa.Q Go.Proofs.YtpnhlccdhflogaaW.PrintWords Go.Proofs.YtpnhlccdhflogaaW.PrintLast Go.Proofs.Ytpnhlccdhflogaa.Kit Go.Proofs.Ytpnhlccdhflogaa.Wf

theorem eds_in (a b c : Int) : Eds.inB a b c = inB a b c := rfl
def goodE (n : Int) (l : List S48) : Bool := Eds.ok n [] l && inB n 1 8 && decide ((l.length : Int) ≤ 20)
theorem impl_edges (n : Int) (l : List S48) : impl_areEdges.f n l = some (goodE n l) := by
  unfold impl_areEdges.f goodE
  rw [eds_in]
  congr 1
  cases inB n 1 8 <;> cases Eds.ok n [] l <;> simp
theorem spec_edges_l1 (n : Int) (l : List S48) (hb : l.length ≤ 1048576) (i : Nat) (hi : i < l.length) (a b c : Int) (r : Bool) (hr : Ev (fun k => spec_GoodEdges.l0 k n l l (l.length : Int) ((i + 1 : Nat) : Int)) r) : ∀ (post pre q : List S48), q = pre ++ post → q.length ≤ 1048576 →
    Ev (fun k => spec_GoodEdges.l1 k n l l (l.length : Int) (i : Int) q (q.length : Int) (pre.length : Int) a b c) (!(post.any fun o => o.f0 == a && o.f1 == b) && r)
  | [], pre, q, hq, hl => by
    have : q.length = pre.length := by rw [hq]; simp
    refine Ev.step (fun k => by simp only [spec_GoodEdges.l1]; rw [if_neg (by omega), w_succ (by omega)]) ?_
    simpa using hr
  | x :: post, pre, q, hq, hl => by
    have hn : q.length = pre.length + (post.length + 1) := by rw [hq]; simp
    have hrd : rd_T48 q (pre.length : Int) = x := by rw [hq]; exact rdat_T48 rfl
    have ih := spec_edges_l1 n l hb i hi a b c r hr post (pre ++ [x]) q (by simp [hq]) hl
    refine Ev.step (fun k => by simp only [spec_GoodEdges.l1]; rw [if_pos (by omega), if_pos (by omega), if_pos (by omega), hrd, w_succ (by omega)]) ?_
    have e2 : (((pre ++ [x]).length : Nat) : Int) = ((pre.length + 1 : Nat) : Int) := by simp
    rw [e2] at ih
    by_cases h0 : x.f0 = a
    · refine ite_t h0 ?_
      by_cases h1 : x.f1 = b
      · exact ite_t h1 (some_ev (by simp [h0, h1]))
      · have e : ((x :: post).any fun o => o.f0 == a && o.f1 == b) = (post.any fun o => o.f0 == a && o.f1 == b) := by simp [h1]
        rw [e]
        exact ite_f h1 ih
    · have e : ((x :: post).any fun o => o.f0 == a && o.f1 == b) = (post.any fun o => o.f0 == a && o.f1 == b) := by simp [h0]
      rw [e]
      exact ite_f h0 ih
theorem spec_edges_l0 (n : Int) (l : List S48) (hb : l.length ≤ 1048576) : ∀ (post pre : List S48), l = pre ++ post →
    Ev (fun k => spec_GoodEdges.l0 k n l l (l.length : Int) (pre.length : Int)) (Eds.ok n pre post && inB n 1 8 && decide ((l.length : Int) ≤ 20))
  | [], pre, hl => by
    have : l.length = pre.length := by rw [hl]; simp
    refine Ev.step (fun k => by simp only [spec_GoodEdges.l0]; rw [if_neg (by omega)]) ?_
    simp only [spec_l11Blocks.f, spec_in, Option.bind_some, Eds.ok, Bool.true_and]
    cases inB n 1 8
    · exact ite_f (by simp) (some_ev (by simp))
    · exact ite_t rfl (some_ev (by simp))
  | x :: post, pre, hl => by
    have hn : l.length = pre.length + (post.length + 1) := by rw [hl]; simp
    have hrd : rd_T48 l (pre.length : Int) = x := by rw [hl]; exact rdat_T48 rfl
    have htk : l.take (pre.length : Int).toNat = pre := by rw [hl]; simp
    have ih := spec_edges_l0 n l hb post (pre ++ [x]) (by simp [hl])
    have e2 : (((pre ++ [x]).length : Nat) : Int) = ((pre.length + 1 : Nat) : Int) := by simp
    rw [e2] at ih
    have jt : Ev (fun k => spec_GoodEdges.j1 k n l (pre.length : Int) l (l.length : Int) (pre.length : Int) true x.f0 x.f1 x.f2) false := by
      refine Ev.step (fun k => by simp only [spec_GoodEdges.j1]; rfl) ?_
      exact ite_t (by trivial) (Ev.now _)
    have jf : Ev (fun k => spec_GoodEdges.j1 k n l (pre.length : Int) l (l.length : Int) (pre.length : Int) false x.f0 x.f1 x.f2) (!(pre.any fun o => o.f0 == x.f0 && o.f1 == x.f1) && (Eds.ok n (pre ++ [x]) post && inB n 1 8 && decide ((l.length : Int) ≤ 20))) := by
      refine Ev.step (fun k => by simp only [spec_GoodEdges.j1]; rfl) ?_
      refine ite_f (by simp) (ite_t (by omega) (ite_t (by omega) (bind_ev (Ev.now _) ?_)))
      rw [htk]
      have := spec_edges_l1 n l hb pre.length (by omega) x.f0 x.f1 x.f2 _ ih pre [] pre rfl (by omega)
      simpa using this
    refine Ev.step (fun k => by simp only [spec_GoodEdges.l0]; rw [if_pos (by omega), if_pos (by omega), if_pos (by omega), hrd, spec_in]) ?_
    simp only [Eds.ok, Eds.ok1, eds_in, Option.bind_some]
    by_cases h1 : x.f0 < 0
    · exact ite_t h1 (by rw [show inB x.f0 0 (n - 1) = false by rw [Bool.eq_false_iff]; intro h; have := (inB_iff _ _ _).1 h; omega]; simpa using jt)
    refine ite_f h1 ?_
    by_cases h2 : x.f0 ≥ n
    · exact ite_t h2 (by rw [show inB x.f0 0 (n - 1) = false by rw [Bool.eq_false_iff]; intro h; have := (inB_iff _ _ _).1 h; omega]; simpa using jt)
    refine ite_f h2 ?_
    rw [show inB x.f0 0 (n - 1) = true from (inB_iff _ _ _).2 (by omega)]
    by_cases h3 : x.f1 < 0
    · exact ite_t h3 (by rw [show inB x.f1 0 (n - 1) = false by rw [Bool.eq_false_iff]; intro h; have := (inB_iff _ _ _).1 h; omega]; simpa using jt)
    refine ite_f h3 ?_
    by_cases h4 : x.f1 ≥ n
    · exact ite_t h4 (by rw [show inB x.f1 0 (n - 1) = false by rw [Bool.eq_false_iff]; intro h; have := (inB_iff _ _ _).1 h; omega]; simpa using jt)
    refine ite_f h4 ?_
    rw [show inB x.f1 0 (n - 1) = true from (inB_iff _ _ _).2 (by omega)]
    cases inB x.f2 0 100000 with
    | false => simpa using jt
    | true => simpa [Eds.had, Bool.and_assoc] using jf
theorem spec_edges (n : Int) (l : List S48) (hb : l.length ≤ 1048576) : Ev (fun k => spec_GoodEdges.f k n l) (goodE n l) := by
  have := spec_edges_l0 n l hb l [] rfl
  unfold spec_GoodEdges.f goodE
  simpa using this
structure EdgeOk (n : Int) (e : S48) : Prop where
  f0 : 0 ≤ e.f0
  f1 : e.f0 < n
  t0 : 0 ≤ e.f1
  t1 : e.f1 < n
  c0 : 0 ≤ e.f2
  c1 : e.f2 ≤ 100000
theorem ok_all (n : Int) : ∀ (post pre : List S48), Eds.ok n pre post = true → ∀ e ∈ post, EdgeOk n e
  | [], _, _, e, he => by cases he
  | x :: post, pre, h, e, he => by
    simp only [Eds.ok, Eds.ok1, eds_in, Bool.and_eq_true] at h
    rcases List.mem_cons.1 he with rfl | he
    · have h1 := (inB_iff _ _ _).1 h.1.1.1.1
      have h2 := (inB_iff _ _ _).1 h.1.1.1.2
      have h3 := (inB_iff _ _ _).1 h.1.1.2
      exact ⟨h1.1, by omega, h2.1, by omega, h3.1, h3.2⟩
    · exact ok_all n post _ h.2 e he
/-- Do a and b stand one behind the other? -/
def adj (a b : Int) : List Int → Bool
  | [] => false
  | [_] => false
  | x :: y :: t => (x == a && y == b) || adj a b (y :: t)
theorem adj_no (a b : Int) : ∀ (l : List Int), a ∉ l → adj a b l = false
  | [], _ => rfl
  | [_], _ => rfl
  | x :: y :: t, h => by
    simp only [List.mem_cons, not_or] at h
    simp only [adj]
    rw [adj_no a b (y :: t) (by simp only [List.mem_cons, not_or]; exact h.2)]
    simp [Ne.symm h.1]
theorem adj_at (a b : Int) : ∀ (p q : List Int), a ∉ p → a ∉ q → adj a b (p ++ a :: q) = (match q with | [] => false | y :: _ => y == b)
  | [], [], _, _ => rfl
  | [], y :: t, _, hq => by
    simp only [List.nil_append, adj]
    rw [adj_no a b (y :: t) hq]
    simp
  | x :: p, q, hp, hq => by
    simp only [List.mem_cons, not_or] at hp
    have ih := adj_at a b p q hp.2 hq
    cases p with
    | nil =>
      simp only [List.cons_append, List.nil_append, adj] at ih ⊢
      rw [ih]; simp [Ne.symm hp.1]
    | cons z p =>
      simp only [List.cons_append, adj] at ih ⊢
      rw [ih]; simp [Ne.symm hp.1]
theorem spec_str_l1 (l : List Int) (x6 x7 : Int) (es : List S48) (i : Int) (e : S48) (hb : l.length ≤ 1048576) (rT rF : Int × Int)
    (hT : Ev (fun k => spec_l11Straight.l0 k l (wrap64 (x6 + e.f2)) x7 es (es.length : Int) (wrap64 (i + 1))) rT) (hF : Ev (fun k => spec_l11Straight.l0 k l x6 (wrap64 (x7 + e.f2)) es (es.length : Int) (wrap64 (i + 1))) rF) :
    ∀ (post pre : List Int) (x : Int), l = pre ++ x :: post → ∀ on : Bool, Ev (fun k => spec_l11Straight.l1 k l x6 x7 on ((pre.length + 1 : Nat) : Int) es (es.length : Int) i e.f0 e.f1 e.f2) (if (on || adj e.f0 e.f1 (x :: post)) = true then rT else rF)
  | [], pre, x, hl, on => by
    have hn : l.length = pre.length + 1 := by rw [hl]; simp
    refine Ev.step (fun k => by simp only [spec_l11Straight.l1]; rw [if_neg (by omega)]) ?_
    cases on with
    | true => exact ite_t rfl (by simpa using hT)
    | false => exact ite_f (by simp) (by simpa [adj] using hF)
  | y :: post, pre, x, hl, on => by
    have hn : l.length = pre.length + (post.length + 2) := by rw [hl]; simp
    have ih := spec_str_l1 l x6 x7 es i e hb rT rF hT hF post (pre ++ [x]) y (by simp [hl])
    have e2 : (((pre ++ [x]).length + 1 : Nat) : Int) = ((pre.length + 1 + 1 : Nat) : Int) := by simp
    rw [e2] at ih
    have h0 : rd l (pre.length : Int) = x := by rw [hl]; exact rd_at rfl
    have h1 : rd l ((pre.length + 1 : Nat) : Int) = y := by rw [hl, show pre ++ x :: y :: post = (pre ++ [x]) ++ y :: post by simp]; exact rd_at (by simp)
    have w1 : wrap64 (((pre.length + 1 : Nat) : Int) - 1) = (pre.length : Int) := by rw [w64 (by omega) (by omega)]; omega
    refine Ev.step (fun k => by simp only [spec_l11Straight.l1]; rw [if_pos (by omega), w1, w_succ (n := pre.length + 1) (by omega)]) ?_
    cases on with
    | true => exact ite_t rfl (by simpa using ih true)
    | false =>
      refine ite_f (by simp) (ite_t (by omega) (ite_t (by omega) ?_))
      rw [h0, h1]
      simp only [adj, Bool.false_or]
      by_cases hx : x = e.f0
      · refine ite_t hx (ite_t (by omega) ?_)
        have := ih (y == e.f1)
        rw [show (x == e.f0) = true by simp [hx], Bool.true_and]
        exact this
      · refine ite_f hx ?_
        rw [show (x == e.f0) = false by simp [hx], Bool.false_and]
        exact ih false
def sumOn (l : List Int) : List S48 → Int
  | [] => 0
  | e :: es => (if adj e.f0 e.f1 l = true then e.f2 else 0) + sumOn l es
def sumOff (l : List Int) : List S48 → Int
  | [] => 0
  | e :: es => (if adj e.f0 e.f1 l = true then 0 else e.f2) + sumOff l es
def sumAll : List S48 → Int
  | [] => 0
  | e :: es => e.f2 + sumAll es
theorem sums (l : List Int) : ∀ es : List S48, sumOn l es + sumOff l es = sumAll es
  | [] => rfl
  | e :: es => by
    have := sums l es
    simp only [sumOn, sumOff, sumAll]
    split <;> omega
theorem sum_bd (l : List Int) : ∀ es : List S48, (∀ e ∈ es, 0 ≤ e.f2 ∧ e.f2 ≤ 100000) → 0 ≤ sumOn l es ∧ sumOn l es ≤ 100000 * es.length ∧ 0 ≤ sumOff l es ∧ sumOff l es ≤ 100000 * es.length ∧ 0 ≤ sumAll es ∧ sumAll es ≤ 100000 * es.length
  | [], _ => by simp [sumOn, sumOff, sumAll]
  | e :: es, h => by
    have ih := sum_bd l es (fun x hx => h x (by simp [hx]))
    have he := h e (by simp)
    simp only [sumOn, sumOff, sumAll, List.length_cons]
    split <;> omega
theorem spec_str_l0 (l : List Int) (es : List S48) (hb : l.length ≤ 1048576) (hl : 0 < l.length) (hc : es.length ≤ 20) (he : ∀ e ∈ es, 0 ≤ e.f2 ∧ e.f2 ≤ 100000) : ∀ (post pre : List S48), es = pre ++ post → ∀ a b : Int, 0 ≤ a → a ≤ 100000 * pre.length → 0 ≤ b → b ≤ 100000 * pre.length →
    Ev (fun k => spec_l11Straight.l0 k l a b es (es.length : Int) (pre.length : Int)) (a + sumOn l post, b + sumOff l post)
  | [], pre, h, a, b, a0, a1, b0, b1 => by
    have : es.length = pre.length := by rw [h]; simp
    refine Ev.step (fun k => by simp only [spec_l11Straight.l0]; rw [if_neg (by omega)]) ?_
    exact some_ev (by simp [sumOn, sumOff])
  | x :: post, pre, h, a, b, a0, a1, b0, b1 => by
    have hn : es.length = pre.length + (post.length + 1) := by rw [h]; simp
    have hrd : rd_T48 es (pre.length : Int) = x := by rw [h]; exact rdat_T48 rfl
    have hx := he x (by rw [h]; simp)
    have i1 := spec_str_l0 l es hb hl hc he post (pre ++ [x]) (by simp [h]) (a + x.f2) b (by omega) (by simp; omega) b0 (by simp; omega)
    have i2 := spec_str_l0 l es hb hl hc he post (pre ++ [x]) (by simp [h]) a (b + x.f2) a0 (by simp; omega) (by omega) (by simp; omega)
    have e2 : (((pre ++ [x]).length : Nat) : Int) = wrap64 ((pre.length : Int) + 1) := by rw [w64 (by omega) (by omega)]; simp
    rw [e2] at i1 i2
    rw [show a + x.f2 = wrap64 (a + x.f2) from (w64 (by omega) (by omega)).symm] at i1
    rw [show b + x.f2 = wrap64 (b + x.f2) from (w64 (by omega) (by omega)).symm] at i2
    obtain ⟨y, t, rfl⟩ : ∃ y t, l = y :: t := by
      cases l with
      | nil => simp at hl
      | cons y t => exact ⟨y, t, rfl⟩
    have hl1 := spec_str_l1 (y :: t) a b es (pre.length : Int) x hb _ _ i1 i2 t [] y rfl false
    refine Ev.step (fun k => by simp only [spec_l11Straight.l0]; rw [if_pos (by omega), if_pos (by omega), if_pos (by omega), hrd]) ?_
    have e3 : (if (false || adj x.f0 x.f1 (y :: t)) = true then (wrap64 (a + x.f2) + sumOn (y :: t) post, b + sumOff (y :: t) post) else (a + sumOn (y :: t) post, wrap64 (b + x.f2) + sumOff (y :: t) post)) = (a + sumOn (y :: t) (x :: post), b + sumOff (y :: t) (x :: post)) := by
      simp only [sumOn, sumOff, Bool.false_or]
      rw [w64 (x := a + x.f2) (by omega) (by omega), w64 (x := b + x.f2) (by omega) (by omega)]
      split
      · ext <;> simp <;> omega
      · ext <;> simp <;> omega
    rw [← e3]
    simpa using hl1
theorem spec_str (l : List Int) (es : List S48) (hb : l.length ≤ 1048576) (hl : 0 < l.length) (hc : es.length ≤ 20) (he : ∀ e ∈ es, 0 ≤ e.f2 ∧ e.f2 ≤ 100000) : Ev (fun k => spec_l11Straight.f k es l) (sumOn l es, sumOff l es) := by
  have := spec_str_l0 l es hb hl hc he es [] rfl 0 0 (by omega) (by simp) (by omega) (by simp)
  unfold spec_l11Straight.f
  simpa using this
theorem idx_adj {n : Int} {l : List Int} (ok : LayOk n l) (a b : Int) (h0 : 0 ≤ a) (h1 : a < n) : ∃ i : Nat, idxF l a 0 = (i : Int) ∧ i < l.length ∧ adj a b l = decide ((i + 1 < l.length) ∧ rd l ((i + 1 : Nat) : Int) = b) := by
  obtain ⟨p, q, e, hp, hi⟩ := idxF_mem (ok.all a h0 h1)
  have hq : a ∉ q := by
    have hn := ok.nodup
    rw [e] at hn
    have := (List.nodup_append.1 hn).2.1
    exact (List.nodup_cons.1 this).1
  refine ⟨p.length, hi, by rw [e]; simp, ?_⟩
  have h2 := adj_at a b p q hp hq
  rw [← e] at h2
  rw [h2]
  have hl : l.length = p.length + (q.length + 1) := by rw [e]; simp
  cases q with
  | nil => simp at hl; simp [hl]
  | cons y t =>
    have hr : rd l ((p.length + 1 : Nat) : Int) = y := by rw [e, show p ++ a :: y :: t = (p ++ [a]) ++ y :: t by simp]; exact rd_at (by simp)
    simp only [List.length_cons] at hl
    rw [hr]
    rw [Bool.eq_iff_iff]
    simp
    omega
theorem impl_str_l0 (n : Int) (l : List Int) (ok : LayOk n l) (es : List S48) (hc : es.length ≤ 20) (he : ∀ e ∈ es, EdgeOk n e) : ∀ (post pre : List S48), es = pre ++ post → ∀ a : Int, 0 ≤ a → a ≤ 100000 * pre.length →
    Ev (fun k => impl_straight.l0 k l a es (es.length : Int) (pre.length : Int)) (a + sumOn l post)
  | [], pre, h, a, a0, a1 => by
    have : es.length = pre.length := by rw [h]; simp
    refine Ev.step (fun k => by simp only [impl_straight.l0]; rw [if_neg (by omega)]) ?_
    exact some_ev (by simp [sumOn])
  | x :: post, pre, h, a, a0, a1 => by
    have hn : es.length = pre.length + (post.length + 1) := by rw [h]; simp
    have hrd : rd_T48 es (pre.length : Int) = x := by rw [h]; exact rdat_T48 rfl
    have hx := he x (by rw [h]; simp)
    have hx0 := hx.c0
    have hx1 := hx.c1
    have hl8 : l.length ≤ 8 := by have := ok.len; have := ok.hi; omega
    have i1 := impl_str_l0 n l ok es hc he post (pre ++ [x]) (by simp [h]) (a + x.f2) (by omega) (by simp; omega)
    have i2 := impl_str_l0 n l ok es hc he post (pre ++ [x]) (by simp [h]) a a0 (by simp; omega)
    have e2 : (((pre ++ [x]).length : Nat) : Int) = ((pre.length + 1 : Nat) : Int) := by simp
    rw [e2] at i1 i2
    obtain ⟨i, hi, hil, ha⟩ := idx_adj ok x.f0 x.f1 hx.f0 hx.f1
    have w1 : wrap64 (idxF l x.f0 0 + 1) = ((i + 1 : Nat) : Int) := by rw [hi, w64 (by omega) (by omega)]; omega
    refine Ev.step (fun k => by simp only [impl_straight.l0]; rw [if_pos (by omega), if_pos (by omega), if_pos (by omega), hrd, w_succ (by omega), w64 (x := a + x.f2) (by omega) (by omega)]) ?_
    refine bind_ev (index_ev l x.f0 (by omega)) ?_
    rw [w1]
    simp only [sumOn]
    by_cases h1 : i + 1 < l.length
    · refine ite_t (by omega) (ite_t (by omega) ?_)
      by_cases h2 : rd l ((i + 1 : Nat) : Int) = x.f1
      · rw [if_pos (by rw [ha]; simp only [decide_eq_true_eq]; exact ⟨h1, h2⟩), ← Int.add_assoc]
        exact ite_t h2 i1
      · rw [if_neg (by rw [ha]; simp only [decide_eq_true_eq]; exact fun h => h2 h.2), Int.zero_add]
        exact ite_f h2 i2
    · rw [if_neg (by rw [ha]; simp only [decide_eq_true_eq]; exact fun h => h1 h.1), Int.zero_add]
      exact ite_f (by omega) i2
theorem impl_str (n : Int) (l : List Int) (ok : LayOk n l) (es : List S48) (hc : es.length ≤ 20) (he : ∀ e ∈ es, EdgeOk n e) : Ev (fun k => impl_straight.f k es l) (sumOn l es) := by
  have := impl_str_l0 n l ok es hc he es [] rfl 0 (by omega) (by simp)
  unfold impl_straight.f
  simpa using this
theorem goodE_ok {n : Int} {l : List S48} (h : goodE n l = true) : l.length ≤ 20 ∧ ∀ e ∈ l, EdgeOk n e := by
  simp only [goodE, Bool.and_eq_true, decide_eq_true_eq] at h
  exact ⟨by omega, ok_all n l [] h.1.1⟩
end Go.Proofs.Ytpnhlccdhflogaa.Pure
