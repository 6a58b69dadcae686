/- GreedyCover: the program and the reference answer alike. Conditions: none. -/
import Derived.Test.YtfdbdbihhgabpaaPGood
import Derived.Test.YtfdbdbihhgabpaaDataN
import Derived.Test.YtfdbdbihhgabpaaQx0
import Derived.Test.YtfdbdbihhgabpaaQx3
import Derived.Test.YtfdbdbihhgabpaaQx6
import Derived.Test.YtfdbdbihhgabpaaQx7
import Derived.Test.YtfdbdbihhgabpaaQx8
import Derived.Test.YtfdbdbihhgabpaaQx9
import Derived.Test.YtfdbdbihhgabpaaQx10
set_option linter.unusedVariables false
set_option linter.unusedSimpArgs false
set_option linter.unusedSectionVars false
namespace Go.Proofs.Ytfdbdbihhgabpaa.Pure
open Go.RowKit Go.Proofs.Ytfdbdbihhgabpaa.Q Go.Proofs.YtfdbdbihhgabpaaW.PrintWords Go.Proofs.YtfdbdbihhgabpaaW.PrintLast Go.Proofs.Ytfdbdbihhgabpaa.Kit Go.Proofs.Ytfdbdbihhgabpaa.Wf

theorem szAt_leG (t : List Int) (q : Nat) : szAt t q ≤ t.length := by
  unfold szAt
  split
  · simp; omega
  · omega
/-- How many kinds are told. -/
def wtN : List Int → Nat
  | [] => 0
  | x :: xs => (if x = 0 then 0 else 1) + wtN xs
theorem wtN_le : ∀ K, wtN K ≤ K.length
  | [] => by simp [wtN]
  | x :: xs => by have := wtN_le xs; simp only [wtN, List.length_cons]; split <;> omega
theorem spec_wt_l0 (K : List Int) (hb : K.length ≤ 1000) : ∀ (post pre : List Int) (n : Nat), K = pre ++ post → n ≤ pre.length →
    Ev (fun k => spec_l9Weight.l0 k (n : Int) K (K.length : Int) (pre.length : Int)) ((n + wtN post : Nat) : Int)
  | [], pre, n, hl, hn => by
    have : K.length = pre.length := by rw [hl]; simp
    refine Ev.step (fun k => by simp only [spec_l9Weight.l0]; rw [if_neg (by omega)]) ?_
    exact some_ev (by simp [wtN])
  | x :: post, pre, n, hl, hn => by
    have hk : K.length = pre.length + (post.length + 1) := by rw [hl]; simp
    have hr : rd K (pre.length : Int) = x := by rw [hl]; exact rd_at rfl
    refine Ev.step (fun k => by simp only [spec_l9Weight.l0]; rw [if_pos (by omega), if_pos (by omega), if_pos (by omega), hr, w_succ (n := pre.length) (by omega), w_succ (n := n) (by omega)]) ?_
    by_cases h : x = 0
    · refine ite_t h ?_
      have ih := spec_wt_l0 K hb post (pre ++ [x]) n (by simp [hl]) (by simp; omega)
      simpa [wtN, h] using ih
    · refine ite_f h ?_
      have ih := spec_wt_l0 K hb post (pre ++ [x]) (n + 1) (by simp [hl]) (by simp; omega)
      simpa [wtN, h, Nat.add_assoc, Nat.add_comm, Int.add_assoc, Int.add_comm] using ih
theorem spec_wt (K : List Int) (c : Int) (hb : K.length ≤ 1000) : Ev (fun k => spec_l9Weight.f k K c) (wtN K : Int) := by
  have := spec_wt_l0 K hb K [] 0 rfl (by simp)
  unfold spec_l9Weight.f
  simpa using this
theorem impl_wt_l0 (K : List Int) (hb : K.length ≤ 1000) : ∀ (post pre : List Int) (n : Nat), K = pre ++ post → n ≤ pre.length →
    Ev (fun k => impl_Pattern_size.l0 k (n : Int) K (K.length : Int) (pre.length : Int)) ((n + wtN post : Nat) : Int)
  | [], pre, n, hl, hn => by
    have : K.length = pre.length := by rw [hl]; simp
    refine Ev.step (fun k => by simp only [impl_Pattern_size.l0]; rw [if_neg (by omega)]) ?_
    exact some_ev (by simp [wtN])
  | x :: post, pre, n, hl, hn => by
    have hk : K.length = pre.length + (post.length + 1) := by rw [hl]; simp
    have hr : rd K (pre.length : Int) = x := by rw [hl]; exact rd_at rfl
    refine Ev.step (fun k => by simp only [impl_Pattern_size.l0]; rw [if_pos (by omega), if_pos (by omega), if_pos (by omega), hr, w_succ (n := pre.length) (by omega), w_succ (n := n) (by omega)]) ?_
    by_cases h : x = 0
    · refine ite_t h ?_
      have ih := impl_wt_l0 K hb post (pre ++ [x]) n (by simp [hl]) (by simp; omega)
      simpa [wtN, h] using ih
    · refine ite_f h ?_
      have ih := impl_wt_l0 K hb post (pre ++ [x]) (n + 1) (by simp [hl]) (by simp; omega)
      simpa [wtN, h, Nat.add_assoc, Nat.add_comm, Int.add_assoc, Int.add_comm] using ih
theorem impl_wt (K : List Int) (c : Int) (hb : K.length ≤ 1000) : Ev (fun k => impl_Pattern_size.f k K c) (wtN K : Int) := by
  have := impl_wt_l0 K hb K [] 0 rfl (by simp)
  unfold impl_Pattern_size.f
  simpa using this
theorem wt_pos {K : List Int} (h : KindsOk K) : 1 ≤ wtN K := by
  obtain ⟨_, _, ⟨k, ks, rfl, h0⟩, _⟩ := h
  simp [wtN, h0]
/-- The first of the largest that fit. -/
def gr (t : List Int) (at_ : Nat) : Nat → List S57 → Int → Int → Int
  | _, [], b, _ => b
  | i, p :: ps, b, m => if (fitAt t at_ p).2 = true then (if (wtN p.f0 : Int) > m then gr t at_ (i + 1) ps i (wtN p.f0) else gr t at_ (i + 1) ps b m) else gr t at_ (i + 1) ps b m
def pick (t : List Int) (l : List S57) (at_ : Nat) : Int := gr t at_ 0 l (-1) 0
theorem impl_pick_l0 (t : List Int) (l : List S57) (at_ : Nat) (ht : TreeOk t) (h1 : at_ < t.length) (hl : l.length ≤ 1000) (hp : ∀ p ∈ l, KindsOk p.f0) : ∀ (ps pp : List S57) (b m : Int), l = pp ++ ps →
    Ev (fun k => impl_GreedyCover_1.l0 k (at_ : Int) b m l (l.length : Int) (pp.length : Int) t) (gr t at_ pp.length ps b m)
  | [], pp, b, m, he => by
    have : l.length = pp.length := by rw [he]; simp
    refine Ev.step (fun k => by simp only [impl_GreedyCover_1.l0]; rw [if_neg (by omega)]) ?_
    exact some_ev rfl
  | p :: ps, pp, b, m, he => by
    have hn' : l.length = pp.length + (ps.length + 1) := by rw [he]; simp
    have hr : rd_T57 l (pp.length : Int) = p := by rw [he]; exact rdat_T57 rfl
    have hpk := hp p (by rw [he]; simp)
    have hK : p.f0.length ≤ 1000 := by have := hpk.2.1; omega
    have ih := fun b' m' => impl_pick_l0 t l at_ ht h1 hl hp ps (pp ++ [p]) b' m' (by simp [he])
    simp only [List.length_append, List.length_cons, List.length_nil, Nat.zero_add] at ih
    refine Ev.step (fun k => by simp only [impl_GreedyCover_1.l0]; rw [if_pos (by omega), if_pos (by omega), if_pos (by omega), hr, w_succ (by omega)]) ?_
    refine bind_ev (impl_fits t at_ p ht h1 hpk) ?_
    simp only [gr]
    by_cases hf : (fitAt t at_ p).2 = true
    · rw [if_pos hf]
      refine ite_t hf (bind_ev (impl_wt p.f0 p.f1 hK) ?_)
      by_cases hw : (wtN p.f0 : Int) > m
      · rw [if_pos hw]
        exact ite_t hw (bind_ev (impl_wt p.f0 p.f1 hK) (ih _ _))
      · rw [if_neg hw]
        exact ite_f hw (ih _ _)
    · rw [if_neg hf]
      exact ite_f hf (ih _ _)
theorem impl_pick (t : List Int) (l : List S57) (at_ : Nat) (ht : TreeOk t) (h1 : at_ < t.length) (hl : l.length ≤ 1000) (hp : ∀ p ∈ l, KindsOk p.f0) : Ev (fun k => impl_GreedyCover_1.f k (at_ : Int) l t) (pick t l at_) := by
  have := impl_pick_l0 t l at_ ht h1 hl hp l [] (-1) 0 rfl
  unfold impl_GreedyCover_1.f pick
  simpa using this
theorem gr_ok (t : List Int) (l : List S57) (at_ : Nat) : ∀ (ps pp : List S57) (b m : Int), l = pp ++ ps → (b ≥ 0 → b < l.length ∧ (fitAt t at_ (rd_T57 l b)).2 = true) →
    gr t at_ pp.length ps b m ≥ 0 → gr t at_ pp.length ps b m < l.length ∧ (fitAt t at_ (rd_T57 l (gr t at_ pp.length ps b m))).2 = true
  | [], pp, b, m, he, h => h
  | p :: ps, pp, b, m, he, h => by
    have hn' : l.length = pp.length + (ps.length + 1) := by rw [he]; simp
    have hr : rd_T57 l (pp.length : Int) = p := by rw [he]; exact rdat_T57 rfl
    have ih := fun b' m' => gr_ok t l at_ ps (pp ++ [p]) b' m' (by simp [he])
    simp only [List.length_append, List.length_cons, List.length_nil, Nat.zero_add] at ih
    simp only [gr]
    split
    · rename_i hf
      split
      · exact ih _ _ (fun _ => ⟨by omega, by rw [hr]; exact hf⟩)
      · exact ih _ _ h
    · exact ih _ _ h
theorem pick_ok {t : List Int} {l : List S57} {at_ : Nat} (h : pick t l at_ ≥ 0) : pick t l at_ < l.length ∧ (fitAt t at_ (rd_T57 l (pick t l at_))).2 = true :=
  gr_ok t l at_ l [] (-1) 0 rfl (fun h => by omega) h
theorem spec_pick_l1 (t : List Int) (l : List S57) (B : List Int) (at_ : Nat) (ht : TreeOk t) (h1 : at_ < t.length) (hl : l.length ≤ 1000) (hB : B.length ≤ 1000) (hp : ∀ p ∈ l, KindsOk p.f0) (R : List S63 × Int × Bool) : ∀ (ps pp : List S57) (b m : Int), l = pp ++ ps →
    (b < 0 ∧ m = 0 ∨ 0 ≤ b ∧ b < l.length ∧ m = (wtN (rd_T57 l b).f0 : Int)) →
    Ev (fun k => spec_GreedyCover.l0 k t l (B ++ [gr t at_ pp.length ps b m]) (t.length : Int) ((at_ + 1 : Nat) : Int)) R →
    Ev (fun k => spec_GreedyCover.l1 k t l B (at_ : Int) b (t.length : Int) (at_ : Int) l (l.length : Int) (pp.length : Int)) R
  | [], pp, b, m, he, hbm, h => by
    have hb' := ht.2.1
    have : l.length = pp.length := by rw [he]; simp
    refine Ev.step (fun k => by simp only [spec_GreedyCover.l1]; rw [if_neg (by omega), if_pos (by omega), w_succ (by omega)]) ?_
    simpa [gr] using h
  | p :: ps, pp, b, m, he, hbm, h => by
    have hn' : l.length = pp.length + (ps.length + 1) := by rw [he]; simp
    have hr : rd_T57 l (pp.length : Int) = p := by rw [he]; exact rdat_T57 rfl
    have hpk := hp p (by rw [he]; simp)
    have hK : p.f0.length ≤ 1000 := by have := hpk.2.1; omega
    have hw1 := wt_pos hpk
    have ih := fun b' m' => spec_pick_l1 t l B at_ ht h1 hl hB hp R ps (pp ++ [p]) b' m' (by simp [he])
    simp only [List.length_append, List.length_cons, List.length_nil, Nat.zero_add] at ih
    simp only [gr] at h
    refine Ev.step (fun k => by simp only [spec_GreedyCover.l1]; rw [if_pos (by omega), if_pos (by omega), if_pos (by omega), hr, w_succ (by omega)]) ?_
    refine bind_ev (spec_fits t at_ p ht h1 hpk) ?_
    have hnew : ((pp.length : Nat) : Int) < 0 ∧ (wtN p.f0 : Int) = 0 ∨ 0 ≤ ((pp.length : Nat) : Int) ∧ ((pp.length : Nat) : Int) < l.length ∧ (wtN p.f0 : Int) = (wtN (rd_T57 l (pp.length : Int)).f0 : Int) := .inr ⟨by omega, by omega, by rw [hr]⟩
    by_cases hf : (fitAt t at_ p).2 = true
    · rw [if_pos hf] at h
      refine ite_t hf ?_
      rcases hbm with ⟨hb0, hm⟩ | ⟨hb0, hb1, hm⟩
      · rw [if_pos (by omega)] at h
        exact ite_t hb0 (ih _ _ hnew h)
      · have hKb : (rd_T57 l b).f0.length ≤ 1000 := by have := (hp _ (rdT_mem l b hb0 hb1)).2.1; omega
        refine ite_f (by omega) (bind_ev (spec_wt p.f0 p.f1 hK) (ite_t hb0 (ite_t hb1 (bind_ev (spec_wt _ _ hKb) ?_))))
        rw [← hm]
        by_cases hw : (wtN p.f0 : Int) > m
        · rw [if_pos hw] at h
          exact ite_t hw (ih _ _ hnew h)
        · rw [if_neg hw] at h
          exact ite_f hw (ih _ _ (.inr ⟨hb0, hb1, hm⟩) h)
    · rw [if_neg hf] at h
      exact ite_f hf (ih _ _ hbm h)
def grF (t : List Int) (l : List S57) (n : Nat) : List Int := (List.range n).map (pick t l)
theorem grF_succ (t : List Int) (l : List S57) (n : Nat) : grF t l (n + 1) = grF t l n ++ [pick t l n] := by simp [grF, List.range_succ]
theorem rd_grF (t : List Int) (l : List S57) (n q : Nat) (h : q < n) : rd (grF t l n) (q : Int) = pick t l q := by
  simp [rd, grF, List.getD, h]
/-- What is done behind the row of picks. -/
def fin (k : Nat) (t : List Int) (l : List S57) (F : List Int) : Option (List S63 × Int × Bool) :=
  (spec_l9Pieces.f k t l 0 F ([] : List (S63))).bind fun bt393 => (if bt393.2 = true then ((spec_l9Sum.f k l bt393.1).bind fun t397 => (some (bt393.1, t397, true))) else (some (([] : List (S63)), 0, false)))
theorem spec_pick_l0 (t : List Int) (l : List S57) (ht : TreeOk t) (hl : l.length ≤ 1000) (hp : ∀ p ∈ l, KindsOk p.f0) (R : List S63 × Int × Bool) (h : Ev (fun k => fin k t l (grF t l t.length)) R) : ∀ (d n : Nat), t.length = n + d →
    Ev (fun k => spec_GreedyCover.l0 k t l (grF t l n) (t.length : Int) (n : Int)) R
  | 0, n, hd => by
    refine Ev.step (fun k => by simp only [spec_GreedyCover.l0]; rw [if_neg (by omega)]) ?_
    rw [show n = t.length by omega]
    exact h
  | d + 1, n, hd => by
    have hb' := ht.2.1
    have ih := spec_pick_l0 t l ht hl hp R h d (n + 1) (by omega)
    rw [grF_succ] at ih
    refine Ev.step (fun k => by simp only [spec_GreedyCover.l0]; rw [if_pos (by omega)]) ?_
    have := spec_pick_l1 t l (grF t l n) n ht (by omega) hl (by simp [grF]; omega) hp R l [] (-1) 0 rfl (.inl ⟨by omega, rfl⟩) (by simpa [pick] using ih)
    simpa using this
/-- The sum of what the pieces cost. -/
def smF (l : List S57) : Int → List S63 → Int
  | s, [] => s
  | s, x :: xs => smF l (wrap64 (s + (rd_T57 l x.f1).f1)) xs
theorem spec_sum_l0 (l : List S57) (P : List S63) (hP : P.length ≤ 1000) (hr : InR l P) : ∀ (post pre : List S63) (s : Int), P = pre ++ post →
    Ev (fun k => spec_l9Sum.l0 k l s P (P.length : Int) (pre.length : Int)) (smF l s post)
  | [], pre, s, he => by
    have : P.length = pre.length := by rw [he]; simp
    refine Ev.step (fun k => by simp only [spec_l9Sum.l0]; rw [if_neg (by omega)]) ?_
    exact some_ev rfl
  | x :: post, pre, s, he => by
    have hn' : P.length = pre.length + (post.length + 1) := by rw [he]; simp
    have hx : rd_T63 P (pre.length : Int) = x := by rw [he]; exact rdat_T63 rfl
    have hb := hr x (by rw [he]; simp)
    have ih := spec_sum_l0 l P hP hr post (pre ++ [x]) (wrap64 (s + (rd_T57 l x.f1).f1)) (by simp [he])
    refine Ev.step (fun k => by simp only [spec_l9Sum.l0]; rw [if_pos (by omega), if_pos (by omega), if_pos (by omega), hx, if_pos hb.1, if_pos hb.2, w_succ (by omega)]) ?_
    simpa [smF] using ih
theorem impl_sum_l0 (l : List S57) (O P : List S63) (hP : P.length ≤ 1000) : ∀ (post pre : List S63) (s : Int), P = pre ++ post → InR l post →
    Ev (fun k => impl_GreedyCover.l0 k O s P (P.length : Int) (pre.length : Int) l) (O, smF l s post, true)
  | [], pre, s, he, hr => by
    have : P.length = pre.length := by rw [he]; simp
    refine Ev.step (fun k => by simp only [impl_GreedyCover.l0]; rw [if_neg (by omega)]) ?_
    exact some_ev rfl
  | x :: post, pre, s, he, hr => by
    have hn' : P.length = pre.length + (post.length + 1) := by rw [he]; simp
    have hx : rd_T63 P (pre.length : Int) = x := by rw [he]; exact rdat_T63 rfl
    have hb := hr x (by simp)
    have ih := impl_sum_l0 l O P hP post (pre ++ [x]) (wrap64 (s + (rd_T57 l x.f1).f1)) (by simp [he]) (fun y hy => hr y (by simp [hy]))
    refine Ev.step (fun k => by simp only [impl_GreedyCover.l0]; rw [if_pos (by omega), if_pos (by omega), if_pos (by omega), hx, if_neg (by omega), if_pos hb.1, if_pos hb.2, w_succ (by omega)]) ?_
    simpa [smF] using ih
theorem impl_sum_no (l : List S57) (O P : List S63) (y : S63) (hP : P.length ≤ 1000) (hy : y.f1 < 0) : ∀ (post pre : List S63) (s : Int), P = pre ++ (post ++ [y]) → InR l post →
    Ev (fun k => impl_GreedyCover.l0 k O s P (P.length : Int) (pre.length : Int) l) ([], 0, false)
  | [], pre, s, he, hr => by
    have hn' : P.length = pre.length + 1 := by rw [he]; simp
    have hx : rd_T63 P (pre.length : Int) = y := by rw [he]; exact rdat_T63 rfl
    refine Ev.step (fun k => by simp only [impl_GreedyCover.l0]; rw [if_pos (by omega), if_pos (by omega), if_pos (by omega), hx, if_pos hy]) ?_
    exact some_ev rfl
  | x :: post, pre, s, he, hr => by
    have hn' : P.length = pre.length + (post.length + 2) := by rw [he]; simp
    have hx : rd_T63 P (pre.length : Int) = x := by rw [he]; exact rdat_T63 rfl
    have hb := hr x (by simp)
    have ih := impl_sum_no l O P y hP hy post (pre ++ [x]) (wrap64 (s + (rd_T57 l x.f1).f1)) (by simp [he]) (fun y hy => hr y (by simp [hy]))
    refine Ev.step (fun k => by simp only [impl_GreedyCover.l0]; rw [if_pos (by omega), if_pos (by omega), if_pos (by omega), hx, if_neg (by omega), if_pos hb.1, if_pos hb.2, w_succ (by omega)]) ?_
    simpa using ih
section
variable (t : List Int) (l : List S57) (F : List Int) (ht : TreeOk t) (hl : l.length ≤ 1000) (hp : ∀ p ∈ l, KindsOk p.f0) (hF : ∀ q : Nat, q < t.length → rd F q = pick t l q)
include ht hl hp hF
theorem lay45_neg (out : List S63) (q : Nat) (rest : List Int) (hq : q < t.length) (ho : out.length ≤ 1000) (hn : rd F q < 0) : Ev (fun k => impl_lay_45.l0 k t l out ((q : Int) :: rest) l t) (out ++ [⟨q, rd F q⟩]) := by
  have h0 : rd ((q : Int) :: rest) 0 = q := rfl
  refine Ev.step (fun k => by simp only [impl_lay_45.l0]; rw [if_pos (by simp), if_pos (by simp), h0]) ?_
  refine bind_ev (a := rd F q) ?_ (ite_t (by omega) (bind_ev (Ev.now _) (ite_t hn (Ev.now _))))
  rw [hF q hq]
  exact impl_pick t l q ht hq hl hp
theorem lay45_pos (out : List S63) (q : Nat) (rest : List Int) (R : List S63) (hq : q < t.length) (ho : out.length ≤ 1000) (hr : rest.length ≤ 1000) (hg : rd F q ≥ 0) (hl2 : rd F q < l.length) (h : Ev (fun k => impl_lay_45.l0 k t l (out ++ [⟨q, rd F q⟩]) ((fitAt t q (rd_T57 l (rd F q))).1 ++ rest) l t) R) : Ev (fun k => impl_lay_45.l0 k t l out ((q : Int) :: rest) l t) R := by
  have h0 : rd ((q : Int) :: rest) 0 = q := rfl
  have hpk := hp _ (rdT_mem l _ hg hl2)
  have hfl : (fitAt t q (rd_T57 l (rd F q))).1.length ≤ 10 := by
    have := fitF_len t.length (rd_T57 l (rd F q)).f0 (t.drop q) []
    have := hpk.2.1
    unfold fitAt; simp at *; omega
  refine Ev.step (fun k => by simp only [impl_lay_45.l0]; rw [if_pos (by simp), if_pos (by simp), h0]) ?_
  refine bind_ev (a := rd F q) ?_ (ite_t (by omega) (bind_ev (Ev.now _) (ite_f (by omega) (ite_t hg (ite_t hl2 (bind_ev (impl_fits t q _ ht hq hpk) (ite_t (by simp; omega) (bind_ev (Ev.now _) (ite_t ?_ h)))))))))
  · rw [hF q hq]
    exact impl_pick t l q ht hq hl hp
  · simp; omega
end
theorem greedy_both (t : List Int) (l : List S57) (hb : t.length ≤ 1048576) (hb2 : l.length ≤ 1048576) :
    ∃ o : List S63 × Int × Bool, o.1.length ≤ 40 ∧ Ev (fun k => spec_GreedyCover.f k t l) o ∧ Ev (fun k => impl_GreedyCover.f k t l) o := by
  unfold spec_GreedyCover.f impl_GreedyCover.f
  have sj : ∀ (r : List S63 × Int × Bool), r = ([], 0, false) → Ev (fun k => spec_GreedyCover.j0 k t l true) r ∧ Ev (fun k => impl_GreedyCover.j0 k true t l) r := by
    intro r hr
    subst hr
    exact ⟨Ev.step (fun k => by simp only [spec_GreedyCover.j0]; rw [if_pos trivial]) (Ev.now _), Ev.step (fun k => by simp only [impl_GreedyCover.j0]; rw [if_pos trivial]) (Ev.now _)⟩
  by_cases h1 : treeB t = true
  · by_cases h2 : patsB l = true
    · have ht := treeB_ok h1
      obtain ⟨hl, hp2⟩ := patsB_ok h2
      have hp : ∀ p ∈ l, KindsOk p.f0 := fun p h => (hp2 p h).1
      have hb' := ht.2.1
      have hb0 := ht.1
      have hFq := rd_grF t l t.length
      have hFl : (grF t l t.length).length = t.length := by simp [grF]
      have s0 := fun R h => spec_pick_l0 t l ht (by omega) hp R h t.length 0 (by omega)
      revert hFq hFl s0
      generalize grF t l t.length = F
      intro hFq hFl s0
      have hV : ∀ q : Nat, q < t.length → rd F q ≥ 0 → rd F q < l.length ∧ (fitAt t q (rd_T57 l (rd F q))).2 = true := fun q hq h => by
        rw [hFq q hq] at h ⊢
        exact pick_ok h
      have key : ∃ o : List S63 × Int × Bool, o.1.length ≤ 40 ∧ Ev (fun k => fin k t l F) o ∧
          Ev (fun k => (impl_lay_45.f k t l l t).bind fun t402 => (impl_GreedyCover.l0 k t402 0 t402 (t402.length : Int) 0 l)) o := by
        have hz := szAt_leG t 0
        unfold fin
        rcases (lay_both t l F ht (by omega) hp hFl hV (fun k out left => impl_lay_45.l0 k t l out left l t) (fun out q rest => lay45_neg t l F ht (by omega) hp hFq out q rest) (fun out q rest R => lay45_pos t l F ht (by omega) hp hFq out q rest R) (szAt t 0)).1 0 [] (by omega) (Nat.le_refl _) (by simp; omega) with ⟨ps, p1, p2, p3, p4⟩ | ⟨ps, x, p1, p2, p3, p4, p5, p6⟩
        · refine ⟨(ps, smF l 0 ps, true), by simp only; omega, bind_ev p3 (ite_t rfl ?_), bind_ev (a := ps) ?_ ?_⟩
          · simp only [List.nil_append]
            refine bind_ev (a := smF l 0 ps) ?_ (Ev.now _)
            have := spec_sum_l0 l ps (by omega) p2 ps [] 0 rfl
            unfold spec_l9Sum.f
            simpa using this
          · have := p4 [] ps (by simp; omega) (Ev.step (fun k => by simp only [impl_lay_45.l0]; rw [if_neg (by simp)]) (some_ev (by simp)))
            unfold impl_lay_45.f
            simpa using this
          · have := impl_sum_l0 l ps ps (by omega) ps [] 0 rfl p2
            simpa using this
        · refine ⟨([], 0, false), by simp, bind_ev p5 (ite_f (by simp) (Ev.now _)), bind_ev (a := ps ++ [x]) ?_ ?_⟩
          · have := p6 [] (by simp; omega)
            unfold impl_lay_45.f
            simpa using this
          · have := impl_sum_no l (ps ++ [x]) (ps ++ [x]) x (by simp; omega) p3 ps [] 0 rfl p1
            simpa using this
      obtain ⟨o, ho, e1, e2⟩ := key
      refine ⟨o, ho, ?_, ?_⟩
      · refine bind_ev (spec_tree t hb) (ite_t h1 (bind_ev (spec_pats l hb2) ?_))
        rw [h2]
        refine Ev.step (fun k => by simp only [spec_GreedyCover.j0]; rw [if_neg (by simp)]) ?_
        simpa [grF] using s0 o e1
      · refine bind_ev (impl_tree t hb) (ite_t h1 (bind_ev (impl_pats l) ?_))
        rw [h2]
        refine Ev.step (fun k => by simp only [impl_GreedyCover.j0]; rw [if_neg (by simp)]) ?_
        exact e2
    · obtain ⟨a, b⟩ := sj _ rfl
      have h2' : patsB l = false := by simpa using h2
      refine ⟨([], 0, false), by simp, bind_ev (spec_tree t hb) (ite_t h1 (bind_ev (spec_pats l hb2) ?_)), bind_ev (impl_tree t hb) (ite_t h1 (bind_ev (impl_pats l) ?_))⟩
      · rw [h2']; exact a
      · rw [h2']; exact b
  · obtain ⟨a, b⟩ := sj _ rfl
    exact ⟨([], 0, false), by simp, bind_ev (spec_tree t hb) (ite_f h1 a), bind_ev (impl_tree t hb) (ite_f h1 b)⟩
end Go.Proofs.Ytfdbdbihhgabpaa.Pure
