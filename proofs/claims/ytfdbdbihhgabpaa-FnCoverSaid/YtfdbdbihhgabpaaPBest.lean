/- The least costs and the first patterns: both tell the same. Conditions: none. -/
import Derived.Test.YtfdbdbihhgabpaaPFits
import Derived.Test.YtfdbdbihhgabpaaDataN
import Derived.Test.YtfdbdbihhgabpaaQx0
import Derived.Test.YtfdbdbihhgabpaaQx2
import Derived.Test.YtfdbdbihhgabpaaQx3
import Derived.Test.YtfdbdbihhgabpaaQx5
import Derived.Test.YtfdbdbihhgabpaaQx6
set_option linter.unusedVariables false
set_option linter.unusedSimpArgs false
set_option linter.unusedSectionVars false
namespace Go.Proofs.Ytfdbdbihhgabpaa.Pure
open Go.RowKit Go.Proofs.Ytfdbdbihhgabpaa.Q Go.Proofs.YtfdbdbihhgabpaaW.PrintWords Go.Proofs.YtfdbdbihhgabpaaW.PrintLast Go.Proofs.Ytfdbdbihhgabpaa.Kit

/-- The places that fitF adds lie in the whole, behind its begin. -/
theorem fitF_places (L : Nat) : ∀ (ks s acc : List Int), s.length ≤ L → ∀ h ∈ (fitF L ks s acc).1, h ∈ acc ∨ ((L - s.length : Nat) : Int) ≤ h ∧ h < L
  | [], s, acc, hs, h, hh => .inl hh
  | k :: ks, s, acc, hs, h, hh => by
    unfold fitF at hh
    split at hh
    · split at hh
      · rename_i r hr
        have hl := (sk_len true s 1 r hr).1
        rcases fitF_places L ks r _ (by omega) h hh with h1 | h1
        · rcases List.mem_append.1 h1 with h1 | h1
          · exact .inl h1
          · simp at h1; exact .inr (by omega)
        · exact .inr (by omega)
      · simp at hh
    · split at hh
      · simp at hh
      · rename_i x s'
        simp only [List.length_cons] at hs ⊢
        split at hh
        · rcases fitF_places L ks s' acc (by omega) h hh with h1 | h1
          · exact .inl h1
          · exact .inr (by omega)
        · simp at hh
/-- Behind a pattern's first kind, which is no any. -/
theorem fitF_behind (L : Nat) (k : Int) (ks s : List Int) (hk : k ≠ 0) (hs : s.length ≤ L) : ∀ h ∈ (fitF L (k :: ks) s []).1, ((L - s.length : Nat) : Int) < h ∧ h < L := by
  intro h hh
  unfold fitF at hh
  rw [if_neg hk] at hh
  cases s with
  | nil => simp at hh
  | cons x s' =>
    simp only [List.length_cons] at hs ⊢
    dsimp only at hh
    split at hh
    · rcases fitF_places L ks s' [] (by omega) h hh with h1 | h1
      · simp at h1
      · exact ⟨by omega, h1.2⟩
    · simp at hh
def hol (C F : List Int) : List Int → Bool → Int → Bool × Int
  | [], ok, sum => (ok, sum)
  | h :: hs, ok, sum => hol C F hs (if ok = true then decide (rd F h ≥ 0) else false) (wrap64 (sum + rd C h))
theorem hol_ok (C F : List Int) : ∀ (hs : List Int) (ok : Bool) (sum : Int), (hol C F hs ok sum).1 = true → ok = true ∧ ∀ h ∈ hs, rd F h ≥ 0
  | [], ok, sum, h => ⟨h, by simp⟩
  | x :: hs, ok, sum, h => by
    obtain ⟨h1, h2⟩ := hol_ok C F hs _ _ h
    cases ok with
    | false => simp at h1
    | true =>
      simp at h1
      refine ⟨rfl, fun y hy => ?_⟩
      rcases List.mem_cons.1 hy with rfl | hy
      · exact h1
      · exact h2 y hy
def updC (C F : List Int) (at_ i : Int) (ok : Bool) (sum : Int) : List Int × List Int :=
  if ok = true then (if rd F at_ < 0 then (C.set at_.toNat sum, F.set at_.toNat i) else if sum < rd C at_ then (C.set at_.toNat sum, F.set at_.toNat i) else (C, F)) else (C, F)
theorem impl_l2 (t : List Int) (l : List S57) (C F : List Int) (at_ i : Int) (x33 x34 : Int) (hC : C.length = t.length) (hF : F.length = t.length) (h0 : 0 ≤ at_) (h1 : at_ < t.length) (H : List Int) (hH : H.length ≤ 1000) (hh : ∀ h ∈ H, 0 ≤ h ∧ h < t.length) (R : List Int × List Int) : ∀ (hs hp : List Int) (ok : Bool) (sum : Int), H = hp ++ hs →
    Ev (fun k => impl_covers.l1 k t l (updC C F at_ i (hol C F hs ok sum).1 (hol C F hs ok sum).2).1 (updC C F at_ i (hol C F hs ok sum).1 (hol C F hs ok sum).2).2 at_ l x33 (wrap64 (x34 + 1))) R →
    Ev (fun k => impl_covers.l2 k t l C F at_ i ok sum l x33 x34 H (H.length : Int) (hp.length : Int)) R
  | [], hp, ok, sum, he, h => by
    have : H.length = hp.length := by rw [he]; simp
    refine Ev.step (fun k => by simp only [impl_covers.l2]; rw [if_neg (by omega)]) ?_
    have e0 : hol C F [] ok sum = (ok, sum) := rfl
    rw [e0] at h
    by_cases hok : ok = true
    · refine ite_t hok (ite_t h0 (ite_t (by omega) ?_))
      by_cases hf : rd F at_ < 0
      · rw [show updC C F at_ i (ok, sum).1 (ok, sum).2 = (C.set at_.toNat sum, F.set at_.toNat i) by simp [updC, hok, hf]] at h
        exact ite_t hf (ite_t (by omega) h)
      · refine ite_f hf (ite_t (by omega) ?_)
        by_cases hs : sum < rd C at_
        · rw [show updC C F at_ i (ok, sum).1 (ok, sum).2 = (C.set at_.toNat sum, F.set at_.toNat i) by simp [updC, hok, hf, hs]] at h
          exact ite_t hs h
        · rw [show updC C F at_ i (ok, sum).1 (ok, sum).2 = (C, F) by simp [updC, hok, hf, hs]] at h
          exact ite_f hs h
    · rw [show updC C F at_ i (ok, sum).1 (ok, sum).2 = (C, F) by simp [updC, hok]] at h
      exact ite_f hok h
  | x :: hs, hp, ok, sum, he, h => by
    have hn' : H.length = hp.length + (hs.length + 1) := by rw [he]; simp
    have hr : rd H (hp.length : Int) = x := by rw [he]; exact rd_at rfl
    obtain ⟨x0, x1⟩ := hh x (by rw [he]; simp)
    have ih := fun ok' sum' h' => impl_l2 t l C F at_ i x33 x34 hC hF h0 h1 H hH hh R hs (hp ++ [x]) ok' sum' (by simp [he]) h'
    refine Ev.step (fun k => by simp only [impl_covers.l2]; rw [if_pos (by omega), if_pos (by omega), if_pos (by omega), hr, w_succ (by omega)]) ?_
    by_cases hok : ok = true
    · rw [show hol C F (x :: hs) ok sum = hol C F hs (decide (rd F x ≥ 0)) (wrap64 (sum + rd C x)) by simp [hol, hok]] at h
      refine ite_t hok (ite_t x0 (ite_t (by omega) (ite_t (by omega) ?_)))
      simpa using ih _ _ h
    · rw [show hol C F (x :: hs) ok sum = hol C F hs false (wrap64 (sum + rd C x)) by simp [hol, hok]] at h
      refine ite_f hok (ite_t x0 (ite_t (by omega) ?_))
      simpa using ih _ _ h
theorem spec_l2 (t : List Int) (l : List S57) (C F : List Int) (at_ i : Int) (x33 x34 : Int) (hC : C.length = t.length) (hF : F.length = t.length) (h0 : 0 ≤ at_) (h1 : at_ < t.length) (H : List Int) (hH : H.length ≤ 1000) (hh : ∀ h ∈ H, 0 ≤ h ∧ h < t.length) (R : List Int × List Int) : ∀ (hs hp : List Int) (ok : Bool) (sum : Int), H = hp ++ hs →
    Ev (fun k => spec_l9Best.l1 k t l (updC C F at_ i (hol C F hs ok sum).1 (hol C F hs ok sum).2).1 (updC C F at_ i (hol C F hs ok sum).1 (hol C F hs ok sum).2).2 at_ l x33 (wrap64 (x34 + 1))) R →
    Ev (fun k => spec_l9Best.l2 k t l C F at_ i ok sum l x33 x34 H (H.length : Int) (hp.length : Int)) R
  | [], hp, ok, sum, he, h => by
    have : H.length = hp.length := by rw [he]; simp
    refine Ev.step (fun k => by simp only [spec_l9Best.l2]; rw [if_neg (by omega)]) ?_
    have e0 : hol C F [] ok sum = (ok, sum) := rfl
    rw [e0] at h
    by_cases hok : ok = true
    · refine ite_t hok (ite_t h0 (ite_t (by omega) ?_))
      by_cases hf : rd F at_ < 0
      · rw [show updC C F at_ i (ok, sum).1 (ok, sum).2 = (C.set at_.toNat sum, F.set at_.toNat i) by simp [updC, hok, hf]] at h
        exact ite_t hf (ite_t (by omega) h)
      · refine ite_f hf (ite_t (by omega) ?_)
        by_cases hs : sum < rd C at_
        · rw [show updC C F at_ i (ok, sum).1 (ok, sum).2 = (C.set at_.toNat sum, F.set at_.toNat i) by simp [updC, hok, hf, hs]] at h
          exact ite_t hs h
        · rw [show updC C F at_ i (ok, sum).1 (ok, sum).2 = (C, F) by simp [updC, hok, hf, hs]] at h
          exact ite_f hs h
    · rw [show updC C F at_ i (ok, sum).1 (ok, sum).2 = (C, F) by simp [updC, hok]] at h
      exact ite_f hok h
  | x :: hs, hp, ok, sum, he, h => by
    have hn' : H.length = hp.length + (hs.length + 1) := by rw [he]; simp
    have hr : rd H (hp.length : Int) = x := by rw [he]; exact rd_at rfl
    obtain ⟨x0, x1⟩ := hh x (by rw [he]; simp)
    have ih := fun ok' sum' h' => spec_l2 t l C F at_ i x33 x34 hC hF h0 h1 H hH hh R hs (hp ++ [x]) ok' sum' (by simp [he]) h'
    refine Ev.step (fun k => by simp only [spec_l9Best.l2]; rw [if_pos (by omega), if_pos (by omega), if_pos (by omega), hr, w_succ (by omega)]) ?_
    by_cases hok : ok = true
    · rw [show hol C F (x :: hs) ok sum = hol C F hs (decide (rd F x ≥ 0)) (wrap64 (sum + rd C x)) by simp [hol, hok]] at h
      refine ite_t hok (ite_t x0 (ite_t (by omega) (ite_t (by omega) ?_)))
      simpa using ih _ _ h
    · rw [show hol C F (x :: hs) ok sum = hol C F hs false (wrap64 (sum + rd C x)) by simp [hol, hok]] at h
      refine ite_f hok (ite_t x0 (ite_t (by omega) ?_))
      simpa using ih _ _ h
theorem sk_inner (s : List Int) : ∀ (pre : List Int) (n : Nat), sk true n (pre ++ s) = some [] → ∃ m, sk true m s = some []
  | [], n, h => ⟨n, h⟩
  | x :: pre, 0, h => by simp [sk] at h
  | x :: pre, n + 1, h => by
    simp only [List.cons_append, sk] at h
    split at h
    · cases h
    · exact sk_inner s pre _ h
theorem there_at {t pre s : List Int} (h : sk true 1 t = some []) (ht : t = pre ++ s) (hs : s ≠ []) : There 1 s := by
  obtain ⟨m, hm⟩ := sk_inner s pre 1 (ht ▸ h)
  cases m with
  | zero => simp [sk] at hm; exact absurd hm hs
  | succ m =>
    obtain ⟨r, h1, _⟩ := There.one ⟨[], hm⟩
    exact ⟨r, h1⟩
/-- A good tree; a good pattern's kinds. -/
def TreeOk (t : List Int) : Prop := 1 ≤ t.length ∧ t.length ≤ 40 ∧ (∀ x ∈ t, x ≠ 0) ∧ sk true 1 t = some []
def KindsOk (K : List Int) : Prop := 1 ≤ K.length ∧ K.length ≤ 10 ∧ (∃ k ks, K = k :: ks ∧ k ≠ 0) ∧ sk true 1 K = some []
def fitAt (t : List Int) (at_ : Nat) (p : S57) : List Int × Bool := fitF t.length p.f0 (t.drop at_) []
theorem fitAt_places {t : List Int} {at_ : Nat} {p : S57} (h1 : at_ < t.length) (hp : KindsOk p.f0) : ∀ h ∈ (fitAt t at_ p).1, (at_ : Int) < h ∧ h < t.length := by
  intro h hh
  obtain ⟨_, _, ⟨k, ks, hk, hk0⟩, _⟩ := hp
  unfold fitAt at hh
  rw [hk] at hh
  have := fitF_behind t.length k ks (t.drop at_) hk0 (by simp) h hh
  simp only [List.length_drop] at this
  omega
theorem fitF_len (L : Nat) : ∀ (ks s acc : List Int), (fitF L ks s acc).1.length ≤ acc.length + ks.length
  | [], s, acc => by simp [fitF]
  | k :: ks, s, acc => by
    unfold fitF
    split
    · split
      · have := fitF_len L ks ‹_› (acc ++ [((L - s.length : Nat) : Int)])
        simp at this ⊢; omega
      · simp
    · split
      · simp
      · split
        · have := fitF_len L ks ‹_› acc
          simp at this ⊢; omega
        · simp
def stepC (t : List Int) (at_ : Nat) (i : Nat) (p : S57) (cf : List Int × List Int) : List Int × List Int :=
  updC cf.1 cf.2 at_ i (hol cf.1 cf.2 (fitAt t at_ p).1 (fitAt t at_ p).2 p.f1).1 (hol cf.1 cf.2 (fitAt t at_ p).1 (fitAt t at_ p).2 p.f1).2
theorem updC_len (C F : List Int) (at_ i : Int) (ok : Bool) (sum : Int) : (updC C F at_ i ok sum).1.length = C.length ∧ (updC C F at_ i ok sum).2.length = F.length := by
  unfold updC; split <;> (try split) <;> (try split) <;> simp
def cov1 (t : List Int) (at_ : Nat) : Nat → List S57 → List Int × List Int → List Int × List Int
  | _, [], cf => cf
  | i, p :: ps, cf => cov1 t at_ (i + 1) ps (stepC t at_ i p cf)
def cov0 (t : List Int) (l : List S57) : Nat → List Int × List Int → List Int × List Int
  | 0, cf => cf
  | n + 1, cf => cov0 t l n (cov1 t n 0 l (cf.1, cf.2.set n (-1)))
theorem cov1_len (t : List Int) (at_ : Nat) : ∀ (i : Nat) (l : List S57) (cf : List Int × List Int), (cov1 t at_ i l cf).1.length = cf.1.length ∧ (cov1 t at_ i l cf).2.length = cf.2.length
  | _, [], cf => ⟨rfl, rfl⟩
  | i, p :: ps, cf => by
    have h1 := cov1_len t at_ (i + 1) ps (stepC t at_ i p cf)
    have h2 := updC_len cf.1 cf.2 at_ i (hol cf.1 cf.2 (fitAt t at_ p).1 (fitAt t at_ p).2 p.f1).1 (hol cf.1 cf.2 (fitAt t at_ p).1 (fitAt t at_ p).2 p.f1).2
    simp only [cov1]
    unfold stepC at h1 ⊢
    exact ⟨h1.1.trans h2.1, h1.2.trans h2.2⟩
theorem impl_fits (t : List Int) (at_ : Nat) (p : S57) (ht : TreeOk t) (h1 : at_ < t.length) (hp : KindsOk p.f0) : Ev (fun k => impl_fits.f k t (at_ : Int) p.f0 p.f1) (fitAt t at_ p) := by
  obtain ⟨_, hb, hn, hs⟩ := ht
  have e : t = t.take at_ ++ t.drop at_ := by simp
  have hne : t.drop at_ ≠ [] := by intro h; have := congrArg List.length h; simp at this; omega
  have h2 := impl_fits_l0 t (by omega) hn p.f0 (by have := hp.2.1; omega) p.f0 [] (t.take at_) (t.drop at_) [] 1 rfl e (by simp) hp.2.2.2 (there_at hs e hne)
  unfold impl_fits.f fitAt
  rw [show (t.take at_).length = at_ by simp; omega] at h2
  simpa using h2
theorem impl_l1 (t : List Int) (l : List S57) (at_ : Nat) (ht : TreeOk t) (h1 : at_ < t.length) (hl : l.length ≤ 1000) (hp : ∀ p ∈ l, KindsOk p.f0) (R : List Int × List Int) : ∀ (ps pp : List S57) (C F : List Int), l = pp ++ ps → C.length = t.length → F.length = t.length →
    Ev (fun k => impl_covers.l0 k t l (cov1 t at_ pp.length ps (C, F)).1 (cov1 t at_ pp.length ps (C, F)).2 (wrap64 ((at_ : Int) - 1))) R →
    Ev (fun k => impl_covers.l1 k t l C F (at_ : Int) l (l.length : Int) (pp.length : Int)) R
  | [], pp, C, F, he, hC, hF, h => by
    have : l.length = pp.length := by rw [he]; simp
    refine Ev.step (fun k => by simp only [impl_covers.l1]; rw [if_neg (by omega)]) ?_
    exact h
  | p :: ps, pp, C, F, he, hC, hF, h => by
    have hn' : l.length = pp.length + (ps.length + 1) := by rw [he]; simp
    have hr : rd_T57 l (pp.length : Int) = p := by rw [he]; exact rdat_T57 rfl
    have hpk := hp p (by rw [he]; simp)
    have hpl := fitAt_places h1 hpk
    have hfl : (fitAt t at_ p).1.length ≤ 1000 := by
      have := fitF_len t.length p.f0 (t.drop at_) []
      have := hpk.2.1
      unfold fitAt; simp at *; omega
    refine Ev.step (fun k => by simp only [impl_covers.l1]; rw [if_pos (by omega), if_pos (by omega), if_pos (by omega), hr]) ?_
    refine bind_ev (impl_fits t at_ p ht h1 hpk) ?_
    have hlen := updC_len C F at_ pp.length (hol C F (fitAt t at_ p).1 (fitAt t at_ p).2 p.f1).1 (hol C F (fitAt t at_ p).1 (fitAt t at_ p).2 p.f1).2
    have ih := impl_l1 t l at_ ht h1 hl hp R ps (pp ++ [p]) (stepC t at_ pp.length p (C, F)).1 (stepC t at_ pp.length p (C, F)).2 (by simp [he]) (by unfold stepC; exact hlen.1.trans hC) (by unfold stepC; exact hlen.2.trans hF) (by simpa [cov1] using h)
    have := impl_l2 t l C F (at_ : Int) (pp.length : Int) (l.length : Int) (pp.length : Int) hC hF (by omega) (by omega) (fitAt t at_ p).1 hfl (fun h hh => by have := hpl h hh; omega) R (fitAt t at_ p).1 [] (fitAt t at_ p).2 p.f1 rfl (by
      rw [w_succ (by omega)]
      simpa [stepC] using ih)
    simpa using this
theorem impl_l0 (t : List Int) (l : List S57) (ht : TreeOk t) (hl : l.length ≤ 1000) (hp : ∀ p ∈ l, KindsOk p.f0) : ∀ (n : Nat) (C F : List Int), n ≤ t.length → C.length = t.length → F.length = t.length →
    Ev (fun k => impl_covers.l0 k t l C F (wrap64 ((n : Int) - 1))) (cov0 t l n (C, F))
  | 0, C, F, hn, hC, hF => by
    refine Ev.step (fun k => by simp only [impl_covers.l0]; rw [show wrap64 (((0 : Nat) : Int) - 1) = -1 by unfold wrap64; omega, if_neg (by omega)]) ?_
    exact some_ev rfl
  | n + 1, C, F, hn, hC, hF => by
    have hb := ht.2.1
    have hw : wrap64 (((n + 1 : Nat) : Int) - 1) = (n : Int) := by rw [w64 (by omega) (by omega)]; omega
    refine Ev.step (fun k => by simp only [impl_covers.l0]; rw [hw, if_pos (by omega), if_pos (by omega), if_pos (by omega)]) ?_
    have h2 := cov1_len t n 0 l (C, F.set n (-1))
    have ih := impl_l0 t l ht hl hp n (cov1 t n 0 l (C, F.set n (-1))).1 (cov1 t n 0 l (C, F.set n (-1))).2 (by omega) (h2.1.trans hC) (h2.2.trans (by simpa using hF))
    have := impl_l1 t l n ht (by omega) hl hp _ l [] C (F.set n (-1)) rfl hC (by simpa using hF) (by simpa using ih)
    simpa [cov0] using this
theorem impl_cov (t : List Int) (l : List S57) (ht : TreeOk t) (hl : l.length ≤ 1000) (hp : ∀ p ∈ l, KindsOk p.f0) : Ev (fun k => impl_covers.f k t l) (cov0 t l t.length (List.replicate t.length 0, List.replicate t.length 0)) := by
  have hb := ht.2.1
  have := impl_l0 t l ht hl hp t.length (List.replicate t.length 0) (List.replicate t.length 0) (by omega) (by simp) (by simp)
  unfold impl_covers.f
  refine ite_t (by omega) (ite_t (by simp; omega) ?_)
  simpa using this
theorem spec_fits (t : List Int) (at_ : Nat) (p : S57) (ht : TreeOk t) (h1 : at_ < t.length) (hp : KindsOk p.f0) : Ev (fun k => spec_l9Fits.f k t (at_ : Int) p.f0 p.f1) (fitAt t at_ p) := by
  obtain ⟨_, hb, hn, hs⟩ := ht
  have e : t = t.take at_ ++ t.drop at_ := by simp
  have hne : t.drop at_ ≠ [] := by intro h; have := congrArg List.length h; simp at this; omega
  have h2 := spec_fits_l0 t (by omega) hn p.f0 (by have := hp.2.1; omega) p.f0 [] (t.take at_) (t.drop at_) [] 1 rfl e (by simp) hp.2.2.2 (there_at hs e hne)
  unfold spec_l9Fits.f fitAt
  rw [show (t.take at_).length = at_ by simp; omega] at h2
  simpa using h2
theorem spec_l1 (t : List Int) (l : List S57) (at_ : Nat) (ht : TreeOk t) (h1 : at_ < t.length) (hl : l.length ≤ 1000) (hp : ∀ p ∈ l, KindsOk p.f0) (R : List Int × List Int) : ∀ (ps pp : List S57) (C F : List Int), l = pp ++ ps → C.length = t.length → F.length = t.length →
    Ev (fun k => spec_l9Best.l0 k t l (cov1 t at_ pp.length ps (C, F)).1 (cov1 t at_ pp.length ps (C, F)).2 (wrap64 ((at_ : Int) - 1))) R →
    Ev (fun k => spec_l9Best.l1 k t l C F (at_ : Int) l (l.length : Int) (pp.length : Int)) R
  | [], pp, C, F, he, hC, hF, h => by
    have : l.length = pp.length := by rw [he]; simp
    refine Ev.step (fun k => by simp only [spec_l9Best.l1]; rw [if_neg (by omega)]) ?_
    exact h
  | p :: ps, pp, C, F, he, hC, hF, h => by
    have hn' : l.length = pp.length + (ps.length + 1) := by rw [he]; simp
    have hr : rd_T57 l (pp.length : Int) = p := by rw [he]; exact rdat_T57 rfl
    have hpk := hp p (by rw [he]; simp)
    have hpl := fitAt_places h1 hpk
    have hfl : (fitAt t at_ p).1.length ≤ 1000 := by
      have := fitF_len t.length p.f0 (t.drop at_) []
      have := hpk.2.1
      unfold fitAt; simp at *; omega
    refine Ev.step (fun k => by simp only [spec_l9Best.l1]; rw [if_pos (by omega), if_pos (by omega), if_pos (by omega), hr]) ?_
    refine bind_ev (spec_fits t at_ p ht h1 hpk) ?_
    have hlen := updC_len C F at_ pp.length (hol C F (fitAt t at_ p).1 (fitAt t at_ p).2 p.f1).1 (hol C F (fitAt t at_ p).1 (fitAt t at_ p).2 p.f1).2
    have ih := spec_l1 t l at_ ht h1 hl hp R ps (pp ++ [p]) (stepC t at_ pp.length p (C, F)).1 (stepC t at_ pp.length p (C, F)).2 (by simp [he]) (by unfold stepC; exact hlen.1.trans hC) (by unfold stepC; exact hlen.2.trans hF) (by simpa [cov1] using h)
    have := spec_l2 t l C F (at_ : Int) (pp.length : Int) (l.length : Int) (pp.length : Int) hC hF (by omega) (by omega) (fitAt t at_ p).1 hfl (fun h hh => by have := hpl h hh; omega) R (fitAt t at_ p).1 [] (fitAt t at_ p).2 p.f1 rfl (by
      rw [w_succ (by omega)]
      simpa [stepC] using ih)
    simpa using this
theorem spec_l0 (t : List Int) (l : List S57) (ht : TreeOk t) (hl : l.length ≤ 1000) (hp : ∀ p ∈ l, KindsOk p.f0) : ∀ (n : Nat) (C F : List Int), n ≤ t.length → C.length = t.length → F.length = t.length →
    Ev (fun k => spec_l9Best.l0 k t l C F (wrap64 ((n : Int) - 1))) (cov0 t l n (C, F))
  | 0, C, F, hn, hC, hF => by
    refine Ev.step (fun k => by simp only [spec_l9Best.l0]; rw [show wrap64 (((0 : Nat) : Int) - 1) = -1 by unfold wrap64; omega, if_neg (by omega)]) ?_
    exact some_ev rfl
  | n + 1, C, F, hn, hC, hF => by
    have hb := ht.2.1
    have hw : wrap64 (((n + 1 : Nat) : Int) - 1) = (n : Int) := by rw [w64 (by omega) (by omega)]; omega
    refine Ev.step (fun k => by simp only [spec_l9Best.l0]; rw [hw, if_pos (by omega), if_pos (by omega), if_pos (by omega)]) ?_
    have h2 := cov1_len t n 0 l (C, F.set n (-1))
    have ih := spec_l0 t l ht hl hp n (cov1 t n 0 l (C, F.set n (-1))).1 (cov1 t n 0 l (C, F.set n (-1))).2 (by omega) (h2.1.trans hC) (h2.2.trans (by simpa using hF))
    have := spec_l1 t l n ht (by omega) hl hp _ l [] C (F.set n (-1)) rfl hC (by simpa using hF) (by simpa using ih)
    simpa [cov0] using this
theorem spec_cov (t : List Int) (l : List S57) (ht : TreeOk t) (hl : l.length ≤ 1000) (hp : ∀ p ∈ l, KindsOk p.f0) : Ev (fun k => spec_l9Best.f k t l) (cov0 t l t.length (List.replicate t.length 0, List.replicate t.length 0)) := by
  have hb := ht.2.1
  have := spec_l0 t l ht hl hp t.length (List.replicate t.length 0) (List.replicate t.length 0) (by omega) (by simp) (by simp)
  unfold spec_l9Best.f
  refine ite_t (by omega) (ite_t (by simp; omega) ?_)
  simpa using this
end Go.Proofs.Ytfdbdbihhgabpaa.Pure
