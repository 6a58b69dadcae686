/- Good trees, good patterns, where a pattern fits: both tell the same. Conditions: none. -/
import Derived.Test.YtfdbdbihhgabpaaPTree
import Derived.Test.YtfdbdbihhgabpaaDataN
import Derived.Test.YtfdbdbihhgabpaaQx0
import Derived.Test.YtfdbdbihhgabpaaQx2
import Derived.Test.YtfdbdbihhgabpaaQx4
import Derived.Test.YtfdbdbihhgabpaaQx5
set_option linter.unusedVariables false
set_option linter.unusedSimpArgs false
set_option linter.unusedSectionVars false
namespace Go.Proofs.Ytfdbdbihhgabpaa.Pure
open Go.RowKit Go.Proofs.Ytfdbdbihhgabpaa.Q Go.Proofs.YtfdbdbihhgabpaaW.PrintWords Go.Proofs.YtfdbdbihhgabpaaW.PrintLast Go.Proofs.Ytfdbdbihhgabpaa.Kit

theorem impl_end (t pre post : List Int) (hb : t.length ≤ 100) (ht : t = pre ++ post) : Ev (fun k => impl_endOf.f k t (pre.length : Int)) (endI t.length (sk true 1 post)) := by
  have := impl_end_l0 t hb post pre 1 ht (by omega)
  unfold impl_endOf.f
  simpa using this
theorem spec_end (t pre post : List Int) (any : Bool) (hb : t.length ≤ 100) (ht : t = pre ++ post) : Ev (fun k => spec_l9End.f k t (pre.length : Int) any) (endS t.length (sk any 1 post)) := by
  have := spec_end_l0 t any hb post pre 1 ht (by omega)
  unfold spec_l9End.f
  simpa using this
/-- The places of the trees for which any may stand, and whether a pattern's kinds fit: L is the whole's length. -/
def fitF (L : Nat) : List Int → List Int → List Int → List Int × Bool
  | [], s, acc => (acc, true)
  | k :: ks, s, acc =>
    if k = 0 then
      match sk true 1 s with
      | some r => fitF L ks r (acc ++ [((L - s.length : Nat) : Int)])
      | none => ([], false)
    else
      match s with
      | [] => ([], false)
      | x :: s' => if x = k then fitF L ks s' acc else ([], false)
/-- d trees stand at s. -/
def There (d : Nat) (s : List Int) : Prop := ∃ r, sk true d s = some r
theorem There.tail {n : Nat} {x : Int} {s : List Int} (h : There (n + 1) (x :: s)) : 0 ≤ ar x ∧ There (n + (ar x).toNat) s := by
  obtain ⟨r, h⟩ := h
  simp only [sk] at h
  split at h
  · cases h
  · rename_i hc
    simp at hc
    exact ⟨by omega, r, h⟩
theorem There.one {n : Nat} {s : List Int} (h : There (n + 1) s) : ∃ r, sk true 1 s = some r ∧ There n r := by
  obtain ⟨q, h⟩ := h
  rw [show n + 1 = 1 + n by omega, sk_add] at h
  cases h1 : sk true 1 s with
  | none => rw [h1] at h; cases h
  | some r => rw [h1] at h; exact ⟨r, rfl, q, h⟩
theorem sk_suf {any : Bool} {n : Nat} {t pre s r : List Int} (ht : t = pre ++ s) (h : sk any n s = some r) : ∃ p, t = p ++ r ∧ p.length = t.length - r.length := by
  obtain ⟨_, p, hp⟩ := sk_len any s n r h
  exact ⟨pre ++ p, by rw [ht, hp]; simp, by rw [ht, hp]; simp; omega⟩
theorem impl_fits_l0 (t : List Int) (hb : t.length ≤ 100) (hn : ∀ x ∈ t, x ≠ 0) (K : List Int) (hK : K.length ≤ 100) : ∀ (ks kp pre s acc : List Int) (d : Nat), K = kp ++ ks → t = pre ++ s → acc.length ≤ kp.length → sk true d ks = some [] → There d s →
    Ev (fun k => impl_fits.l0 k t (pre.length : Int) acc K (K.length : Int) (kp.length : Int)) (fitF t.length ks s acc)
  | [], kp, pre, s, acc, d, hk, ht, ha, hd, hs => by
    have : K.length = kp.length := by rw [hk]; simp
    refine Ev.step (fun k => by simp only [impl_fits.l0]; rw [if_neg (by omega)]) ?_
    exact some_ev rfl
  | k0 :: ks, kp, pre, s, acc, 0, hk, ht, ha, hd, hs => by simp [sk] at hd
  | k0 :: ks, kp, pre, s, acc, d + 1, hk, ht, ha, hd, hs => by
    have hl : K.length = kp.length + (ks.length + 1) := by rw [hk]; simp
    have hr : rd K (kp.length : Int) = k0 := by rw [hk]; exact rd_at rfl
    have htl : t.length = pre.length + s.length := by rw [ht]; simp
    obtain ⟨ha0, hd'⟩ := There.tail ⟨[], hd⟩
    simp only [sk] at hd
    rw [if_neg (by simp; omega)] at hd
    refine Ev.step (fun k => by simp only [impl_fits.l0]; rw [if_pos (by omega), if_pos (by omega), if_pos (by omega), hr, w_succ (by omega)]) ?_
    by_cases h0 : k0 = 0
    · subst h0
      obtain ⟨r, h1, h2⟩ := hs.one
      obtain ⟨p, hp, hpl⟩ := sk_suf ht h1
      refine ite_t rfl (ite_t (by omega) (bind_ev (impl_end t pre s hb ht) ?_))
      simp only [fitF, if_true, h1, endI]
      have ih := impl_fits_l0 t hb hn K hK ks (kp ++ [0]) p r (acc ++ [(pre.length : Int)]) d (by simp [hk]) hp (by simp; omega) (by simpa [ar] using hd) h2
      rw [show t.length - s.length = pre.length by omega]
      rw [← hpl]
      simpa using ih
    · refine ite_f h0 ?_
      cases s with
      | nil => obtain ⟨r, h⟩ := hs; simp [sk] at h
      | cons x s' =>
        simp only [List.length_cons] at htl
        have hx : rd t (pre.length : Int) = x := by rw [ht]; exact rd_at rfl
        refine ite_f (by omega) (ite_t (by omega) (ite_t (by omega) ?_))
        rw [hx, w_succ (by omega)]
        simp only [fitF, if_neg h0]
        by_cases hxk : x = k0
        · rw [if_pos hxk]
          refine ite_t hxk ?_
          obtain ⟨_, h3⟩ := hs.tail
          rw [hxk] at h3
          have ih := impl_fits_l0 t hb hn K hK ks (kp ++ [k0]) (pre ++ [x]) s' acc (d + (ar k0).toNat) (by simp [hk]) (by simp [ht]) (by simp; omega) hd h3
          simpa using ih
        · rw [if_neg hxk]
          exact ite_f hxk (some_ev rfl)
theorem spec_fits_l0 (t : List Int) (hb : t.length ≤ 100) (hn : ∀ x ∈ t, x ≠ 0) (K : List Int) (hK : K.length ≤ 100) : ∀ (ks kp pre s acc : List Int) (d : Nat), K = kp ++ ks → t = pre ++ s → acc.length ≤ kp.length → sk true d ks = some [] → There d s →
    Ev (fun k => spec_l9Fits.l0 k t (pre.length : Int) acc K (K.length : Int) (kp.length : Int)) (fitF t.length ks s acc)
  | [], kp, pre, s, acc, d, hk, ht, ha, hd, hs => by
    have : K.length = kp.length := by rw [hk]; simp
    refine Ev.step (fun k => by simp only [spec_l9Fits.l0]; rw [if_neg (by omega)]) ?_
    exact some_ev rfl
  | k0 :: ks, kp, pre, s, acc, 0, hk, ht, ha, hd, hs => by simp [sk] at hd
  | k0 :: ks, kp, pre, s, acc, d + 1, hk, ht, ha, hd, hs => by
    have hl : K.length = kp.length + (ks.length + 1) := by rw [hk]; simp
    have hr : rd K (kp.length : Int) = k0 := by rw [hk]; exact rd_at rfl
    have htl : t.length = pre.length + s.length := by rw [ht]; simp
    obtain ⟨ha0, hd'⟩ := There.tail ⟨[], hd⟩
    simp only [sk] at hd
    rw [if_neg (by simp; omega)] at hd
    have hns : ∀ x ∈ s, x ≠ 0 := fun x hx => hn x (by rw [ht]; simp [hx])
    refine Ev.step (fun k => by simp only [spec_l9Fits.l0]; rw [if_pos (by omega), if_pos (by omega), if_pos (by omega), hr, w_succ (by omega)]) ?_
    by_cases h0 : k0 = 0
    · subst h0
      obtain ⟨r, h1, h2⟩ := hs.one
      obtain ⟨p, hp, hpl⟩ := sk_suf ht h1
      refine ite_t rfl (ite_t (by omega) (bind_ev (spec_end t pre s false hb ht) ?_))
      rw [sk_any s 1 hns]
      simp only [fitF, if_true, h1, endS]
      have ih := spec_fits_l0 t hb hn K hK ks (kp ++ [0]) p r (acc ++ [(pre.length : Int)]) d (by simp [hk]) hp (by simp; omega) (by simpa [ar] using hd) h2
      rw [show t.length - s.length = pre.length by omega]
      rw [← hpl]
      simpa using ih
    · refine ite_f h0 ?_
      cases s with
      | nil => obtain ⟨r, h⟩ := hs; simp [sk] at h
      | cons x s' =>
        simp only [List.length_cons] at htl
        have hx : rd t (pre.length : Int) = x := by rw [ht]; exact rd_at rfl
        refine ite_t (by omega) (ite_t (by omega) ?_)
        rw [hx, w_succ (by omega)]
        simp only [fitF, if_neg h0]
        by_cases hxk : x = k0
        · rw [if_pos hxk]
          refine ite_t hxk ?_
          obtain ⟨_, h3⟩ := hs.tail
          rw [hxk] at h3
          have ih := spec_fits_l0 t hb hn K hK ks (kp ++ [k0]) (pre ++ [x]) s' acc (d + (ar k0).toNat) (by simp [hk]) (by simp [ht]) (by simp; omega) hd h3
          simpa using ih
        · rw [if_neg hxk]
          exact ite_f hxk (some_ev rfl)
end Go.Proofs.Ytfdbdbihhgabpaa.Pure
