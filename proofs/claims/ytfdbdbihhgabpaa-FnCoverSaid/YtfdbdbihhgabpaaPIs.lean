/- IsCover: the program's row of what is left and the reference's recursion tell the same. Conditions: none. -/
import Derived.Test.YtfdbdbihhgabpaaPGC
import Derived.Test.YtfdbdbihhgabpaaQx0
import Derived.Test.YtfdbdbihhgabpaaQx8
import Derived.Test.YtfdbdbihhgabpaaQx12
import Derived.Test.YtfdbdbihhgabpaaQx13
set_option linter.unusedVariables false
set_option linter.unusedSimpArgs false
set_option linter.unusedSectionVars false
namespace Go.Proofs.Ytfdbdbihhgabpaa.Pure
open Go.RowKit Go.Proofs.Ytfdbdbihhgabpaa.Q Go.Proofs.YtfdbdbihhgabpaaW.PrintWords Go.Proofs.YtfdbdbihhgabpaaW.PrintLast Go.Proofs.Ytfdbdbihhgabpaa.Kit

/-- A piece that fits at a place. -/
def okPc (t : List Int) (l : List S57) (h : Int) (x : S63) : Prop := x.f0 = h ∧ 0 ≤ x.f1 ∧ x.f1 < l.length ∧ (fitAt t h.toNat (rd_T57 l x.f1)).2 = true
instance (t : List Int) (l : List S57) (h : Int) (x : S63) : Decidable (okPc t l h x) := by unfold okPc; exact inferInstance
/-- What is left to cover behind some pieces; none where one does not fit. -/
def goC (t : List Int) (l : List S57) : List S63 → List Int → Option (List Int)
  | [], left => some left
  | _ :: _, [] => none
  | x :: ps, h :: left => if okPc t l h x then goC t l ps ((fitAt t h.toNat (rd_T57 l x.f1)).1 ++ left) else none
def resI : Option (List Int) → Int → Int × Bool × Bool
  | some [], s => (s, true, true)
  | _, _ => (0, false, true)
section
variable (t : List Int) (l : List S57) (ht : TreeOk t) (hl : l.length ≤ 1000) (hp : ∀ p ∈ l, KindsOk p.f0)
include ht hl hp
theorem fit_bd {h : Int} (h0 : 0 ≤ h) (h1 : h < t.length) {i : Int} (i0 : 0 ≤ i) (i1 : i < l.length) :
    (fitAt t h.toNat (rd_T57 l i)).1.length ≤ 10 ∧ ∀ x ∈ (fitAt t h.toNat (rd_T57 l i)).1, 0 ≤ x ∧ x < t.length := by
  have hpk := hp _ (rdT_mem l i i0 i1)
  refine ⟨?_, fun x hx => ?_⟩
  · have := fitF_len t.length (rd_T57 l i).f0 (t.drop h.toNat) []
    have := hpk.2.1
    unfold fitAt; simp at *; omega
  · have := fitAt_places (at_ := h.toNat) (by omega) hpk x hx
    omega
theorem impl_is_l0 (P : List S63) (hP : P.length ≤ 1000) : ∀ (post pre : List S63) (left : List Int) (n : Int), P = pre ++ post → (∀ h ∈ left, 0 ≤ h ∧ h < t.length) → left.length ≤ 1 + 10 * pre.length →
    Ev (fun k => impl_IsCover.l0 k t l n left P (P.length : Int) (pre.length : Int)) (resI (goC t l post left) (smF l n post))
  | [], pre, left, n, he, hh, hb => by
    have : P.length = pre.length := by rw [he]; simp
    refine Ev.step (fun k => by simp only [impl_IsCover.l0]; rw [if_neg (by omega)]) ?_
    cases left with
    | nil => exact ite_f (by simp) (some_ev rfl)
    | cons x left => exact ite_t (by first | (simp; done) | (simp; omega)) (some_ev rfl)
  | x :: post, pre, left, n, he, hh, hb => by
    have hn' : P.length = pre.length + (post.length + 1) := by rw [he]; simp
    have hx : rd_T63 P (pre.length : Int) = x := by rw [he]; exact rdat_T63 rfl
    have j2 : ∀ R, R = ((0, false, true) : Int × Bool × Bool) → Ev (fun k => impl_IsCover.j2 k t l n left P (P.length : Int) (pre.length : Int) true x.f0 x.f1) R := fun R hR => by
      subst hR
      exact Ev.step (fun k => by simp only [impl_IsCover.j2]; rw [if_pos trivial]) (Ev.now _)
    refine Ev.step (fun k => by simp only [impl_IsCover.l0]; rw [if_pos (by omega), if_pos (by omega), if_pos (by omega), hx]) ?_
    cases left with
    | nil => exact ite_t (by simp) (j2 _ rfl)
    | cons h left =>
      have hr : rd (h :: left) 0 = h := rfl
      obtain ⟨h0, h1⟩ := hh h (by simp)
      refine ite_f (by first | (simp; done) | (simp; omega)) (ite_t (by first | (simp; done) | (simp; omega)) ?_)
      rw [hr]
      by_cases hx0 : x.f0 = h
      · refine ite_t hx0 (bind_ev (const_ev (impl_in _ _ _)) ?_)
        rw [w64 (x := (l.length : Int) - 1) (by omega) (by omega)]
        by_cases hin : inB x.f1 0 (l.length - 1) = true
        · have hi := (inB_iff _ _ _).1 hin
          rw [hin]
          obtain ⟨f1, f2⟩ := fit_bd t l ht hl hp h0 h1 hi.1 (show x.f1 < l.length by omega)
          refine Ev.step (fun k => by simp only [impl_IsCover.j2]; rw [if_neg (by simp), if_pos hi.1, if_pos (by omega)]) ?_
          have hf := impl_fits t h.toNat (rd_T57 l x.f1) ht (by omega) (hp _ (rdT_mem l _ hi.1 (by omega)))
          rw [show ((h.toNat : Nat) : Int) = h by omega] at hf
          rw [hx0]
          refine bind_ev hf ?_
          simp only [goC, smF]
          by_cases hfit : (fitAt t h.toNat (rd_T57 l x.f1)).2 = true
          · rw [if_pos ⟨hx0, hi.1, by omega, hfit⟩]
            have ih := impl_is_l0 P hP post (pre ++ [x]) ((fitAt t h.toNat (rd_T57 l x.f1)).1 ++ left) (wrap64 (n + (rd_T57 l x.f1).f1)) (by simp [he]) (fun y hy => by
              rcases List.mem_append.1 hy with hy | hy
              · exact f2 y hy
              · exact hh y (by simp [hy])) (by simp at hb ⊢; omega)
            refine ite_t hfit (ite_t (by first | (simp; done) | (simp; omega)) (bind_ev (Ev.now _) (ite_t (by simp at hb ⊢; omega) ?_)))
            rw [w_succ (by omega)]
            simpa using ih
          · rw [if_neg (fun hc => hfit hc.2.2.2)]
            exact ite_f hfit (some_ev rfl)
        · have hin' : inB x.f1 0 (l.length - 1) = false := by simpa using hin
          rw [hin']
          have : ¬ okPc t l h x := fun hc => hin ((inB_iff _ _ _).2 ⟨hc.2.1, by have := hc.2.2.1; omega⟩)
          simp only [goC]
          rw [if_neg this]
          exact j2 _ rfl
      · have : ¬ okPc t l h x := fun hc => hx0 hc.1
        simp only [goC]
        rw [if_neg this]
        exact ite_f hx0 (j2 _ rfl)
theorem spec_is : ∀ (m : Nat),
    (∀ (q : Nat) (ps : List S63), q < t.length → szAt t q ≤ m → ps.length ≤ 1000 →
      ∃ n : Nat, Ev (fun k => spec_l9Cover.f k t l (q : Int) ps) (n : Int) ∧ n ≤ ps.length ∧ (n = 0 → ∀ left, goC t l ps ((q : Int) :: left) ≠ some []) ∧ (0 < n → ∀ left, goC t l ps ((q : Int) :: left) = goC t l (ps.drop n) left)) ∧
    (∀ (H hs hp' : List Int) (n : Nat) (ps : List S63), H = hp' ++ hs → H.length ≤ 1000 → (∀ h ∈ hs, 0 ≤ h ∧ h < t.length) → szs t hs ≤ m → ps.length ≤ 1000 → 1 ≤ n → n ≤ ps.length →
      ∃ r : Nat, Ev (fun k => spec_l9Cover.l0 k t l ps (n : Int) H (H.length : Int) (hp'.length : Int)) (r : Int) ∧ r ≤ ps.length ∧ (r = 0 → ∀ left, goC t l (ps.drop n) (hs ++ left) ≠ some []) ∧ (0 < r → ∀ left, goC t l (ps.drop n) (hs ++ left) = goC t l (ps.drop r) left)) := by
  intro m
  induction m with
  | zero =>
    refine ⟨fun q ps hq hz _ => ?_, fun H hs hp' n ps he hH hh hz hps hn1 hn2 => ?_⟩
    · have := szAt_pos ht hq; omega
    · cases hs with
      | nil =>
        refine ⟨n, ?_, hn2, fun h => by omega, fun _ left => rfl⟩
        have : H.length = hp'.length := by rw [he]; simp
        exact Ev.step (fun k => by simp only [spec_l9Cover.l0]; rw [if_neg (by omega)]) (Ev.now _)
      | cons x hs =>
        obtain ⟨x0, x1⟩ := hh x (by simp)
        have := szAt_pos (q := x.toNat) ht (by omega)
        simp [szs] at hz
        omega
  | succ m ihm =>
    have hA : ∀ (q : Nat) (ps : List S63), q < t.length → szAt t q ≤ m + 1 → ps.length ≤ 1000 →
      ∃ n : Nat, Ev (fun k => spec_l9Cover.f k t l (q : Int) ps) (n : Int) ∧ n ≤ ps.length ∧ (n = 0 → ∀ left, goC t l ps ((q : Int) :: left) ≠ some []) ∧ (0 < n → ∀ left, goC t l ps ((q : Int) :: left) = goC t l (ps.drop n) left) := by
      intro q ps hq hz hps
      have j0t : Ev (fun k => spec_l9Cover.j0 k t l (q : Int) ps true) (((0 : Nat)) : Int) := Ev.step (f := fun _ => some (0 : Int)) (fun k => by simp only [spec_l9Cover.j0]; rw [if_pos trivial]) (some_ev rfl)
      cases ps with
      | nil =>
        refine ⟨0, ?_, by simp, fun _ left => by simp [goC], fun h => by omega⟩
        exact Ev.step (fun k => by simp only [spec_l9Cover.f]; rw [if_pos (by simp)]) j0t
      | cons x ps =>
        have hr : rd_T63 (x :: ps) 0 = x := rfl
        have bad : ¬ okPc t l (q : Int) x → (∀ R, Ev (fun k => spec_l9Cover.j0 k t l (q : Int) (x :: ps) true) R → Ev (fun k => spec_l9Cover.f k t l (q : Int) (x :: ps)) R) → ∃ n : Nat, Ev (fun k => spec_l9Cover.f k t l (q : Int) (x :: ps)) (n : Int) ∧ n ≤ (x :: ps).length ∧ (n = 0 → ∀ left, goC t l (x :: ps) ((q : Int) :: left) ≠ some []) ∧ (0 < n → ∀ left, goC t l (x :: ps) ((q : Int) :: left) = goC t l ((x :: ps).drop n) left) := by
          intro hb hj
          exact ⟨0, hj _ j0t, by omega, fun _ left => by simp only [goC]; rw [if_neg hb]; simp, fun h => by omega⟩
        by_cases c0 : x.f0 = (q : Int)
        · by_cases c1 : x.f1 < 0
          · exact bad (fun hc => by have := hc.2.1; omega) (fun R h => Ev.step (fun k => by simp only [spec_l9Cover.f]; rw [if_neg (by first | (simp; done) | (simp; omega)), if_pos (by first | (simp; done) | (simp; omega)), hr, if_pos c0, if_pos c1]) h)
          · by_cases c2 : x.f1 ≥ (l.length : Int)
            · refine bad (fun hc => by have := hc.2.2.1; omega) (fun R h => Ev.step (fun k => by simp only [spec_l9Cover.f]; rw [if_neg (by first | (simp; done) | (simp; omega)), if_pos (by first | (simp; done) | (simp; omega)), hr, if_pos c0, if_neg c1]) ?_)
              rw [show decide (x.f1 ≥ (l.length : Int)) = true by simpa using c2]
              exact h
            · have hpk := hp _ (rdT_mem l x.f1 (by omega) (by omega))
              obtain ⟨f1, f2⟩ := fit_bd t l ht hl hp (h := (q : Int)) (by omega) (by omega) (show 0 ≤ x.f1 by omega) (show x.f1 < l.length by omega)
              simp only [Int.toNat_natCast] at f1 f2
              have go : ∀ R, Ev (fun k => (if (fitAt t q (rd_T57 l x.f1)).2 = true then (spec_l9Cover.l0 k t l (x :: ps) 1 (fitAt t q (rd_T57 l x.f1)).1 ((fitAt t q (rd_T57 l x.f1)).1.length : Int) 0) else (some 0))) R → Ev (fun k => spec_l9Cover.f k t l (q : Int) (x :: ps)) R := by
                intro R h
                refine Ev.step (fun k => by simp only [spec_l9Cover.f]; rw [if_neg (by first | (simp; done) | (simp; omega)), if_pos (by first | (simp; done) | (simp; omega)), hr, if_pos c0, if_neg c1]) ?_
                rw [show decide (x.f1 ≥ (l.length : Int)) = false by simpa using c2]
                refine Ev.step (fun k => by simp only [spec_l9Cover.j0]; rw [if_neg (by simp), if_pos (by first | (simp; done) | (simp; omega)), hr, if_pos (by omega), if_pos (by omega)]) ?_
                exact bind_ev (spec_fits t q (rd_T57 l x.f1) ht hq hpk) h
              by_cases hfit : (fitAt t q (rd_T57 l x.f1)).2 = true
              · have hsz := fitAt_szs ht hq hpk hfit
                have hok : okPc t l (q : Int) x := ⟨c0, by omega, by omega, by simpa using hfit⟩
                obtain ⟨r, r1, r2, r3, r4⟩ := ihm.2 (fitAt t q (rd_T57 l x.f1)).1 (fitAt t q (rd_T57 l x.f1)).1 [] 1 (x :: ps) rfl (by omega) f2 (by omega) hps (by omega) (by simp)
                have e : ∀ left, goC t l (x :: ps) ((q : Int) :: left) = goC t l ps ((fitAt t q (rd_T57 l x.f1)).1 ++ left) := fun left => by
                  simp only [goC]; rw [if_pos hok]; simp
                refine ⟨r, go _ (ite_t hfit (by simpa using r1)), r2, fun h left => ?_, fun h left => ?_⟩
                · rw [e]; simpa using r3 h left
                · rw [e]; simpa using r4 h left
              · have hb : ¬ okPc t l (q : Int) x := fun hc => hfit (by simpa using hc.2.2.2)
                exact ⟨0, go _ (ite_f hfit (Ev.now _)), by omega, fun _ left => by simp only [goC]; rw [if_neg hb]; simp, fun h => by omega⟩
        · exact bad (fun hc => c0 hc.1) (fun R h => Ev.step (fun k => by simp only [spec_l9Cover.f]; rw [if_neg (by first | (simp; done) | (simp; omega)), if_pos (by first | (simp; done) | (simp; omega)), hr, if_neg c0]) h)
    refine ⟨hA, fun H hs hp' n ps he hH hh hz hps hn1 hn2 => ?_⟩
    cases hs with
    | nil =>
      refine ⟨n, ?_, hn2, fun h => by omega, fun _ left => rfl⟩
      have : H.length = hp'.length := by rw [he]; simp
      exact Ev.step (fun k => by simp only [spec_l9Cover.l0]; rw [if_neg (by omega)]) (Ev.now _)
    | cons x hs =>
      obtain ⟨x0, x1⟩ := hh x (by simp)
      obtain ⟨q, rfl⟩ := Int.eq_ofNat_of_zero_le x0
      have hq : q < t.length := by omega
      have hz1 := szAt_pos ht hq
      have hse : szs t ((q : Int) :: hs) = szAt t q + szs t hs := by simp [szs]
      have hn' : H.length = hp'.length + (hs.length + 1) := by rw [he]; simp
      have hr : rd H (hp'.length : Int) = (q : Int) := by rw [he]; exact rd_at rfl
      obtain ⟨a, a1, a2, a3, a4⟩ := hA q (ps.drop n) hq (by omega) (by first | (simp; done) | (simp; omega))
      simp only [List.length_drop] at a2
      have go : ∀ R, Ev (fun k => (if (a : Int) = 0 then (some 0) else (spec_l9Cover.l0 k t l ps (wrap64 ((n : Int) + (a : Int))) H (H.length : Int) ((hp'.length + 1 : Nat) : Int)))) R → Ev (fun k => spec_l9Cover.l0 k t l ps (n : Int) H (H.length : Int) (hp'.length : Int)) R := by
        intro R h
        refine Ev.step (fun k => by simp only [spec_l9Cover.l0]; rw [if_pos (by omega), if_pos (by omega), if_pos (by omega), if_pos (by omega), if_pos (by omega), hr, w_succ (by omega)]) ?_
        simp only [Int.toNat_natCast]
        exact bind_ev a1 h
      by_cases ha : a = 0
      · subst ha
        exact ⟨0, go _ (ite_t (by simp) (Ev.now _)), by omega, fun _ left => a3 rfl (hs ++ left), fun h => by omega⟩
      · obtain ⟨r, r1, r2, r3, r4⟩ := ihm.2 H hs (hp' ++ [(q : Int)]) (n + a) ps (by simp [he]) hH (fun h hh' => hh h (by simp [hh'])) (by omega) hps (by omega) (by omega)
        have e : ∀ left, goC t l (ps.drop n) ((q : Int) :: (hs ++ left)) = goC t l (ps.drop (n + a)) (hs ++ left) := fun left => by
          rw [a4 (by omega) (hs ++ left), List.drop_drop]
        refine ⟨r, go _ (ite_f (by omega) ?_), r2, fun h left => ?_, fun h left => ?_⟩
        · rw [w64 (x := (n : Int) + (a : Int)) (by omega) (by omega)]
          simpa using r1
        · rw [List.cons_append, e]; exact r3 h left
        · rw [List.cons_append, e]; exact r4 h left
theorem go_inR : ∀ (ps : List S63) (left r : List Int), goC t l ps left = some r → InR l ps
  | [], left, r, h => by intro x hx; simp at hx
  | x :: ps, [], r, h => by simp [goC] at h
  | x :: ps, y :: left, r, h => by
    simp only [goC] at h
    split at h
    · rename_i hok
      intro z hz
      rcases List.mem_cons.1 hz with rfl | hz
      · exact ⟨hok.2.1, hok.2.2.1⟩
      · exact go_inR ps _ r h z hz
    · cases h
end
theorem is_both (t : List Int) (l : List S57) (P : List S63) (hb : t.length ≤ 1048576) (hb2 : l.length ≤ 1048576) (hP : P.length ≤ 1000) :
    ∃ o : Int × Bool × Bool, Ev (fun k => spec_IsCover.f k t l P) o ∧ Ev (fun k => impl_IsCover.f k t l P) o ∧ (treeB t = true → patsB l = true → o = resI (goC t l P [0]) (smF l 0 P)) ∧ (¬ (treeB t = true ∧ patsB l = true) → o = (0, false, false)) := by
  unfold spec_IsCover.f impl_IsCover.f
  have sj : Ev (fun k => spec_IsCover.j0 k t l P true) (0, false, false) ∧ Ev (fun k => impl_IsCover.j0 k t l P true) (0, false, false) :=
    ⟨Ev.step (fun k => by simp only [spec_IsCover.j0]; rw [if_pos trivial]) (Ev.now _), Ev.step (fun k => by simp only [impl_IsCover.j0]; rw [if_pos trivial]) (Ev.now _)⟩
  by_cases h1 : treeB t = true
  · by_cases h2 : patsB l = true
    · have ht := treeB_ok h1
      obtain ⟨hl, hp2⟩ := patsB_ok h2
      have hp : ∀ p ∈ l, KindsOk p.f0 := fun p h => (hp2 p h).1
      have h01 := ht.1
      refine ⟨resI (goC t l P [0]) (smF l 0 P), ?_, ?_, fun _ _ => rfl, fun h => absurd ⟨h1, h2⟩ h⟩
      · refine bind_ev (spec_tree t hb) (ite_t h1 (bind_ev (spec_pats l hb2) ?_))
        rw [h2]
        refine Ev.step (fun k => by simp only [spec_IsCover.j0]; rw [if_neg (by simp)]) ?_
        obtain ⟨n, n1, n2, n3, n4⟩ := (spec_is t l ht (by omega) hp (szAt t 0)).1 0 P (by omega) (Nat.le_refl _) hP
        refine bind_ev n1 ?_
        have e0 : (((0 : Nat) : Int) :: ([] : List Int)) = [0] := rfl
        by_cases hn : n = 0
        · have := n3 hn []
          rw [e0] at this
          refine ite_t (by omega) (some_ev ?_)
          cases hg : goC t l P [0] with
          | none => rfl
          | some r =>
            cases r with
            | nil => exact absurd hg this
            | cons y r => rfl
        · have h4 := n4 (by omega) []
          rw [e0] at h4
          refine ite_f (by omega) ?_
          by_cases hnl : (n : Int) = (P.length : Int)
          · have hd : P.drop n = [] := List.drop_eq_nil_of_le (by omega)
            rw [hd] at h4
            have hg : goC t l P [0] = some [] := h4
            rw [hg]
            refine ite_t hnl (bind_ev (a := smF l 0 P) ?_ (some_ev rfl))
            have := spec_sum_l0 l P hP (go_inR t l ht (by omega) hp P [0] [] hg) P [] 0 rfl
            unfold spec_l9Sum.f
            simpa using this
          · refine ite_f hnl (some_ev ?_)
            cases hd : P.drop n with
            | nil => have := congrArg List.length hd; simp at this; omega
            | cons y r =>
              rw [hd] at h4
              rw [h4]; rfl
      · refine bind_ev (impl_tree t hb) (ite_t h1 (bind_ev (impl_pats l) ?_))
        rw [h2]
        refine Ev.step (fun k => by simp only [impl_IsCover.j0]; rw [if_neg (by simp)]) ?_
        have := impl_is_l0 t l ht (by omega) hp P hP P [] [0] 0 rfl (fun h hh => by simp at hh; omega) (by simp)
        simpa using this
    · have h2' : patsB l = false := by simpa using h2
      refine ⟨(0, false, false), bind_ev (spec_tree t hb) (ite_t h1 (bind_ev (spec_pats l hb2) ?_)), bind_ev (impl_tree t hb) (ite_t h1 (bind_ev (impl_pats l) ?_)), fun _ h => absurd h h2, fun _ => rfl⟩
      · rw [h2']; exact sj.1
      · rw [h2']; exact sj.2
  · exact ⟨(0, false, false), bind_ev (spec_tree t hb) (ite_f h1 sj.1), bind_ev (impl_tree t hb) (ite_f h1 sj.2), fun h => absurd h h1, fun _ => rfl⟩
end Go.Proofs.Ytfdbdbihhgabpaa.Pure
