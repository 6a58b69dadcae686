/- The program's row of what is left to cover, against the reference's recursion. Conditions: none. -/
import Derived.Test.YtfdbdbihhgabpaaPInv
import Derived.Test.YtfdbdbihhgabpaaDataN
import Derived.Test.YtfdbdbihhgabpaaQx0
import Derived.Test.YtfdbdbihhgabpaaQx3
set_option linter.unusedVariables false
set_option linter.unusedSimpArgs false
set_option linter.unusedSectionVars false
namespace Go.Proofs.Ytfdbdbihhgabpaa.Pure
open Go.RowKit Go.Proofs.Ytfdbdbihhgabpaa.Q Go.Proofs.YtfdbdbihhgabpaaW.PrintWords Go.Proofs.YtfdbdbihhgabpaaW.PrintLast Go.Proofs.Ytfdbdbihhgabpaa.Kit

/-- How much the tree at a place holds. -/
def szAt (t : List Int) (q : Nat) : Nat := match sk true 1 (t.drop q) with
  | some r => (t.drop q).length - r.length
  | none => 0
def szs (t : List Int) (hs : List Int) : Nat := (hs.map fun h => szAt t h.toNat).sum
/-- The places' trees lie apart within what the kinds take. -/
theorem fitF_szs (t : List Int) (hn : ∀ x ∈ t, x ≠ 0) : ∀ (ks pre s acc : List Int) (d : Nat) (r : List Int), t = pre ++ s → sk true d ks = some [] → sk true d s = some r →
    (fitF t.length ks s acc).2 = true → szs t (fitF t.length ks s acc).1 ≤ szs t acc + (s.length - r.length)
  | [], pre, s, acc, d, r, ht, hd, hs, h => by simp [fitF]
  | k :: ks, pre, s, acc, 0, r, ht, hd, hs, h => by simp [sk] at hd
  | k :: ks, pre, s, acc, d + 1, r, ht, hd, hs, h => by
    have htl : t.length = pre.length + s.length := by rw [ht]; simp
    obtain ⟨ha0, hd'⟩ := There.tail ⟨[], hd⟩
    simp only [sk] at hd
    rw [if_neg (by simp; omega)] at hd
    by_cases h0 : k = 0
    · subst h0
      obtain ⟨r1, h1, h2⟩ := There.one ⟨r, hs⟩
      obtain ⟨p, hp, hpl⟩ := sk_suf ht h1
      have hs' : sk true d r1 = some r := by
        rw [show d + 1 = 1 + d by omega, sk_add, h1] at hs
        exact hs
      have hl1 := (sk_len true s 1 r1 h1).1
      have hl2 := (sk_len true r1 d r hs').1
      simp only [fitF, if_true, h1] at h ⊢
      have ih := fitF_szs t hn ks p r1 (acc ++ [((t.length - s.length : Nat) : Int)]) d r hp (by simpa [ar] using hd) hs' h
      have e : szAt t (t.length - s.length) = s.length - r1.length := by
        unfold szAt
        rw [show t.drop (t.length - s.length) = s by rw [ht]; simp]
        rw [h1]
      have e2 : szs t (acc ++ [((t.length - s.length : Nat) : Int)]) = szs t acc + (s.length - r1.length) := by
        unfold szs; simp [e]
      omega
    · cases s with
      | nil => simp [sk] at hs
      | cons x s' =>
        simp only [fitF, if_neg h0] at h ⊢
        split at h
        · rename_i hx
          rw [if_pos hx]
          simp only [sk] at hs
          split at hs
          · cases hs
          · rw [hx] at hs
            have ih := fitF_szs t hn ks (pre ++ [x]) s' acc (d + (ar k).toNat) r (by simp [ht]) hd hs h
            have hl2 := (sk_len true s' _ r hs).1
            simp only [List.length_cons]
            omega
        · simp at h
theorem fitAt_szs {t : List Int} {q : Nat} {p : S57} (ht : TreeOk t) (hq : q < t.length) (hp : KindsOk p.f0) (h : (fitAt t q p).2 = true) : szs t (fitAt t q p).1 + 1 ≤ szAt t q := by
  obtain ⟨_, hb, hn, hs⟩ := ht
  obtain ⟨_, _, ⟨k, ks, hk, hk0⟩, hk1⟩ := hp
  have e : t = t.take q ++ t.drop q := by simp
  have hne : t.drop q ≠ [] := by intro h; have := congrArg List.length h; simp at this; omega
  obtain ⟨r, hr⟩ := there_at hs e hne
  unfold szAt
  rw [hr]
  unfold fitAt at h ⊢
  rw [hk] at h ⊢ hk1
  cases hd : t.drop q with
  | nil => exact absurd hd hne
  | cons x s' =>
    rw [hd] at h hr e
    simp only [fitF, if_neg hk0] at h ⊢
    simp only [sk] at hr hk1
    split at hk1
    · cases hk1
    split at hr
    · cases hr
    split at h
    · rename_i hx
      rw [if_pos hx]
      rw [hx] at hr
      simp only [Nat.zero_add] at hr hk1
      have := fitF_szs t hn ks (t.take q ++ [x]) s' [] (ar k).toNat r (by rw [List.append_assoc]; simpa using e) hk1 hr h
      have hl2 := (sk_len true s' _ r hr).1
      simp [szs] at this ⊢
      omega
    · simp at h
theorem szAt_pos {t : List Int} {q : Nat} (ht : TreeOk t) (hq : q < t.length) : 1 ≤ szAt t q := by
  obtain ⟨_, hb, hn, hs⟩ := ht
  have e : t = t.take q ++ t.drop q := by simp
  have hne : t.drop q ≠ [] := by intro h; have := congrArg List.length h; simp at this; omega
  obtain ⟨r, hr⟩ := there_at hs e hne
  have := (sk_len true _ 1 r hr).1
  unfold szAt
  rw [hr]
  dsimp only
  omega
section
variable (t : List Int) (l : List S57) (F : List Int) (ht : TreeOk t) (hl : l.length ≤ 1000) (hp : ∀ p ∈ l, KindsOk p.f0) (hF : F.length = t.length)
  (hV : ∀ q : Nat, q < t.length → rd F q ≥ 0 → rd F q < l.length ∧ (fitAt t q (rd_T57 l (rd F q))).2 = true)
  (LAY : Nat → List S63 → List Int → Option (List S63))
  (hneg : ∀ (out : List S63) (q : Nat) (rest : List Int), q < t.length → out.length ≤ 1000 → rd F q < 0 → Ev (fun k => LAY k out ((q : Int) :: rest)) (out ++ [⟨q, rd F q⟩]))
  (hpos : ∀ (out : List S63) (q : Nat) (rest : List Int) (R : List S63), q < t.length → out.length ≤ 1000 → rest.length ≤ 1000 → rd F q ≥ 0 → rd F q < l.length → Ev (fun k => LAY k (out ++ [⟨q, rd F q⟩]) ((fitAt t q (rd_T57 l (rd F q))).1 ++ rest)) R → Ev (fun k => LAY k out ((q : Int) :: rest)) R)
include ht hl hp hF hV hneg hpos
/-- At the places of what is told, patterns are told. -/
def Whole (t : List Int) (l : List S57) (F : List Int) : Prop := ∀ q : Nat, q < t.length → rd F q ≥ 0 → ∀ h ∈ (fitAt t q (rd_T57 l (rd F q))).1, rd F h ≥ 0
def InR (l : List S57) (ps : List S63) : Prop := ∀ x ∈ ps, 0 ≤ x.f1 ∧ x.f1 < l.length
theorem lay_both : ∀ (m : Nat),
    (∀ (q : Nat) (out : List S63), q < t.length → szAt t q ≤ m → out.length + szAt t q ≤ 1000 →
      (∃ ps : List S63, ps.length ≤ szAt t q ∧ InR l ps ∧ Ev (fun k => spec_l9Pieces.f k t l (q : Int) F out) (out ++ ps, true) ∧ ∀ (rest : List Int) (R : List S63), rest.length + 11 * szAt t q ≤ 1000 → Ev (fun k => LAY k (out ++ ps) rest) R → Ev (fun k => LAY k out ((q : Int) :: rest)) R) ∨
      (∃ (ps : List S63) (x : S63), InR l ps ∧ ps.length + 1 ≤ szAt t q ∧ x.f1 < 0 ∧ (Whole t l F → rd F q < 0) ∧ Ev (fun k => spec_l9Pieces.f k t l (q : Int) F out) ([], false) ∧ ∀ (rest : List Int), rest.length + 11 * szAt t q ≤ 1000 → Ev (fun k => LAY k out ((q : Int) :: rest)) (out ++ ps ++ [x]))) ∧
    (∀ (H hs hp' : List Int) (out : List S63), H = hp' ++ hs → H.length ≤ 1000 → (∀ h ∈ hs, 0 ≤ h ∧ h < t.length) → szs t hs ≤ m → out.length + szs t hs ≤ 1000 →
      (∃ ps : List S63, ps.length ≤ szs t hs ∧ InR l ps ∧ Ev (fun k => spec_l9Pieces.l0 k t l F out H (H.length : Int) (hp'.length : Int)) (out ++ ps, true) ∧ ∀ (rest : List Int) (R : List S63), hs.length + rest.length + 11 * szs t hs ≤ 1000 → Ev (fun k => LAY k (out ++ ps) rest) R → Ev (fun k => LAY k out (hs ++ rest)) R) ∨
      (∃ (ps : List S63) (x : S63), InR l ps ∧ ps.length + 1 ≤ szs t hs ∧ x.f1 < 0 ∧ (Whole t l F → ∃ h ∈ hs, rd F h < 0) ∧ Ev (fun k => spec_l9Pieces.l0 k t l F out H (H.length : Int) (hp'.length : Int)) ([], false) ∧ ∀ (rest : List Int), hs.length + rest.length + 11 * szs t hs ≤ 1000 → Ev (fun k => LAY k out (hs ++ rest)) (out ++ ps ++ [x]))) := by
  intro m
  induction m with
  | zero =>
    refine ⟨fun q out hq hz _ => ?_, fun H hs hp' out he hH hh hz _ => ?_⟩
    · have := szAt_pos ht hq; omega
    · cases hs with
      | nil =>
        refine .inl ⟨[], by simp [szs], by intro x hx; simp at hx, ?_, fun rest R _ h => by simpa using h⟩
        have : H.length = hp'.length := by rw [he]; simp
        refine Ev.step (fun k => by simp only [spec_l9Pieces.l0]; rw [if_neg (by omega)]) ?_
        exact some_ev (by simp)
      | cons x hs =>
        obtain ⟨x0, x1⟩ := hh x (by simp)
        have := szAt_pos (q := x.toNat) ht (by omega)
        simp [szs] at hz
        omega
  | succ m ihm =>
    have hA : ∀ (q : Nat) (out : List S63), q < t.length → szAt t q ≤ m + 1 → out.length + szAt t q ≤ 1000 →
      (∃ ps : List S63, ps.length ≤ szAt t q ∧ InR l ps ∧ Ev (fun k => spec_l9Pieces.f k t l (q : Int) F out) (out ++ ps, true) ∧ ∀ (rest : List Int) (R : List S63), rest.length + 11 * szAt t q ≤ 1000 → Ev (fun k => LAY k (out ++ ps) rest) R → Ev (fun k => LAY k out ((q : Int) :: rest)) R) ∨
      (∃ (ps : List S63) (x : S63), InR l ps ∧ ps.length + 1 ≤ szAt t q ∧ x.f1 < 0 ∧ (Whole t l F → rd F q < 0) ∧ Ev (fun k => spec_l9Pieces.f k t l (q : Int) F out) ([], false) ∧ ∀ (rest : List Int), rest.length + 11 * szAt t q ≤ 1000 → Ev (fun k => LAY k out ((q : Int) :: rest)) (out ++ ps ++ [x])) := by
      intro q out hq hz ho
      have hz1 := szAt_pos ht hq
      by_cases hn : rd F q < 0
      · refine .inr ⟨[], ⟨q, rd F q⟩, by intro x hx; simp at hx, by simpa using hz1, hn, fun _ => hn, ?_, fun rest _ => ?_⟩
        · refine Ev.step (fun k => by simp only [spec_l9Pieces.f]; rw [if_pos (by omega), if_pos (by omega), if_pos hn]) ?_
          exact some_ev rfl
        · simpa using hneg out q rest hq (by omega) hn
      · have hge : rd F q ≥ 0 := by omega
        obtain ⟨v1, v2⟩ := hV q hq hge
        have hpk := hp _ (rdT_mem l _ hge v1)
        have hsz := fitAt_szs ht hq hpk v2
        have hpl := fitAt_places hq hpk
        have hfl : (fitAt t q (rd_T57 l (rd F q))).1.length ≤ 10 := by
          have := fitF_len t.length (rd_T57 l (rd F q)).f0 (t.drop q) []
          have := hpk.2.1
          unfold fitAt; simp at *; omega
        have spec : ∀ r, Ev (fun k => spec_l9Pieces.l0 k t l F (out ++ [⟨q, rd F q⟩]) (fitAt t q (rd_T57 l (rd F q))).1 ((fitAt t q (rd_T57 l (rd F q))).1.length : Int) 0) r → Ev (fun k => spec_l9Pieces.f k t l (q : Int) F out) r := by
          intro r h
          refine Ev.step (fun k => by simp only [spec_l9Pieces.f]; rw [if_pos (by omega), if_pos (by omega), if_neg hn, if_pos (by omega), if_pos hge, if_pos v1]) ?_
          exact bind_ev (spec_fits t q (rd_T57 l (rd F q)) ht hq hpk) h
        rcases ihm.2 (fitAt t q (rd_T57 l (rd F q))).1 (fitAt t q (rd_T57 l (rd F q))).1 [] (out ++ [⟨q, rd F q⟩]) rfl (by omega) (fun h hh => by have := hpl h hh; omega) (by omega) (by simp; omega) with ⟨ps, p1, p2, p3, p4⟩ | ⟨ps, x, p1, p2, p3, p4, p5, p6⟩
        · refine .inl ⟨⟨q, rd F q⟩ :: ps, by simp; omega, ?_, ?_, fun rest R hr h => ?_⟩
          · intro x hx
            rcases List.mem_cons.1 hx with rfl | hx
            · exact ⟨hge, v1⟩
            · exact p2 x hx
          · have := spec _ p3
            simpa using this
          · exact hpos out q rest R hq (by omega) (by omega) hge v1 (p4 rest R (by omega) (by simpa using h))
        · refine .inr ⟨⟨q, rd F q⟩ :: ps, x, ?_, by simp; omega, p3, fun hw => ?_, spec _ p5, fun rest hr => ?_⟩
          · intro y hy
            rcases List.mem_cons.1 hy with rfl | hy
            · exact ⟨hge, v1⟩
            · exact p1 y hy
          · obtain ⟨h, hh, hlt⟩ := p4 hw
            have := hw q hq hge h hh
            omega
          · have := hpos out q rest _ hq (by omega) (by omega) hge v1 (p6 rest (by omega))
            simpa using this
    refine ⟨hA, fun H hs hp' out he hH hh hz ho => ?_⟩
    cases hs with
    | nil =>
      refine .inl ⟨[], by simp [szs], by intro x hx; simp at hx, ?_, fun rest R _ h => by simpa using h⟩
      have : H.length = hp'.length := by rw [he]; simp
      refine Ev.step (fun k => by simp only [spec_l9Pieces.l0]; rw [if_neg (by omega)]) ?_
      exact some_ev (by simp)
    | cons x hs =>
      obtain ⟨x0, x1⟩ := hh x (by simp)
      obtain ⟨q, rfl⟩ := Int.eq_ofNat_of_zero_le x0
      have hq : q < t.length := by omega
      have hz1 := szAt_pos ht hq
      have hse : szs t ((q : Int) :: hs) = szAt t q + szs t hs := by simp [szs]
      have hn' : H.length = hp'.length + (hs.length + 1) := by rw [he]; simp
      have hr : rd H (hp'.length : Int) = (q : Int) := by rw [he]; exact rd_at rfl
      have spec : ∀ (b : List S63 × Bool) r, Ev (fun k => spec_l9Pieces.f k t l (q : Int) F out) b → (Ev (fun k => if b.2 = true then spec_l9Pieces.l0 k t l F b.1 H (H.length : Int) ((hp'.length + 1 : Nat) : Int) else some ([], false)) r) → Ev (fun k => spec_l9Pieces.l0 k t l F out H (H.length : Int) (hp'.length : Int)) r := by
        intro b r h1 h2
        refine Ev.step (fun k => by simp only [spec_l9Pieces.l0]; rw [if_pos (by omega), if_pos (by omega), if_pos (by omega), hr, w_succ (by omega)]) ?_
        exact bind_ev h1 h2
      rcases hA q out hq (by omega) (by omega) with ⟨ps, p1, p2, p3, p4⟩ | ⟨ps, y, p1, p2, p3, p4, p5, p6⟩
      · rcases ihm.2 H hs (hp' ++ [(q : Int)]) (out ++ ps) (by simp [he]) hH (fun h hh' => hh h (by simp [hh'])) (by omega) (by simp; omega) with ⟨ps2, r1, r2, r3, r4⟩ | ⟨ps2, y, r1, r2, r3, r4, r5, r6⟩
        · refine .inl ⟨ps ++ ps2, by simp; omega, ?_, spec _ _ p3 (ite_t rfl (by simpa using r3)), fun rest R hrr h => ?_⟩
          · intro z hz'
            rcases List.mem_append.1 hz' with hz' | hz'
            · exact p2 z hz'
            · exact r2 z hz'
          · simp only [List.length_cons] at hrr
            exact p4 (hs ++ rest) R (by simp; omega) (r4 rest R (by omega) (by simpa using h))
        · refine .inr ⟨ps ++ ps2, y, ?_, by simp; omega, r3, fun hw => ?_, spec _ _ p3 (ite_t rfl (by simpa using r5)), fun rest hrr => ?_⟩
          · intro z hz'
            rcases List.mem_append.1 hz' with hz' | hz'
            · exact p2 z hz'
            · exact r1 z hz'
          · obtain ⟨h, hh', hlt⟩ := r4 hw
            exact ⟨h, by simp [hh'], hlt⟩
          · simp only [List.length_cons] at hrr
            have := p4 (hs ++ rest) _ (by simp; omega) (r6 rest (by omega))
            simpa using this
      · refine .inr ⟨ps, y, p1, by omega, p3, fun hw => ⟨_, by simp, p4 hw⟩, spec _ _ p5 (ite_f (by simp) (some_ev rfl)), fun rest hrr => ?_⟩
        simp only [List.length_cons] at hrr
        have := p6 (hs ++ rest) (by simp; omega)
        simpa using this
end
end Go.Proofs.Ytfdbdbihhgabpaa.Pure
