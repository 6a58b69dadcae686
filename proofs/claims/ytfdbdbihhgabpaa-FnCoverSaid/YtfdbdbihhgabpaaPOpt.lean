/- The least costs are the least: no cover costs less, and the best one costs that. Conditions: none. -/
import Derived.Test.YtfdbdbihhgabpaaPIs
import Derived.Test.YtfdbdbihhgabpaaQx0
import Derived.Test.YtfdbdbihhgabpaaQx3
set_option linter.unusedVariables false
set_option linter.unusedSimpArgs false
set_option linter.unusedSectionVars false
namespace Go.Proofs.Ytfdbdbihhgabpaa.Pure
open Go.RowKit Go.Proofs.Ytfdbdbihhgabpaa.Q Go.Proofs.YtfdbdbihhgabpaaW.PrintWords Go.Proofs.YtfdbdbihhgabpaaW.PrintLast Go.Proofs.Ytfdbdbihhgabpaa.Kit

def costN (l : List S57) : List S63 → Int
  | [] => 0
  | x :: xs => (rd_T57 l x.f1).f1 + costN l xs
def CostOk (l : List S57) : Prop := ∀ p ∈ l, 1 ≤ p.f1 ∧ p.f1 ≤ 100
theorem cost_at {l : List S57} (hc : CostOk l) {i : Int} (h0 : 0 ≤ i) (h1 : i < l.length) : 1 ≤ (rd_T57 l i).f1 ∧ (rd_T57 l i).f1 ≤ 100 := hc _ (rdT_mem l i h0 h1)
theorem smF_eq {l : List S57} (hc : CostOk l) : ∀ (ps : List S63) (s : Int), InR l ps → 0 ≤ s → s + 100 * ps.length ≤ 1000000000 → smF l s ps = s + costN l ps
  | [], s, _, _, _ => by simp [smF, costN]
  | x :: ps, s, hr, h0, h1 => by
    obtain ⟨x0, x1⟩ := hr x (by simp)
    have hx := cost_at hc x0 x1
    simp only [List.length_cons] at h1
    simp only [smF, costN]
    rw [w64 (x := s + (rd_T57 l x.f1).f1) (by omega) (by omega), smF_eq hc ps _ (fun y hy => hr y (by simp [hy])) (by omega) (by omega)]
    omega
theorem costN_append (l : List S57) : ∀ (a b : List S63), costN l (a ++ b) = costN l a + costN l b
  | [], b => by simp [costN]
  | x :: a, b => by simp only [List.cons_append, costN, costN_append l a b]; omega
def sumC (C : List Int) : List Int → Int
  | [] => 0
  | h :: hs => rd C h + sumC C hs
theorem sumC_append (C : List Int) : ∀ (a b : List Int), sumC C (a ++ b) = sumC C a + sumC C b
  | [], b => by simp [sumC]
  | x :: a, b => by simp only [List.cons_append, sumC, sumC_append C a b]; omega
theorem sumC_congr {C C' : List Int} : ∀ (hs : List Int), (∀ h ∈ hs, rd C' h = rd C h) → sumC C' hs = sumC C hs
  | [], _ => rfl
  | x :: hs, h => by simp only [sumC]; rw [h x (by simp), sumC_congr hs (fun y hy => h y (by simp [hy]))]
theorem sumC_le {t C : List Int} : ∀ (hs : List Int), (∀ h ∈ hs, 0 ≤ rd C h ∧ rd C h ≤ 100 * ((szAt t h.toNat : Nat) : Int)) → 0 ≤ sumC C hs ∧ sumC C hs ≤ 100 * ((szs t hs : Nat) : Int)
  | [], _ => by simp [sumC, szs]
  | x :: hs, h => by
    have ih := sumC_le hs (fun y hy => h y (by simp [hy]))
    have hx := h x (by simp)
    have e : szs t (x :: hs) = szAt t x.toNat + szs t hs := by simp [szs]
    simp only [sumC]; rw [e]; omega
theorem hol_val (C F : List Int) : ∀ (hs : List Int) (ok : Bool) (sum : Int), (∀ h ∈ hs, 0 ≤ rd C h ∧ rd C h ≤ 4000) → 0 ≤ sum → sum + 4000 * hs.length ≤ 1000000000 →
    hol C F hs ok sum = (ok && hs.all (fun h => decide (rd F h ≥ 0)), sum + sumC C hs)
  | [], ok, sum, _, _, _ => by simp [hol, sumC]
  | x :: hs, ok, sum, h, h0, h1 => by
    have hx := h x (by simp)
    simp only [List.length_cons] at h1
    simp only [hol]
    rw [w64 (x := sum + rd C x) (by omega) (by omega), hol_val C F hs _ _ (fun y hy => h y (by simp [hy])) (by omega) (by omega)]
    simp only [sumC, List.all_cons, Prod.mk.injEq]
    refine ⟨?_, by omega⟩
    cases ok <;> simp
section
variable (t : List Int) (l : List S57) (ht : TreeOk t) (hl : l.length ≤ 1000) (hp : ∀ p ∈ l, KindsOk p.f0) (hc : CostOk l)
/-- What is told at a place, of the first k patterns. -/
structure Opt (C F : List Int) (k q : Nat) : Prop where
  no : rd F q < 0 → rd C q = 0
  yes : rd F q ≥ 0 → rd F q < l.length ∧ (fitAt t q (rd_T57 l (rd F q))).2 = true ∧ (∀ h ∈ (fitAt t q (rd_T57 l (rd F q))).1, rd F h ≥ 0) ∧ rd C q = (rd_T57 l (rd F q)).f1 + sumC C (fitAt t q (rd_T57 l (rd F q))).1
  least : ∀ i : Nat, i < k → i < l.length → (fitAt t q (rd_T57 l (i : Int))).2 = true → (∀ h ∈ (fitAt t q (rd_T57 l (i : Int))).1, rd F h ≥ 0) → rd F q ≥ 0 ∧ rd C q ≤ (rd_T57 l (i : Int)).f1 + sumC C (fitAt t q (rd_T57 l (i : Int))).1
  lo : 0 ≤ rd C q
  hi : rd C q ≤ 100 * ((szAt t q : Nat) : Int)
include hp in
theorem places_gt {q : Nat} (hq : q < t.length) {i : Int} (h0 : 0 ≤ i) (h1 : i < l.length) : ∀ h ∈ (fitAt t q (rd_T57 l i)).1, (q : Int) < h ∧ h < t.length := fitAt_places hq (hp _ (rdT_mem l i h0 h1))
include hp in
theorem opt_congr {C F C' F' : List Int} {k q : Nat} (hq : q < t.length) (hC : ∀ h : Int, (q : Int) ≤ h → rd C' h = rd C h) (hF : ∀ h : Int, (q : Int) ≤ h → rd F' h = rd F h) (o : Opt t l C F k q) : Opt t l C' F' k q := by
  have e1 := hC q (by omega)
  have e2 := hF q (by omega)
  refine ⟨fun h => ?_, fun h => ?_, fun i hi hil hf hh => ?_, ?_, ?_⟩
  · rw [e1]; rw [e2] at h; exact o.no h
  · rw [e2] at h ⊢
    obtain ⟨a, b, c, d⟩ := o.yes h
    have hg := places_gt t l hp hq h a
    exact ⟨a, b, fun x hx => by rw [hF x (by have := hg x hx; omega)]; exact c x hx, by rw [e1, d, sumC_congr _ (fun x hx => hC x (by have := hg x hx; omega))]⟩
  · have hg := places_gt t l hp hq (i := (i : Int)) (by omega) (by omega)
    have := o.least i hi hil hf (fun x hx => by rw [← hF x (by have := hg x hx; omega)]; exact hh x hx)
    rw [e1, e2, sumC_congr _ (fun x hx => hC x (by have := hg x hx; omega))]
    exact this
  · rw [e1]; exact o.lo
  · rw [e1]; exact o.hi
include ht hl hp hc in
theorem opt_step {pp ps : List S57} {p : S57} (he : l = pp ++ p :: ps) {at_ : Nat} (h1 : at_ < t.length) {C F : List Int} (hC : C.length = t.length) (hF : F.length = t.length)
    (ho : ∀ q, at_ < q → q < t.length → Opt t l C F l.length q) (oa : Opt t l C F pp.length at_) :
    ∃ C' F', stepC t at_ pp.length p (C, F) = (C', F') ∧ C'.length = t.length ∧ F'.length = t.length ∧ (∀ h : Int, 0 ≤ h → h ≠ at_ → rd C' h = rd C h) ∧ (∀ h : Int, 0 ≤ h → h ≠ at_ → rd F' h = rd F h) ∧ Opt t l C' F' (pp.length + 1) at_ := by
  have hn' : l.length = pp.length + (ps.length + 1) := by rw [he]; simp
  have hr : rd_T57 l (pp.length : Int) = p := by rw [he]; exact rdat_T57 rfl
  have hpk := hp p (by rw [he]; simp)
  have hcp := hc p (by rw [he]; simp)
  have hpl := fitAt_places h1 hpk
  have hb := ht.2.1
  have hfl : (fitAt t at_ p).1.length ≤ 10 := by
    have := fitF_len t.length p.f0 (t.drop at_) []
    have := hpk.2.1
    unfold fitAt; simp at *; omega
  have hszl : ∀ q, szAt t q ≤ 40 := fun q => by have := szAt_leG t q; omega
  have hbd : ∀ h ∈ (fitAt t at_ p).1, 0 ≤ rd C h ∧ rd C h ≤ 100 * ((szAt t h.toNat : Nat) : Int) := fun h hh => by
    have hg := hpl h hh
    have o := ho h.toNat (by omega) (by omega)
    have a := o.lo
    have b := o.hi
    rw [show ((h.toNat : Nat) : Int) = h by omega] at a b
    exact ⟨a, b⟩
  have hv := hol_val C F (fitAt t at_ p).1 (fitAt t at_ p).2 p.f1 (fun h hh => by have := hbd h hh; have := hszl h.toNat; omega) (by omega) (by omega)
  have hs := sumC_le (t := t) (C := C) (fitAt t at_ p).1 hbd
  unfold stepC
  simp only
  rw [hv]
  simp only
  have same : Opt t l C F (pp.length + 1) at_ → ∃ C' F', (C, F) = (C', F') ∧ C'.length = t.length ∧ F'.length = t.length ∧ (∀ h : Int, 0 ≤ h → h ≠ at_ → rd C' h = rd C h) ∧ (∀ h : Int, 0 ≤ h → h ≠ at_ → rd F' h = rd F h) ∧ Opt t l C' F' (pp.length + 1) at_ :=
    fun o => ⟨C, F, rfl, hC, hF, fun _ _ _ => rfl, fun _ _ _ => rfl, o⟩
  by_cases hok : ((fitAt t at_ p).2 && (fitAt t at_ p).1.all (fun h => decide (rd F h ≥ 0))) = true
  · have hok' := hok
    simp only [Bool.and_eq_true, List.all_eq_true, decide_eq_true_eq] at hok'
    obtain ⟨k1, k2⟩ := hok'
    have hsz := fitAt_szs ht h1 hpk k1
    have set_ : (rd F at_ < 0 ∨ p.f1 + sumC C (fitAt t at_ p).1 < rd C at_) → ∃ C' F', (C.set at_ (p.f1 + sumC C (fitAt t at_ p).1), F.set at_ (pp.length : Int)) = (C', F') ∧ C'.length = t.length ∧ F'.length = t.length ∧ (∀ h : Int, 0 ≤ h → h ≠ at_ → rd C' h = rd C h) ∧ (∀ h : Int, 0 ≤ h → h ≠ at_ → rd F' h = rd F h) ∧ Opt t l C' F' (pp.length + 1) at_ := by
      intro hcase
      have eC : ∀ h : Int, 0 ≤ h → h ≠ at_ → rd (C.set at_ (p.f1 + sumC C (fitAt t at_ p).1)) h = rd C h := fun h h0 hne => rd_set_ne C at_ _ h h0 hne
      have eF : ∀ h : Int, 0 ≤ h → h ≠ at_ → rd (F.set at_ (pp.length : Int)) h = rd F h := fun h h0 hne => rd_set_ne F at_ _ h h0 hne
      have aC : rd (C.set at_ (p.f1 + sumC C (fitAt t at_ p).1)) (at_ : Int) = p.f1 + sumC C (fitAt t at_ p).1 := rd_set_eq C at_ _ (by omega)
      have aF : rd (F.set at_ (pp.length : Int)) (at_ : Int) = (pp.length : Int) := rd_set_eq F at_ _ (by omega)
      have sC : ∀ i : Int, 0 ≤ i → i < l.length → sumC (C.set at_ (p.f1 + sumC C (fitAt t at_ p).1)) (fitAt t at_ (rd_T57 l i)).1 = sumC C (fitAt t at_ (rd_T57 l i)).1 := fun i i0 i1 => sumC_congr _ (fun x hx => eC x (by have := places_gt t l hp h1 i0 i1 x hx; omega) (by have := places_gt t l hp h1 i0 i1 x hx; omega))
      refine ⟨_, _, rfl, by simpa using hC, by simpa using hF, eC, eF, ⟨fun h => ?_, fun h => ?_, fun i hi hil hf hh => ?_, ?_, ?_⟩⟩
      · rw [aF] at h; omega
      · rw [aF, hr]
        refine ⟨by omega, k1, fun x hx => ?_, ?_⟩
        · rw [eF x (by have := hpl x hx; omega) (by have := hpl x hx; omega)]; exact k2 x hx
        · rw [aC]
          have := sC (pp.length : Int) (by omega) (by omega)
          rw [hr] at this
          rw [this]
      · rw [aC, aF]
        refine ⟨by omega, ?_⟩
        rw [sC (i : Int) (by omega) (by omega)]
        by_cases hip : i = pp.length
        · subst hip
          rw [hr]; exact Int.le_refl _
        · have hg := places_gt t l hp h1 (i := (i : Int)) (by omega) (by omega)
          have := oa.least i (by omega) hil hf (fun x hx => by rw [← eF x (by have := hg x hx; omega) (by have := hg x hx; omega)]; exact hh x hx)
          rcases hcase with h | h <;> omega
      · rw [aC]; omega
      · rw [aC]; omega
    unfold updC
    rw [if_pos hok]
    by_cases hf : rd F at_ < 0
    · rw [if_pos hf]
      simpa using set_ (.inl hf)
    · rw [if_neg hf]
      by_cases hlt : p.f1 + sumC C (fitAt t at_ p).1 < rd C at_
      · rw [if_pos hlt]
        simpa using set_ (.inr hlt)
      · rw [if_neg hlt]
        refine same ⟨oa.no, oa.yes, fun i hi hil hff hh => ?_, oa.lo, oa.hi⟩
        by_cases hip : i = pp.length
        · subst hip
          rw [hr]; exact ⟨by omega, by omega⟩
        · exact oa.least i (by omega) hil hff hh
  · unfold updC
    rw [if_neg hok]
    refine same ⟨oa.no, oa.yes, fun i hi hil hff hh => ?_, oa.lo, oa.hi⟩
    by_cases hip : i = pp.length
    · subst hip
      rw [hr] at hff hh
      exact absurd (by simp only [Bool.and_eq_true, List.all_eq_true, decide_eq_true_eq]; exact ⟨hff, hh⟩) hok
    · exact oa.least i (by omega) hil hff hh
include ht hl hp hc in
theorem opt_cov1 {at_ : Nat} (h1 : at_ < t.length) : ∀ (ps pp : List S57) (C F : List Int), l = pp ++ ps → C.length = t.length → F.length = t.length →
    (∀ q, at_ < q → q < t.length → Opt t l C F l.length q) → Opt t l C F pp.length at_ → (∀ q : Nat, q < at_ → rd C q = 0) →
    (∀ q, at_ ≤ q → q < t.length → Opt t l (cov1 t at_ pp.length ps (C, F)).1 (cov1 t at_ pp.length ps (C, F)).2 l.length q) ∧ ∀ q : Nat, q < at_ → rd (cov1 t at_ pp.length ps (C, F)).1 q = 0
  | [], pp, C, F, he, hC, hF, ho, oa, hz => by
    have : l.length = pp.length := by rw [he]; simp
    refine ⟨fun q hq hql => ?_, hz⟩
    rcases Nat.lt_or_ge at_ q with h | h
    · exact ho q h hql
    · obtain rfl : q = at_ := by omega
      rw [this]; exact oa
  | p :: ps, pp, C, F, he, hC, hF, ho, oa, hz => by
    obtain ⟨C', F', e, c1, f1, eC, eF, oa'⟩ := opt_step t l ht hl hp hc he h1 hC hF ho oa
    have ih := opt_cov1 h1 ps (pp ++ [p]) C' F' (by simp [he]) c1 f1 (fun q hq hql => opt_congr t l hp hql (fun h hh => eC h (by omega) (by omega)) (fun h hh => eF h (by omega) (by omega)) (ho q hq hql)) (by simpa using oa') (fun q hq => by rw [eC q (by omega) (by omega)]; exact hz q hq)
    simp only [cov1]
    rw [e]
    simpa using ih
include ht hl hp hc in
theorem opt_cov0 : ∀ (n : Nat) (C F : List Int), n ≤ t.length → C.length = t.length → F.length = t.length →
    (∀ q, n ≤ q → q < t.length → Opt t l C F l.length q) → (∀ q : Nat, q < n → rd C q = 0) → ∀ q, q < t.length → Opt t l (cov0 t l n (C, F)).1 (cov0 t l n (C, F)).2 l.length q
  | 0, C, F, hn, hC, hF, ho, hz, q, hq => ho q (by omega) hq
  | n + 1, C, F, hn, hC, hF, ho, hz, q, hq => by
    have h2 := cov1_len t n 0 l (C, F.set n (-1))
    have eF : ∀ h : Int, 0 ≤ h → h ≠ n → rd (F.set n (-1)) h = rd F h := fun h h0 hne => rd_set_ne F n _ h h0 hne
    have aF : rd (F.set n (-1)) (n : Int) = -1 := rd_set_eq F n _ (by omega)
    have hzn := hz n (by omega)
    obtain ⟨o1, z1⟩ := opt_cov1 t l ht hl hp hc (at_ := n) (by omega) l [] C (F.set n (-1)) rfl hC (by simpa using hF)
      (fun q hq hql => opt_congr t l hp hql (fun _ _ => rfl) (fun h hh => eF h (by omega) (by omega)) (ho q (by omega) hql))
      ⟨fun _ => hzn, fun h => by rw [aF] at h; omega, fun i hi => by simp at hi, by rw [hzn]; omega, by rw [hzn]; omega⟩
      (fun q hq => hz q (by omega))
    simp only [List.length_nil] at o1 z1
    exact opt_cov0 n (cov1 t n 0 l (C, F.set n (-1))).1 (cov1 t n 0 l (C, F.set n (-1))).2 (by omega) (h2.1.trans hC) (h2.2.trans (by simpa using hF)) o1 z1 q hq
theorem rd_rep (n : Nat) (q : Nat) : rd (List.replicate n 0) (q : Int) = 0 := by
  simp only [rd, List.getD, Int.toNat_natCast, List.getElem?_replicate]
  split <;> rfl
include ht hl hp hc in
theorem opt_all : ∀ q, q < t.length → Opt t l (cov0 t l t.length (List.replicate t.length 0, List.replicate t.length 0)).1 (cov0 t l t.length (List.replicate t.length 0, List.replicate t.length 0)).2 l.length q :=
  opt_cov0 t l ht hl hp hc t.length _ _ (Nat.le_refl _) (by simp) (by simp) (fun q h1 h2 => by omega) (fun q _ => rd_rep _ q)
include ht hl hp hc in
/-- No cover of what is left costs less. -/
theorem cover_ge {C F : List Int} (ho : ∀ q, q < t.length → Opt t l C F l.length q) : ∀ (ps : List S63) (left : List Int), (∀ h ∈ left, 0 ≤ h ∧ h < t.length) → goC t l ps left = some [] → (∀ h ∈ left, rd F h ≥ 0) ∧ sumC C left ≤ costN l ps
  | [], left, hh, h => by
    simp only [goC, Option.some.injEq] at h
    subst h
    exact ⟨by simp, by simp [sumC, costN]⟩
  | x :: ps, [], hh, h => by simp [goC] at h
  | x :: ps, y :: left, hh, h => by
    simp only [goC] at h
    split at h
    · rename_i hok
      obtain ⟨y0, y1⟩ := hh y (by simp)
      obtain ⟨q, rfl⟩ := Int.eq_ofNat_of_zero_le y0
      obtain ⟨_, i0, i1, hf⟩ := hok
      have hg := places_gt t l hp (q := q) (by omega) i0 i1
      simp only [Int.toNat_natCast] at hf h
      obtain ⟨a, b⟩ := cover_ge ho ps _ (fun z hz => by
        rcases List.mem_append.1 hz with hz | hz
        · have := hg z hz; omega
        · exact hh z (by simp [hz])) h
      rw [sumC_append] at b
      obtain ⟨i, hi⟩ := Int.eq_ofNat_of_zero_le i0
      have hw := (ho q (by omega)).least i (by omega) (by omega) (by rw [← hi]; exact hf) (fun z hz => a z (by rw [hi]; simp [hz]))
      rw [← hi] at hw
      refine ⟨fun z hz => ?_, ?_⟩
      · rcases List.mem_cons.1 hz with rfl | hz
        · exact hw.1
        · exact a z (by simp [hz])
      · simp only [sumC, costN]; omega
    · cases h
/-- The pieces at a place, by a pattern for each place. -/
def pcs (F : List Int) : Nat → Int → List S63
  | 0, _ => []
  | m + 1, q => ⟨q, rd F q⟩ :: ((fitAt t q.toNat (rd_T57 l (rd F q))).1.map (pcs F m)).flatten
def pcsAll (F : List Int) (m : Nat) (hs : List Int) : List S63 := (hs.map (pcs t l F m)).flatten
/-- What the reference lays: a cover, or nothing. -/
def PcA (F : List Int) (m : Nat) (q : Nat) (out : List S63) : Prop :=
  (Ev (fun k => spec_l9Pieces.f k t l (q : Int) F out) (out ++ pcs t l F m q, true) ∧ 1 ≤ (pcs t l F m q).length ∧ (pcs t l F m q).length ≤ szAt t q ∧ rd F q ≥ 0 ∧ (∀ ps left, goC t l (pcs t l F m q ++ ps) ((q : Int) :: left) = goC t l ps left) ∧
    ∀ C, (∀ q : Nat, q < t.length → rd F q ≥ 0 → rd C q = (rd_T57 l (rd F q)).f1 + sumC C (fitAt t q (rd_T57 l (rd F q))).1) → costN l (pcs t l F m q) = rd C q) ∨
  (Ev (fun k => spec_l9Pieces.f k t l (q : Int) F out) ([], false) ∧ (Whole t l F → rd F q < 0))
theorem pieces_list (F : List Int) (m : Nat) (hA : ∀ (q : Nat) (out : List S63), q < t.length → szAt t q ≤ m → out.length + szAt t q ≤ 1000 → PcA t l F m q out) :
    ∀ (hs H hp' : List Int) (out : List S63), H = hp' ++ hs → H.length ≤ 1000 → (∀ h ∈ hs, 0 ≤ h ∧ h < t.length) → szs t hs ≤ m → out.length + szs t hs ≤ 1000 →
      (Ev (fun k => spec_l9Pieces.l0 k t l F out H (H.length : Int) (hp'.length : Int)) (out ++ pcsAll t l F m hs, true) ∧ (pcsAll t l F m hs).length ≤ szs t hs ∧ (∀ ps left, goC t l (pcsAll t l F m hs ++ ps) (hs ++ left) = goC t l ps left) ∧
        ∀ C, (∀ q : Nat, q < t.length → rd F q ≥ 0 → rd C q = (rd_T57 l (rd F q)).f1 + sumC C (fitAt t q (rd_T57 l (rd F q))).1) → costN l (pcsAll t l F m hs) = sumC C hs) ∨
      (Ev (fun k => spec_l9Pieces.l0 k t l F out H (H.length : Int) (hp'.length : Int)) ([], false) ∧ (Whole t l F → ∃ h ∈ hs, rd F h < 0))
  | [], H, hp', out, he, hH, hh, hz, ho => by
    have : H.length = hp'.length := by rw [he]; simp
    refine .inl ⟨?_, by simp [pcsAll], fun ps left => by simp [pcsAll], fun C _ => by simp [pcsAll, costN, sumC]⟩
    refine Ev.step (fun k => by simp only [spec_l9Pieces.l0]; rw [if_neg (by omega)]) ?_
    exact some_ev (by simp [pcsAll])
  | x :: hs, H, hp', out, he, hH, hh, hz, ho => by
    obtain ⟨x0, x1⟩ := hh x (by simp)
    obtain ⟨q, rfl⟩ := Int.eq_ofNat_of_zero_le x0
    have hq : q < t.length := by omega
    have hse : szs t ((q : Int) :: hs) = szAt t q + szs t hs := by simp [szs]
    have hn' : H.length = hp'.length + (hs.length + 1) := by rw [he]; simp
    have hr : rd H (hp'.length : Int) = (q : Int) := by rw [he]; exact rd_at rfl
    have ea : pcsAll t l F m ((q : Int) :: hs) = pcs t l F m q ++ pcsAll t l F m hs := by simp [pcsAll]
    have spec : ∀ (b : List S63 × Bool) r, Ev (fun k => spec_l9Pieces.f k t l (q : Int) F out) b → (Ev (fun k => if b.2 = true then spec_l9Pieces.l0 k t l F b.1 H (H.length : Int) ((hp'.length + 1 : Nat) : Int) else some ([], false)) r) → Ev (fun k => spec_l9Pieces.l0 k t l F out H (H.length : Int) (hp'.length : Int)) r := by
      intro b r h1 h2
      refine Ev.step (fun k => by simp only [spec_l9Pieces.l0]; rw [if_pos (by omega), if_pos (by omega), if_pos (by omega), hr, w_succ (by omega)]) ?_
      exact bind_ev h1 h2
    rcases hA q out hq (by omega) (by omega) with ⟨e1, e2, e3, e4, e5, e6⟩ | ⟨e1, e2⟩
    · rcases pieces_list F m hA hs H (hp' ++ [(q : Int)]) (out ++ pcs t l F m q) (by simp [he]) hH (fun h hh' => hh h (by simp [hh'])) (by omega) (by simp; omega) with ⟨f1, f2, f3, f4⟩ | ⟨f1, f2⟩
      · refine .inl ⟨spec _ _ e1 (ite_t rfl ?_), by rw [ea]; simp; omega, fun ps left => ?_, fun C hC => ?_⟩
        · rw [ea]
          simpa using f1
        · rw [ea, List.append_assoc, List.cons_append, e5, f3]
        · rw [ea, costN_append, e6 C hC, f4 C hC]; simp [sumC]
      · refine .inr ⟨spec _ _ e1 (ite_t rfl (by simpa using f1)), fun hw => ?_⟩
        obtain ⟨h, hh', hlt⟩ := f2 hw
        exact ⟨h, by simp [hh'], hlt⟩
    · exact .inr ⟨spec _ _ e1 (ite_f (by simp) (some_ev rfl)), fun hw => ⟨_, by simp, e2 hw⟩⟩
include ht hl hp in
theorem pieces_val (F : List Int) (hF : F.length = t.length) (hV : ∀ q : Nat, q < t.length → rd F q ≥ 0 → rd F q < l.length ∧ (fitAt t q (rd_T57 l (rd F q))).2 = true) : ∀ (m : Nat) (q : Nat) (out : List S63), q < t.length → szAt t q ≤ m → out.length + szAt t q ≤ 1000 → PcA t l F m q out := by
  intro m
  induction m with
  | zero =>
    intro q out hq hz _
    have := szAt_pos ht hq; omega
  | succ m ihm =>
    intro q out hq hz ho
    have hz1 := szAt_pos ht hq
    by_cases hn : rd F q < 0
    · refine .inr ⟨?_, fun _ => hn⟩
      refine Ev.step (fun k => by simp only [spec_l9Pieces.f]; rw [if_pos (by omega), if_pos (by omega), if_pos hn]) ?_
      exact some_ev rfl
    · have hge : rd F q ≥ 0 := by omega
      obtain ⟨v1, v2⟩ := hV q hq hge
      have hpk := hp _ (rdT_mem l _ hge v1)
      have hsz := fitAt_szs ht hq hpk v2
      have hpl := fitAt_places hq hpk
      have hfl : (fitAt t q (rd_T57 l (rd F q))).1.length ≤ 10 := by
        have := fitF_len t.length (rd_T57 l (rd F q)).f0 (t.drop q) []
        have := hpk.2.1
        unfold fitAt; simp at *; omega
      have spec : ∀ r, Ev (fun k => spec_l9Pieces.l0 k t l F (out ++ [⟨q, rd F q⟩]) (fitAt t q (rd_T57 l (rd F q))).1 ((fitAt t q (rd_T57 l (rd F q))).1.length : Int) 0) r → Ev (fun k => spec_l9Pieces.f k t l (q : Int) F out) r := by
        intro r h
        refine Ev.step (fun k => by simp only [spec_l9Pieces.f]; rw [if_pos (by omega), if_pos (by omega), if_neg hn, if_pos (by omega), if_pos hge, if_pos v1]) ?_
        exact bind_ev (spec_fits t q (rd_T57 l (rd F q)) ht hq hpk) h
      have epc : pcs t l F (m + 1) q = ⟨q, rd F q⟩ :: pcsAll t l F m (fitAt t q (rd_T57 l (rd F q))).1 := by simp [pcs, pcsAll]
      rcases pieces_list t l F m ihm (fitAt t q (rd_T57 l (rd F q))).1 (fitAt t q (rd_T57 l (rd F q))).1 [] (out ++ [⟨q, rd F q⟩]) rfl (by omega) (fun h hh => by have := hpl h hh; omega) (by omega) (by simp; omega) with ⟨e1, e2, e3, e4⟩ | ⟨e1, e2⟩
      · refine .inl ⟨?_, by rw [epc]; simp, by rw [epc]; simp; omega, hge, fun ps left => ?_, fun C hC => ?_⟩
        · have := spec _ e1
          rw [epc]
          simpa using this
        · rw [epc]
          simp only [List.cons_append, goC]
          rw [if_pos (show okPc t l (q : Int) ⟨q, rd F q⟩ from ⟨rfl, hge, v1, by simpa using v2⟩)]
          simpa using e3 ps left
        · rw [epc]
          simp only [costN]
          rw [e4 C hC, hC q hq hge]
      · refine .inr ⟨spec _ e1, fun hw => ?_⟩
        obtain ⟨h, hh, hlt⟩ := e2 hw
        have := hw q hq hge h hh
        omega
end
end Go.Proofs.Ytfdbdbihhgabpaa.Pure
