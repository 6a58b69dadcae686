/- Worlds: what is found and who is below whom, as functions; what a set method turns. Conditions: none. -/
import Derived.Test.YtjmgleomljfieaaPWb
import Derived.Test.YtjmgleomljfieaaQx0
import Derived.Test.YtjmgleomljfieaaQx3
import Derived.Test.YtjmgleomljfieaaQx4
set_option linter.unusedVariables false
set_option linter.unusedSimpArgs false
namespace Go.Proofs.Ytjmgleomljfieaa.Pure
open Go.RowKit Go.Proofs.Ytjmgleomljfieaa.Q Go.Proofs.YtjmgleomljfieaaW.PrintWords Go.Proofs.YtjmgleomljfieaaW.PrintLast Go.Proofs.Ytjmgleomljfieaa.Kit

theorem rd_memW {l : List Int} {i : Int} (h0 : 0 ≤ i) (h : i < l.length) : rd l i ∈ l := by
  unfold rd; rw [List.getD_eq_getElem?_getD]
  have : i.toNat < l.length := by omega
  simp [this]
theorem class_at {ws : List S82} {st : Int} (hg : goodW ws st = true) {i : Int} (h0 : 0 ≤ i) (h1 : i < ws.length) : ClassOk i.toNat (rd_T82 ws i) ∧ rd_T82 ws i ∈ ws := by
  obtain ⟨j, rfl⟩ := Int.eq_ofNat_of_zero_le h0
  obtain ⟨c, hc, hrd⟩ := rdT82_some (ws := ws) (j := j) (by omega)
  rw [hrd, Int.toNat_natCast]
  exact ⟨classOk hg hc, List.mem_of_getElem? hc⟩
/-- What is found upwards from a class, 0 for none. -/
def fnd (ws : List S82) (name : Int) : Nat → Int → Int
  | 0, _ => 0
  | m + 1, i => if i < 0 then 0 else if rd (rd_T82 ws i).f1 name = 0 then fnd ws name m (rd_T82 ws i).f0 else rd (rd_T82 ws i).f1 name
theorem fnd_ev (ws : List S82) (st : Int) (hg : goodW ws st = true) (name : Int) (h0 : 0 ≤ name) (h4 : name ≤ 4) : ∀ (m : Nat) (i : Int), i < m → -1 ≤ i → i < ws.length →
    Ev (fun k => spec_l12Find.l0 k i name ws st) (fnd ws name m i) ∧ Ev (fun k => impl_World_find.l0 k i name ws st) (fnd ws name m i) ∧ 0 ≤ fnd ws name m i ∧ fnd ws name m i ≤ 1000
  | 0, i, hm, h1, h2 => ⟨Ev.step (fun k => by simp only [spec_l12Find.l0]; rw [if_neg (by omega)]; rfl) (Ev.now _), Ev.step (fun k => by simp only [impl_World_find.l0]; rw [if_neg (by omega), if_pos (by omega)]; rfl) (Ev.now _), by simp [fnd], by simp [fnd]⟩
  | m + 1, i, hm, h1, h2 => by
    by_cases hi : i < 0
    · have e : fnd ws name (m + 1) i = 0 := by simp [fnd, hi]
      rw [e]
      exact ⟨Ev.step (fun k => by simp only [spec_l12Find.l0]; rw [if_neg (by omega)]) (Ev.now _), Ev.step (fun k => by simp only [impl_World_find.l0]; rw [if_neg (by omega), if_pos (by omega)]) (Ev.now _), by omega, by omega⟩
    · obtain ⟨ok, _⟩ := class_at hg (i := i) (by omega) h2
      have hm5 : name < (rd_T82 ws i).f1.length := by rw [ok.five]; omega
      have ht := ok.all _ (rd_memW h0 hm5)
      by_cases hz : rd (rd_T82 ws i).f1 name = 0
      · obtain ⟨i1, i2, i3⟩ := fnd_ev ws st hg name h0 h4 m (rd_T82 ws i).f0 (by have := ok.hi; omega) ok.lo (by have := ok.hi; omega)
        have e : fnd ws name (m + 1) i = fnd ws name m (rd_T82 ws i).f0 := by simp [fnd, hi, hz]
        rw [e]
        refine ⟨?_, ?_, i3⟩
        · exact Ev.step (fun k => by
            simp only [spec_l12Find.l0]
            rw [if_pos (by omega), if_pos (by omega), if_pos (by omega), if_pos h0, if_pos hm5, if_neg (by omega)]) i1
        · exact Ev.step (fun k => by
            simp only [impl_World_find.l0]
            rw [if_pos (by omega), if_pos (by omega), if_pos (by omega), if_pos h0, if_pos hm5, if_pos hz]) i2
      · have e : fnd ws name (m + 1) i = rd (rd_T82 ws i).f1 name := by simp [fnd, hi, hz]
        rw [e]
        refine ⟨?_, ?_, ht⟩
        · exact Ev.step (fun k => by
            simp only [spec_l12Find.l0]
            rw [if_pos (by omega), if_pos (by omega), if_pos (by omega), if_pos h0, if_pos hm5, if_pos (by omega)]) (Ev.now _)
        · exact Ev.step (fun k => by
            simp only [impl_World_find.l0]
            rw [if_pos (by omega), if_pos (by omega), if_pos (by omega), if_pos h0, if_pos hm5, if_neg hz, if_neg (by omega)]) (Ev.now _)
/-- Is a class below another one? -/
def clm (ws : List S82) (b : Int) : Nat → Int → Bool
  | 0, i => i == b
  | m + 1, i => if i > b then clm ws b m (rd_T82 ws i).f0 else i == b
theorem clm_ev (ws : List S82) (st : Int) (hg : goodW ws st = true) (b : Int) (hb : 0 ≤ b) : ∀ (m : Nat) (i : Int), i < m → -1 ≤ i → i < ws.length →
    Ev (fun k => spec_SubclassOf.l0 k i b ws st) (clm ws b m i, true) ∧ Ev (fun k => impl_SubclassOf.l0 k i b ws st) (clm ws b m i, true)
  | 0, i, hm, h1, h2 => ⟨Ev.step (fun k => by simp only [spec_SubclassOf.l0]; rw [if_neg (by omega)]; rfl) (Ev.now _), Ev.step (fun k => by simp only [impl_SubclassOf.l0]; rw [if_neg (by omega)]; rfl) (Ev.now _)⟩
  | m + 1, i, hm, h1, h2 => by
    by_cases hi : i > b
    · obtain ⟨ok, _⟩ := class_at hg (i := i) (by omega) h2
      obtain ⟨i1, i2⟩ := clm_ev ws st hg b hb m (rd_T82 ws i).f0 (by have := ok.hi; omega) ok.lo (by have := ok.hi; omega)
      have e : clm ws b (m + 1) i = clm ws b m (rd_T82 ws i).f0 := by simp [clm, hi]
      rw [e]
      exact ⟨Ev.step (fun k => by simp only [spec_SubclassOf.l0]; rw [if_pos hi, if_pos (by omega), if_pos (by omega)]) i1, Ev.step (fun k => by simp only [impl_SubclassOf.l0]; rw [if_pos hi, if_pos (by omega), if_pos (by omega)]) i2⟩
    · have e : clm ws b (m + 1) i = (i == b) := by simp only [clm]; rw [if_neg hi]
      rw [e]
      exact ⟨Ev.step (fun k => by simp only [spec_SubclassOf.l0]; rw [if_neg (by omega)]) (Ev.now _), Ev.step (fun k => by simp only [impl_SubclassOf.l0]; rw [if_neg (by omega)]) (Ev.now _)⟩
def setW (ws : List S82) (a n t : Int) : List S82 := ws.set a.toNat ⟨(rd_T82 ws a).f0, (rd_T82 ws a).f1.set n.toNat t⟩
theorem rd_setW_ne (ws : List S82) (a n t : Int) {i : Int} (h0 : 0 ≤ i) (ha : 0 ≤ a) (h : i ≠ a) : rd_T82 (setW ws a n t) i = rd_T82 ws i := by
  unfold rd_T82 setW
  rw [List.getD_eq_getElem?_getD, List.getD_eq_getElem?_getD, List.getElem?_set_ne (by omega)]
theorem rd_setW_eq (ws : List S82) (a n t : Int) (ha : 0 ≤ a) (ha2 : a < ws.length) : rd_T82 (setW ws a n t) a = ⟨(rd_T82 ws a).f0, (rd_T82 ws a).f1.set n.toNat t⟩ := by
  have h : a.toNat < ws.length := by omega
  unfold setW
  conv => lhs; unfold rd_T82
  rw [List.getD_eq_getElem?_getD, List.getElem?_set_self h]
  rfl
theorem goodCs_set : ∀ (cs : List S82) (i j : Nat) (c : S82), goodCs i cs = true → goodC (i + j) c = true → goodCs i (cs.set j c) = true
  | [], i, j, c, h, hc => by simpa using h
  | d :: cs, i, 0, c, h, hc => by
    simp only [goodCs, Bool.and_eq_true] at h
    simp only [List.set_cons_zero, goodCs, Bool.and_eq_true]
    exact ⟨hc, h.2⟩
  | d :: cs, i, j + 1, c, h, hc => by
    simp only [goodCs, Bool.and_eq_true] at h
    simp only [List.set_cons_succ, goodCs, Bool.and_eq_true]
    exact ⟨h.1, goodCs_set cs (i + 1) j c h.2 (by rwa [show i + 1 + j = i + (j + 1) by omega])⟩
theorem setW_good {ws : List S82} {st a n t : Int} (hg : goodW ws st = true) (hs : st ≠ 1000000) (ha : 0 ≤ a) (ha2 : a < ws.length) (ht0 : 0 ≤ t) (ht1 : t ≤ 1000) : goodW (setW ws a n t) (st + 1) = true := by
  obtain ⟨ok, _⟩ := class_at hg ha ha2
  have hg' := hg
  simp only [goodW, Bool.and_eq_true] at hg' ⊢
  have h3 := (inB_iff _ _ _).1 hg'.2
  refine ⟨⟨goodCs_set ws 0 a.toNat _ hg'.1.1 ?_, by simpa [setW] using hg'.1.2⟩, (inB_iff _ _ _).2 (by omega)⟩
  simp only [goodC, Bool.and_eq_true, decide_eq_true_eq, Nat.zero_add, List.all_eq_true]
  refine ⟨⟨⟨ok.lo, ok.hi⟩, by simpa using ok.five⟩, fun x hx => ?_⟩
  rcases List.mem_or_eq_of_mem_set hx with h | h
  · unfold goodT; exact (inB_iff _ _ _).2 (ok.all x h)
  · subst h; unfold goodT; exact (inB_iff _ _ _).2 ⟨ht0, ht1⟩
section
variable {ws : List S82} {st a n t : Int} (hg : goodW ws st = true) (ha : 0 ≤ a) (ha2 : a < ws.length)
include hg ha ha2
theorem fnd_lt : ∀ (m : Nat) (i : Int), i < a → fnd (setW ws a n t) n m i = fnd ws n m i
  | 0, i, h => rfl
  | m + 1, i, h => by
    simp only [fnd]
    by_cases hi : i < 0
    · rw [if_pos hi, if_pos hi]
    · obtain ⟨ok, _⟩ := class_at hg (i := i) (by omega) (by omega)
      rw [if_neg hi, if_neg hi, rd_setW_ne ws a n t (i := i) (by omega) ha (by omega), fnd_lt m _ (by have := ok.hi; omega)]
theorem fnd_below : ∀ (m : Nat) (i : Int), i < ws.length → clm ws a m i = false → fnd (setW ws a n t) n m i = fnd ws n m i
  | 0, i, _, h => rfl
  | m + 1, i, hl, h => by
    simp only [clm] at h
    by_cases hi : i > a
    · rw [if_pos hi] at h
      obtain ⟨ok, _⟩ := class_at hg (i := i) (by omega) hl
      simp only [fnd]
      have hi0 : ¬ i < 0 := by omega
      rw [if_neg hi0, if_neg hi0, rd_setW_ne ws a n t (i := i) (by omega) ha (by omega), fnd_below m _ (by have := ok.hi; omega) h]
    · rw [if_neg hi] at h
      have : i ≠ a := by intro e; simp [e] at h
      exact fnd_lt hg ha ha2 (m + 1) i (by omega)
theorem fnd_at (hn : 0 ≤ n) (hn4 : n ≤ 4) (ht : t > 0) (m : Nat) : fnd (setW ws a n t) n (m + 1) a = t := by
  obtain ⟨ok, _⟩ := class_at hg ha ha2
  simp only [fnd]
  rw [if_neg (by omega), rd_setW_eq ws a n t ha ha2]
  have e : rd ((rd_T82 ws a).f1.set n.toNat t) n = t := by
    have : n.toNat < (rd_T82 ws a).f1.length := by rw [ok.five]; omega
    simp [rd, List.getD, this]
  simp only [e]
  rw [if_neg (by omega)]
end
end Go.Proofs.Ytjmgleomljfieaa.Pure
