/- RunLined: the program and the reference run a line alike. Conditions: none. -/
import Derived.Test.YtgjojppbichaiaaPGd
import Derived.Test.YtgjojppbichaiaaQx0
import Derived.Test.YtgjojppbichaiaaQx4
import Derived.Test.YtgjojppbichaiaaQx5
set_option linter.unusedVariables false
set_option linter.unusedSimpArgs false
namespace Go.Proofs.Ytgjojppbichaiaa.Pure
open Go.RowKit Go.Proofs.Ytgjojppbichaiaa.Q Go.Proofs.YtgjojppbichaiaaW.PrintWords Go.Proofs.YtgjojppbichaiaaW.PrintLast Go.Proofs.Ytgjojppbichaiaa.Kit

/-- How a step ends: too much is told, a code is thrown, or it goes on. -/
inductive Stp where
  | fail
  | stop (said : List Int) (code : Int)
  | go (next : Int) (said : List Int) (regs : List Int)
abbrev RR := List Int × Int × Int × Bool
def Stp.then (F : Int → List Int → List Int → RR) (done : Int) : Stp → RR
  | .fail => ([], 0, 0, false)
  | .stop s c => (s, c, done, true)
  | .go a s r => F a s r
def jn (gs : List S63) (a : Int) (said regs : List Int) (code next : Int) : Stp :=
  if code = 0 then .go next said regs else if gI a code 0 gs < 0 then .stop said code else .go (rd_T63 gs (gI a code 0 gs)).f3 said (regs.set (gI a code 0 gs).toNat code)
def stp (gs : List S63) (x : S86) (a : Int) (said regs : List Int) : Stp :=
  if x.f0 = 1 then (if said.length < 200 then jn gs a (said ++ [x.f1]) regs 0 (a + 1) else .fail)
  else if x.f0 = 2 then jn gs a said regs x.f1 (a + 1)
  else if x.f0 = 3 then jn gs a said regs (rd regs x.f1) (a + 1)
  else if x.f0 = 4 then jn gs a said regs 0 x.f2
  else if x.f0 = 5 then jn gs a said (regs.set x.f1.toNat 0) 0 (a + 1)
  else if rd regs x.f1 = x.f2 then jn gs a said regs 0 (a + 1) else jn gs a said (regs.set x.f1.toNat (rd regs x.f1 + 1)) 0 (a + 2)
/-- A line's run with so much left. -/
def rn (ss : List S86) (gs : List S63) : Nat → Int → List Int → List Int → Int → RR
  | 0, a, said, regs, done => if a < (ss.length : Int) then ([], 0, 0, false) else (said, 0, done, true)
  | m + 1, a, said, regs, done => if a < (ss.length : Int) then (stp gs (rd_T86 ss a) a said regs).then (fun a s r => rn ss gs m a s r (done + 1)) (done + 1) else (said, 0, done, true)
/-- What holds at each step. -/
structure Inv (ss : List S86) (a : Int) (said regs : List Int) (done : Int) : Prop where
  a0 : 0 ≤ a
  a1 : a ≤ (ss.length : Int) + 1
  said : said.length ≤ 200
  len : regs.length = 40
  reg : ∀ v ∈ regs, 0 ≤ v ∧ v ≤ 9 + done
theorem rd_bd {regs : List Int} {d i : Int} (h : ∀ v ∈ regs, 0 ≤ v ∧ v ≤ d) (hd : 0 ≤ d) : 0 ≤ rd regs i ∧ rd regs i ≤ d := by
  unfold rd
  by_cases hi : i.toNat < regs.length
  · rw [List.getD, List.getElem?_eq_getElem hi, Option.getD_some]
    exact h _ (List.getElem_mem hi)
  · rw [List.getD, List.getElem?_eq_none (by omega)]
    exact ⟨Int.le_refl _, hd⟩
theorem set_bd {regs : List Int} {d : Int} {i : Nat} {v : Int} (h : ∀ v ∈ regs, 0 ≤ v ∧ v ≤ d) (hv : 0 ≤ v ∧ v ≤ d + 1) : ∀ u ∈ regs.set i v, 0 ≤ u ∧ u ≤ d + 1 := by
  intro u hu
  rcases List.mem_or_eq_of_mem_set hu with h1 | h1
  · have := h u h1; omega
  · rw [h1]; exact hv
theorem gI_lt (a c : Int) : ∀ (i : Nat) (gs : List S63), gI a c i gs < (i : Int) + gs.length
  | i, [] => by simp [gI]; omega
  | i, g :: gs => by
    have := gI_lt a c (i + 1) gs
    unfold gI
    split
    · simp; omega
    · simp at this ⊢; omega
theorem goodL_at {ss : List S86} {gs : List S63} (h : goodL ss gs = true) : (∀ x ∈ ss, stepOk ss.length x = true) ∧ (∀ g ∈ gs, guardOk ss.length g = true) ∧ ss.length ≤ 120 ∧ gs.length ≤ 20 := by
  unfold goodL at h
  simp only [Bool.and_eq_true, decide_eq_true_eq, List.all_eq_true] at h
  exact ⟨h.1.1.1, h.1.1.2, by omega, by omega⟩
theorem rd86_mem {ss : List S86} {a : Int} (h0 : 0 ≤ a) (h1 : a < (ss.length : Int)) : rd_T86 ss a ∈ ss := by
  unfold rd_T86
  rw [List.getD, List.getElem?_eq_getElem (by omega), Option.getD_some]
  exact List.getElem_mem _
theorem rd63_mem {gs : List S63} {a : Int} (h0 : 0 ≤ a) (h1 : a < (gs.length : Int)) : rd_T63 gs a ∈ gs := by
  unfold rd_T63
  rw [List.getD, List.getElem?_eq_getElem (by omega), Option.getD_some]
  exact List.getElem_mem _
theorem guard_at {n : Int} {g : S63} (h : guardOk n g = true) : 0 ≤ g.f3 ∧ g.f3 ≤ n := by
  unfold guardOk at h
  simp only [Bool.and_eq_true] at h
  exact (inB_iff _ _ _).1 h.2
section
variable {ss : List S86} {gs : List S63} {fuel : Int}
/-- What the code's place leads to. -/
theorem jn_inv {F : Int → List Int → List Int → RR} (hgood : goodL ss gs = true) {a : Int} {said regs : List Int} {code next done : Int} (hs : said.length ≤ 200) (hl : regs.length = 40) (hr : ∀ v ∈ regs, 0 ≤ v ∧ v ≤ 9 + (done + 1)) (hc : 0 ≤ code ∧ code ≤ 9 + done) (hn : 0 ≤ next ∧ next ≤ (ss.length : Int) + 1) :
    (code = 0 ∧ (jn gs a said regs code next).then F (done + 1) = F next said regs ∧ Inv ss next said regs (done + 1)) ∨
    (code ≠ 0 ∧ gI a code 0 gs < 0 ∧ (jn gs a said regs code next).then F (done + 1) = (said, code, done + 1, true)) ∨
    (code ≠ 0 ∧ 0 ≤ gI a code 0 gs ∧ gI a code 0 gs < 40 ∧ gI a code 0 gs < (gs.length : Int) ∧ (jn gs a said regs code next).then F (done + 1) = F (rd_T63 gs (gI a code 0 gs)).f3 said (regs.set (gI a code 0 gs).toNat code) ∧ Inv ss (rd_T63 gs (gI a code 0 gs)).f3 said (regs.set (gI a code 0 gs).toNat code) (done + 1)) := by
  obtain ⟨_, hg, _, hgl⟩ := goodL_at hgood
  by_cases h0 : code = 0
  · left
    exact ⟨h0, by unfold jn; rw [if_pos h0]; rfl, hn.1, hn.2, hs, hl, hr⟩
  · right
    by_cases h1 : gI a code 0 gs < 0
    · left; exact ⟨h0, h1, by unfold jn; rw [if_neg h0, if_pos h1]; rfl⟩
    · right
      have h2 := gI_lt a code 0 gs
      have h3 := guard_at (hg _ (rd63_mem (a := gI a code 0 gs) (by omega) (by omega)))
      refine ⟨h0, by omega, by omega, by omega, by unfold jn; rw [if_neg h0, if_neg h1]; rfl, h3.1, by omega, hs, by simpa using hl, ?_⟩
      intro v hv
      rcases List.mem_or_eq_of_mem_set hv with h1 | h1
      · exact hr v h1
      · rw [h1]; omega
theorem spec_j (hgood : goodL ss gs = true) {F : Int → List Int → List Int → RR} {a : Int} {said regs : List Int} {code next done : Int} (hs : said.length ≤ 200) (hl : regs.length = 40) (hd : 0 ≤ done ∧ done ≤ 2000) (hr : ∀ v ∈ regs, 0 ≤ v ∧ v ≤ 9 + (done + 1)) (hc : 0 ≤ code ∧ code ≤ 9 + done) (hn : 0 ≤ next ∧ next ≤ (ss.length : Int) + 1)
    (ih : ∀ a s r, Inv ss a s r (done + 1) → Ev (fun k => spec_RunLined.l0 k fuel r s (done + 1) a ss gs) (F a s r)) :
    Ev (fun k => spec_RunLined.j2 k fuel regs said done a code next ss gs) ((jn gs a said regs code next).then F (done + 1)) := by
  obtain ⟨_, _, _, hgl⟩ := goodL_at hgood
  have hw : wrap64 (done + 1) = done + 1 := w64 (by omega) (by omega)
  refine Ev.step (fun k => by simp only [spec_RunLined.j2]; rw [hw]) ?_
  rcases jn_inv (F := F) (a := a) hgood hs hl hr hc hn with ⟨h0, e, hi⟩ | ⟨h0, h1, e⟩ | ⟨h0, h1, h2, h3, e, hi⟩
  · rw [e]; exact ite_t h0 (ih _ _ _ hi)
  · rw [e]; exact ite_f h0 (bind_ev (spec_guard ss gs a code (by omega)) (ite_t h1 (Ev.now _)))
  · rw [e]
    refine ite_f h0 (bind_ev (spec_guard ss gs a code (by omega)) (ite_f (by omega) (ite_t h1 (ite_t (by omega) (ite_t h3 ?_)))))
    exact ih _ _ _ hi
theorem impl_j (hgood : goodL ss gs = true) {F : Int → List Int → List Int → RR} {a : Int} {said regs : List Int} {code next done : Int} (hs : said.length ≤ 200) (hl : regs.length = 40) (hd : 0 ≤ done ∧ done ≤ 2000) (hr : ∀ v ∈ regs, 0 ≤ v ∧ v ≤ 9 + (done + 1)) (hc : 0 ≤ code ∧ code ≤ 9 + done) (hn : 0 ≤ next ∧ next ≤ (ss.length : Int) + 1)
    (ih : ∀ a s r, Inv ss a s r (done + 1) → Ev (fun k => impl_runLined.l0 k fuel s r a (done + 1) ss gs) (F a s r)) :
    Ev (fun k => impl_runLined.j1 k fuel said regs a (done + 1) code next ss gs) ((jn gs a said regs code next).then F (done + 1)) := by
  obtain ⟨_, _, _, hgl⟩ := goodL_at hgood
  refine Ev.step (fun k => by simp only [impl_runLined.j1]; rw [impl_guard, Option.bind_some]) ?_
  rcases jn_inv (F := F) (a := a) hgood hs hl hr hc hn with ⟨h0, e, hi⟩ | ⟨h0, h1, e⟩ | ⟨h0, h1, h2, h3, e, hi⟩
  · rw [e]; exact ite_t h0 (ih _ _ _ hi)
  · rw [e]; exact ite_f h0 (ite_t h1 (Ev.now _))
  · rw [e]
    refine ite_f h0 (ite_f (by omega) (ite_t h1 (ite_t (by omega) (ite_t h3 ?_))))
    exact ih _ _ _ hi
theorem step_of {n : Int} {x : S86} (h : stepOk n x = true) : (x.f0 = 1) ∨ (x.f0 = 2 ∧ 1 ≤ x.f1 ∧ x.f1 ≤ 9) ∨ (x.f0 = 3 ∧ 0 ≤ x.f1 ∧ x.f1 ≤ 39) ∨ (x.f0 = 4 ∧ 0 ≤ x.f2 ∧ x.f2 ≤ n) ∨ (x.f0 = 5 ∧ 0 ≤ x.f1 ∧ x.f1 ≤ 39) ∨ (x.f0 = 6 ∧ 0 ≤ x.f1 ∧ x.f1 ≤ 39) := by
  unfold stepOk at h
  split at h
  · left; assumption
  · split at h
    · rename_i h2
      simp only [Bool.and_eq_true, inB_iff] at h
      right; left; exact ⟨h2, h.1⟩
    · split at h
      · rename_i h3
        simp only [Bool.and_eq_true, inB_iff] at h
        rcases h3 with h3 | h3
        · right; right; left; exact ⟨h3, h.1⟩
        · right; right; right; right; left; exact ⟨h3, h.1⟩
      · split at h
        · rename_i h4
          simp only [Bool.and_eq_true, inB_iff] at h
          right; right; right; left; exact ⟨h4, h.2⟩
        · split at h
          · rename_i h6
            simp only [Bool.and_eq_true, inB_iff] at h
            right; right; right; right; right; exact ⟨h6, h.1⟩
          · cases h
theorem spec_l0r (hgood : goodL ss gs = true) (hf : fuel ≤ 2000) : ∀ (m : Nat) (a : Int) (said regs : List Int) (done : Int), Inv ss a said regs done → 0 ≤ done → done + m = fuel →
    Ev (fun k => spec_RunLined.l0 k fuel regs said done a ss gs) (rn ss gs m a said regs done)
  | m, a, said, regs, done, hi, hd, hm => by
    obtain ⟨hg, _, hsl, hgl⟩ := goodL_at hgood
    refine Ev.step (fun k => by rw [spec_RunLined.l0]) ?_
    by_cases h1 : a < (ss.length : Int)
    · refine ite_t h1 ?_
      cases m with
      | zero =>
        rw [rn, if_pos h1]
        exact ite_t (by omega) (Ev.now _)
      | succ m =>
        rw [rn, if_pos h1]
        refine ite_f (by omega) (ite_t hi.a0 ?_)
        have hx := step_of (hg _ (rd86_mem hi.a0 h1))
        generalize rd_T86 ss a = x at hx ⊢
        have ih : ∀ a s r, Inv ss a s r (done + 1) → Ev (fun k => spec_RunLined.l0 k fuel r s (done + 1) a ss gs) (rn ss gs m a s r (done + 1)) := fun a s r h => spec_l0r hgood hf m a s r (done + 1) h (by omega) (by omega)
        have hw1 : wrap64 (a + 1) = a + 1 := w64 (by have := hi.a0; omega) (by omega)
        have hw2 : wrap64 (a + 2) = a + 2 := w64 (by have := hi.a0; omega) (by omega)
        have hrb := fun i : Int => rd_bd (i := i) hi.reg (by omega)
        have hlen := hi.len
        have ha0 := hi.a0
        have hreg : ∀ v ∈ regs, 0 ≤ v ∧ v ≤ 9 + (done + 1) := fun v hv => by have := hi.reg v hv; omega
        rw [hw1]
        unfold stp
        rcases hx with h | ⟨h, hb⟩ | ⟨h, hb⟩ | ⟨h, hb⟩ | ⟨h, hb⟩ | ⟨h, hb⟩
        · rw [if_pos h]
          refine ite_t h ?_
          by_cases hl : said.length < 200
          · rw [if_pos hl]
            exact ite_f (by omega) (ite_t (by omega) (spec_j hgood (by simp; omega) hlen (by omega) hreg (by omega) (by omega) ih))
          · rw [if_neg hl]
            exact ite_t (by have := hi.said; omega) (Ev.now _)
        · rw [if_neg (by omega), if_pos h]
          exact ite_f (by omega) (ite_t h (spec_j hgood hi.said hlen (by omega) hreg (by omega) (by omega) ih))
        · rw [if_neg (by omega), if_neg (by omega), if_pos h]
          exact ite_f (by omega) (ite_f (by omega) (ite_t h (ite_t hb.1 (ite_t (by omega) (spec_j hgood hi.said hlen (by omega) hreg (hrb _) (by omega) ih)))))
        · rw [if_neg (by omega), if_neg (by omega), if_neg (by omega), if_pos h]
          exact ite_f (by omega) (ite_f (by omega) (ite_f (by omega) (ite_t h (spec_j hgood hi.said hlen (by omega) hreg (by omega) (by omega) ih))))
        · rw [if_neg (by omega), if_neg (by omega), if_neg (by omega), if_neg (by omega), if_pos h]
          refine ite_f (by omega) (ite_f (by omega) (ite_f (by omega) (ite_f (by omega) (ite_t h (ite_t hb.1 (ite_t (by omega) (spec_j hgood hi.said (by simpa using hlen) (by omega) ?_ (by omega) (by omega) ih)))))))
          intro u hu
          rcases List.mem_or_eq_of_mem_set hu with h1 | h1
          · exact hreg u h1
          · rw [h1]; omega
        · rw [if_neg (by omega), if_neg (by omega), if_neg (by omega), if_neg (by omega), if_neg (by omega)]
          have hv := hrb x.f1
          have hw3 : wrap64 (rd regs x.f1 + 1) = rd regs x.f1 + 1 := w64 (by omega) (by omega)
          refine ite_f (by omega) (ite_f (by omega) (ite_f (by omega) (ite_f (by omega) (ite_f (by omega) (ite_t h (ite_t hb.1 (ite_t (by omega) ?_)))))))
          by_cases hq : rd regs x.f1 = x.f2
          · rw [if_pos hq]
            exact ite_t hq (spec_j hgood hi.said hlen (by omega) hreg (by omega) (by omega) ih)
          · rw [if_neg hq]
            refine ite_f hq ?_
            rw [hw2, hw3]
            refine spec_j hgood hi.said (by simpa using hlen) (by omega) ?_ (by omega) (by omega) ih
            have := set_bd (i := x.f1.toNat) (v := rd regs x.f1 + 1) hi.reg (by omega)
            exact fun v hv => by have := this v hv; omega
    · rw [show rn ss gs m a said regs done = (said, 0, done, true) by cases m <;> (rw [rn, if_neg h1])]
      exact ite_f h1 (Ev.now _)
theorem impl_l0r (hgood : goodL ss gs = true) (hf : fuel ≤ 2000) : ∀ (m : Nat) (a : Int) (said regs : List Int) (done : Int), Inv ss a said regs done → 0 ≤ done → done + m = fuel →
    Ev (fun k => impl_runLined.l0 k fuel said regs a done ss gs) (rn ss gs m a said regs done)
  | m, a, said, regs, done, hi, hd, hm => by
    obtain ⟨hg, _, hsl, hgl⟩ := goodL_at hgood
    refine Ev.step (fun k => by rw [impl_runLined.l0]) ?_
    by_cases h1 : a < (ss.length : Int)
    · refine ite_t h1 ?_
      cases m with
      | zero =>
        rw [rn, if_pos h1]
        exact ite_t (by omega) (Ev.now _)
      | succ m =>
        rw [rn, if_pos h1]
        refine ite_f (by omega) (ite_t hi.a0 ?_)
        have hx := step_of (hg _ (rd86_mem hi.a0 h1))
        generalize rd_T86 ss a = x at hx ⊢
        have ih : ∀ a s r, Inv ss a s r (done + 1) → Ev (fun k => impl_runLined.l0 k fuel s r a (done + 1) ss gs) (rn ss gs m a s r (done + 1)) := fun a s r h => impl_l0r hgood hf m a s r (done + 1) h (by omega) (by omega)
        have hw1 : wrap64 (a + 1) = a + 1 := w64 (by have := hi.a0; omega) (by omega)
        have hw2 : wrap64 (a + 2) = a + 2 := w64 (by have := hi.a0; omega) (by omega)
        have hrb := fun i : Int => rd_bd (i := i) hi.reg (by omega)
        have hlen := hi.len
        have ha0 := hi.a0
        have hreg : ∀ v ∈ regs, 0 ≤ v ∧ v ≤ 9 + (done + 1) := fun v hv => by have := hi.reg v hv; omega
        have hwd : wrap64 (done + 1) = done + 1 := w64 (by omega) (by omega)
        have hw2' : wrap64 (a + 1 + 1) = a + 2 := (congrArg wrap64 (by omega : a + 1 + 1 = a + 2)).trans hw2
        rw [hw1, hwd]
        unfold stp
        rcases hx with h | ⟨h, hb⟩ | ⟨h, hb⟩ | ⟨h, hb⟩ | ⟨h, hb⟩ | ⟨h, hb⟩
        · rw [if_pos h]
          refine ite_t h ?_
          have hsd := hi.said
          refine ite_t (by omega) (bind_ev (Ev.now _) ?_)
          by_cases hl : said.length < 200
          · rw [if_pos hl]
            exact ite_f (by simp; omega) (impl_j hgood (by simp; omega) hlen (by omega) hreg (by omega) (by omega) ih)
          · rw [if_neg hl]
            exact ite_t (by simp; omega) (Ev.now _)
        · rw [if_neg (by omega), if_pos h]
          exact ite_f (by omega) (ite_t h (impl_j hgood hi.said hlen (by omega) hreg (by omega) (by omega) ih))
        · rw [if_neg (by omega), if_neg (by omega), if_pos h]
          exact ite_f (by omega) (ite_f (by omega) (ite_t h (ite_t hb.1 (ite_t (by omega) (impl_j hgood hi.said hlen (by omega) hreg (hrb _) (by omega) ih)))))
        · rw [if_neg (by omega), if_neg (by omega), if_neg (by omega), if_pos h]
          exact ite_f (by omega) (ite_f (by omega) (ite_f (by omega) (ite_t h (impl_j hgood hi.said hlen (by omega) hreg (by omega) (by omega) ih))))
        · rw [if_neg (by omega), if_neg (by omega), if_neg (by omega), if_neg (by omega), if_pos h]
          refine ite_f (by omega) (ite_f (by omega) (ite_f (by omega) (ite_f (by omega) (ite_t h (ite_t hb.1 (ite_t (by omega) (impl_j hgood hi.said (by simpa using hlen) (by omega) ?_ (by omega) (by omega) ih)))))))
          intro u hu
          rcases List.mem_or_eq_of_mem_set hu with h1 | h1
          · exact hreg u h1
          · rw [h1]; omega
        · rw [if_neg (by omega), if_neg (by omega), if_neg (by omega), if_neg (by omega), if_neg (by omega)]
          have hv := hrb x.f1
          have hw3 : wrap64 (rd regs x.f1 + 1) = rd regs x.f1 + 1 := w64 (by omega) (by omega)
          refine ite_f (by omega) (ite_f (by omega) (ite_f (by omega) (ite_f (by omega) (ite_f (by omega) (ite_t h (ite_t hb.1 (ite_t (by omega) ?_)))))))
          by_cases hq : rd regs x.f1 = x.f2
          · rw [if_pos hq]
            exact ite_t hq (impl_j hgood hi.said hlen (by omega) hreg (by omega) (by omega) ih)
          · rw [if_neg hq]
            refine ite_f hq ?_
            rw [hw2', hw3]
            refine impl_j hgood hi.said (by simpa using hlen) (by omega) ?_ (by omega) (by omega) ih
            have := set_bd (i := x.f1.toNat) (v := rd regs x.f1 + 1) hi.reg (by omega)
            exact fun v hv => by have := this v hv; omega
    · rw [show rn ss gs m a said regs done = (said, 0, done, true) by cases m <;> (rw [rn, if_neg h1])]
      exact ite_f h1 (Ev.now _)
end
/-- What RunLined tells. -/
def runL (ss : List S86) (gs : List S63) (fuel : Int) : RR := if goodL ss gs = true ∧ inB fuel 0 2000 = true then rn ss gs fuel.toNat 0 [] (List.replicate 40 0) 0 else ([], 0, 0, false)
theorem inv0 (ss : List S86) : Inv ss 0 [] (List.replicate 40 0) 0 := ⟨Int.le_refl _, by omega, by simp, by simp, fun v hv => by rw [List.eq_of_mem_replicate hv]; omega⟩
theorem spec_runL (ss : List S86) (gs : List S63) (fuel : Int) (hs : ss.length ≤ 1048576) (hg : gs.length ≤ 1048576) : Ev (fun k => spec_RunLined.f k ss gs fuel) (runL ss gs fuel) := by
  unfold spec_RunLined.f runL
  refine bind_ev (spec_good ss gs hs hg) ?_
  by_cases h1 : goodL ss gs = true
  · refine ite_t h1 ?_
    rw [spec_in]
    simp only [Option.bind_some]
    by_cases h2 : inB fuel 0 2000 = true
    · rw [if_pos ⟨h1, h2⟩, h2]
      have h3 := (inB_iff _ _ _).1 h2
      refine Ev.step (fun k => by simp only [spec_RunLined.j0]; rw [if_neg (by decide), if_pos (by decide)]) ?_
      exact spec_l0r h1 h3.2 fuel.toNat 0 [] _ 0 (inv0 ss) (Int.le_refl _) (by omega)
    · rw [if_neg (fun z => h2 z.2), Bool.eq_false_iff.mpr h2]
      exact Ev.step (fun k => by simp only [spec_RunLined.j0]; rw [if_pos (by decide)]) (Ev.now _)
  · rw [if_neg (fun z => h1 z.1)]
    exact ite_f h1 (Ev.step (fun k => by simp only [spec_RunLined.j0]; rw [if_pos trivial]) (Ev.now _))
theorem impl_runL (ss : List S86) (gs : List S63) (fuel : Int) (hs : ss.length ≤ 1048576) (hg : gs.length ≤ 1048576) : Ev (fun k => impl_RunLined.f k ss gs fuel) (runL ss gs fuel) := by
  unfold impl_RunLined.f runL
  refine bind_ev (impl_good ss gs hs hg) ?_
  by_cases h1 : goodL ss gs = true
  · refine ite_t h1 ?_
    rw [impl_in]
    simp only [Option.bind_some]
    by_cases h2 : inB fuel 0 2000 = true
    · rw [if_pos ⟨h1, h2⟩]
      have h3 := (inB_iff _ _ _).1 h2
      refine ite_t h2 (bind_ev (a := rn ss gs fuel.toNat 0 [] (List.replicate 40 0) 0) ?_ (Ev.now _))
      unfold impl_runLined.f
      exact ite_t (by decide) (impl_l0r h1 h3.2 fuel.toNat 0 [] _ 0 (inv0 ss) (Int.le_refl _) (by omega))
    · rw [if_neg (fun z => h2 z.2)]
      exact ite_f h2 (Ev.now _)
  · rw [if_neg (fun z => h1 z.1)]
    exact ite_f h1 (Ev.now _)
/-- Not more is told than may be. -/
theorem rn_len {ss : List S86} {gs : List S63} : ∀ (m : Nat) (a : Int) (said regs : List Int) (done : Int), said.length ≤ 200 → (rn ss gs m a said regs done).1.length ≤ 200
  | 0, a, said, regs, done, h => by
    unfold rn; split
    · simp
    · exact h
  | m + 1, a, said, regs, done, h => by
    have hj : ∀ (s r : List Int) (c n : Int), s.length ≤ 200 → ((jn gs a s r c n).then (fun a s r => rn ss gs m a s r (done + 1)) (done + 1)).1.length ≤ 200 := by
      intro s r c n hs
      unfold jn
      split
      · exact rn_len m _ _ _ _ hs
      · split
        · exact hs
        · exact rn_len m _ _ _ _ hs
    unfold rn; split
    · unfold stp
      split
      · split
        · exact hj _ _ _ _ (by simp; omega)
        · simp [Stp.then]
      · split
        · exact hj _ _ _ _ h
        · split
          · exact hj _ _ _ _ h
          · split
            · exact hj _ _ _ _ h
            · split
              · exact hj _ _ _ _ h
              · split <;> exact hj _ _ _ _ h
    · exact h
theorem runL_len (ss : List S86) (gs : List S63) (fuel : Int) : (runL ss gs fuel).1.length ≤ 200 := by
  unfold runL; split
  · exact rn_len _ _ _ _ _ (by simp)
  · simp
end Go.Proofs.Ytgjojppbichaiaa.Pure
