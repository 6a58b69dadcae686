/- MayRaise: the program and the reference tell the same codes of a tree. Conditions: none. -/
import Derived.Test.YtgjojppbichaiaaPTg
import Derived.Test.YtgjojppbichaiaaQx0
import Derived.Test.YtgjojppbichaiaaQx3
import Derived.Test.YtgjojppbichaiaaQx5
import Derived.Test.YtgjojppbichaiaaQx6
set_option linter.unusedVariables false
set_option linter.unusedSimpArgs false
namespace Go.Proofs.Ytgjojppbichaiaa.Pure
open Go.RowKit Go.Proofs.Ytgjojppbichaiaa.Q Go.Proofs.YtgjojppbichaiaaW.PrintWords Go.Proofs.YtgjojppbichaiaaW.PrintLast Go.Proofs.Ytgjojppbichaiaa.Kit

/-- Some bits from a place on. -/
def bitsN (p : Nat → Bool) : Nat → Nat → List Bool
  | _, 0 => []
  | i, m + 1 => p i :: bitsN p (i + 1) m
/-- The numbers of the bits that are set. -/
def codesN (p : Nat → Bool) : Nat → Nat → List Int
  | _, 0 => []
  | i, m + 1 => if p i = true then (i : Int) :: codesN p (i + 1) m else codesN p (i + 1) m
theorem codesN_len (p : Nat → Bool) : ∀ (m i : Nat), (codesN p i m).length ≤ m
  | 0, i => by simp [codesN]
  | m + 1, i => by
    have := codesN_len p m (i + 1)
    unfold codesN
    split <;> simp <;> omega
theorem bitsN_len (p : Nat → Bool) : ∀ (m i : Nat), (bitsN p i m).length = m
  | 0, i => rfl
  | m + 1, i => by simp [bitsN, bitsN_len p m (i + 1)]
theorem codesN_congr {p q : Nat → Bool} : ∀ (m i : Nat), (∀ j, i ≤ j → j < i + m → p j = q j) → codesN p i m = codesN q i m
  | 0, i, _ => rfl
  | m + 1, i, h => by
    simp only [codesN]
    rw [h i (Nat.le_refl _) (by omega), codesN_congr m (i + 1) (fun j h1 h2 => h j (by omega) (by omega))]
theorem bitsN_congr {p q : Nat → Bool} : ∀ (m i : Nat), (∀ j, i ≤ j → j < i + m → p j = q j) → bitsN p i m = bitsN q i m
  | 0, i, _ => rfl
  | m + 1, i, h => by
    simp only [bitsN]
    rw [h i (Nat.le_refl _) (by omega), bitsN_congr m (i + 1) (fun j h1 h2 => h j (by omega) (by omega))]
theorem codesN_ge (p : Nat → Bool) : ∀ (m i : Nat) (x : Int), x ∈ codesN p i m → (i : Int) ≤ x
  | 0, i, x, h => by simp [codesN] at h
  | m + 1, i, x, h => by
    unfold codesN at h
    split at h
    · rcases List.mem_cons.1 h with rfl | h
      · exact Int.le_refl _
      · have := codesN_ge p m (i + 1) x h; omega
    · have := codesN_ge p m (i + 1) x h; omega
theorem codesN_mem (p : Nat → Bool) : ∀ (m i j : Nat), (j : Int) ∈ codesN p i m ↔ i ≤ j ∧ j < i + m ∧ p j = true
  | 0, i, j => by simp [codesN]; omega
  | m + 1, i, j => by
    unfold codesN
    have ih := codesN_mem p m (i + 1) j
    by_cases hp : p i = true
    · rw [if_pos hp, List.mem_cons, ih]
      constructor
      · rintro (h | h)
        · obtain rfl : j = i := by omega
          exact ⟨Nat.le_refl _, by omega, hp⟩
        · exact ⟨by omega, by omega, h.2.2⟩
      · rintro ⟨h1, h2, h3⟩
        by_cases e : j = i
        · left; omega
        · right; exact ⟨by omega, by omega, h3⟩
    · rw [if_neg hp, ih]
      constructor
      · rintro h; exact ⟨by omega, by omega, h.2.2⟩
      · rintro ⟨h1, h2, h3⟩
        by_cases e : j = i
        · subst e; exact absurd h3 hp
        · exact ⟨by omega, by omega, h3⟩
/-- A number among rising ones. -/
def insS (x : Int) : List Int → List Int
  | [] => [x]
  | y :: ys => if y < x then y :: insS x ys else if y = x then y :: ys else x :: y :: ys
theorem insS_low (x : Int) : ∀ s : List Int, (∀ y ∈ s, x < y) → insS x s = x :: s
  | [], _ => rfl
  | y :: ys, h => by
    have := h y (by simp)
    unfold insS
    rw [if_neg (by omega), if_neg (by omega)]
theorem insS_codes (p : Nat → Bool) (j : Nat) : ∀ (m i : Nat), i ≤ j → j < i + m → insS (j : Int) (codesN p i m) = codesN (fun n => p n || decide (n = j)) i m
  | 0, i, h1, h2 => by omega
  | m + 1, i, h1, h2 => by
    by_cases e : i = j
    · subst e
      have hc : codesN (fun n => p n || decide (n = i)) (i + 1) m = codesN p (i + 1) m := codesN_congr m (i + 1) (fun n h _ => by
        have : ¬ n = i := by omega
        simp [this])
      simp only [codesN, decide_true, Bool.or_true, if_true]
      rw [hc]
      by_cases hp : p i = true
      · rw [if_pos hp, insS, if_neg (by omega), if_pos rfl]
      · rw [if_neg hp]
        exact insS_low _ _ (fun y hy => by have := codesN_ge p m (i + 1) y hy; omega)
    · have ih := insS_codes p j m (i + 1) (by omega) (by omega)
      have hi : (p i || decide (i = j)) = p i := by simp [e]
      simp only [codesN, hi]
      by_cases hp : p i = true
      · rw [if_pos hp, if_pos hp, insS, if_pos (by omega), ih]
      · rw [if_neg hp, if_neg hp, ih]
theorem codesN_zero (p : Nat → Bool) (i : Nat) : codesN p i 0 = [] := rfl
theorem codesN_succ (p : Nat → Bool) (i m : Nat) : codesN p i (m + 1) = if p i = true then (i : Int) :: codesN p (i + 1) m else codesN p (i + 1) m := rfl
theorem puts_codes (M : Nat) (p q : Nat → Bool) : ∀ (m i : Nat), i + m ≤ M → (codesN q i m).foldl (fun s x => insS x s) (codesN p 0 M) = codesN (fun n => p n || decide (i ≤ n ∧ n < i + m) && q n) 0 M
  | 0, i, h => by
    simp only [codesN_zero, List.foldl_nil]
    refine codesN_congr M 0 (fun j _ _ => ?_)
    have : ¬ (i ≤ j ∧ j < i + 0) := by omega
    rw [decide_eq_false this]; simp
  | m + 1, i, h => by
    rw [codesN_succ q]
    by_cases hq : q i = true
    · rw [if_pos hq, List.foldl_cons, insS_codes p i M 0 (by omega) (by omega), puts_codes M _ q m (i + 1) (by omega)]
      refine codesN_congr M 0 (fun j _ _ => ?_)
      by_cases e : j = i
      · subst e; simp [hq]
      · have e1 : decide (i + 1 ≤ j ∧ j < i + 1 + m) = decide (i ≤ j ∧ j < i + (m + 1)) := by
          apply decide_eq_decide.2; omega
        simp only [e1, e, decide_false, Bool.or_false]
    · rw [if_neg hq, puts_codes M p q m (i + 1) (by omega)]
      refine codesN_congr M 0 (fun j _ _ => ?_)
      by_cases e : j = i
      · subst e; simp [hq]
      · have e1 : decide (i + 1 ≤ j ∧ j < i + 1 + m) = decide (i ≤ j ∧ j < i + (m + 1)) := by
          apply decide_eq_decide.2; omega
        simp only [e1]
theorem puts_all (p q : Nat → Bool) : (codesN q 0 10).foldl (fun s x => insS x s) (codesN p 0 10) = codesN (fun n => p n || q n) 0 10 := by
  rw [puts_codes 10 p q 10 0 (by omega)]
  refine codesN_congr 10 0 (fun j _ h => ?_)
  have : (0 ≤ j ∧ j < 0 + 10) := by omega
  rw [decide_eq_true this]; simp
/-! ### the reference's -/
theorem putS_l0 (x : Int) : ∀ (post pre : List Int), pre.length + post.length ≤ 1048576 →
    Ev (fun k => spec_l1Put.l0 k (pre ++ post) x (pre.length : Int)) (pre ++ insS x post)
  | [], pre, hb => by
    simp at hb
    refine Ev.step (fun k => by simp only [spec_l1Put.l0]; rw [if_neg (by simp)]) ?_
    refine ite_t (by omega) (ite_t (by simp) (bind_ev (Ev.now _) (ite_t (by simp; omega) (bind_ev (Ev.now _) (ite_t (by simp; omega) (bind_ev (Ev.now _) (bind_ev (Ev.now _) (ite_t (by simp; omega) (some_ev ?_)))))))))
    simp [insS]
  | y :: post, pre, hb => by
    simp at hb
    refine Ev.step (fun k => by
      simp only [spec_l1Put.l0]
      rw [if_pos (by simp; omega), if_pos (by omega), rd_at rfl, w_succ (by omega)]) ?_
    by_cases h : y < x
    · have e0 : insS x (y :: post) = y :: insS x post := by rw [insS, if_pos h]
      refine ite_t h ?_
      rw [e0]
      have ih := putS_l0 x post (pre ++ [y]) (by simp; omega)
      simpa using ih
    · refine ite_f h ?_
      by_cases e : y = x
      · have e0 : insS x (y :: post) = y :: post := by rw [insS, if_neg h, if_pos e]
        rw [e0]
        exact ite_t e (some_ev rfl)
      · have e0 : insS x (y :: post) = x :: y :: post := by rw [insS, if_neg h, if_neg e]
        rw [e0]
        refine ite_f e ?_
        refine ite_t (by simp; omega) (bind_ev (Ev.now _) (ite_t (by simp; omega) (bind_ev (Ev.now _) (ite_t (by simp; omega) (bind_ev (Ev.now _) (bind_ev (Ev.now _) (ite_t (by simp; omega) (some_ev ?_))))))))
        simp
theorem putS_ev (x : Int) (s : List Int) (hb : s.length ≤ 1048576) : Ev (fun k => spec_l1Put.f k s x) (insS x s) := by
  have := putS_l0 x s [] (by simpa using hb)
  unfold spec_l1Put.f
  simpa using this
theorem insS_len (x : Int) : ∀ s : List Int, (insS x s).length ≤ s.length + 1
  | [] => by simp [insS]
  | y :: ys => by
    have := insS_len x ys
    unfold insS
    split
    · simp; omega
    · split <;> simp
theorem sput_ev : ∀ (s b : List Int), b.length + s.length ≤ 1000 → Ev (fun k => Sm.put k b s) (s.foldl (fun s x => insS x s) b)
  | [], b, _ => Ev.now _
  | x :: xs, b, h => by
    simp only [Sm.put, List.foldl_cons]
    simp only [List.length_cons] at h
    have := insS_len x b
    exact bind_ev (putS_ev x b (by omega)) (sput_ev xs (insS x b) (by omega))
def hitB (n : Int) (i : Nat) : Bool := decide (n = 0) || decide (n = (i : Int))
theorem sleft_codes (n : Int) (p : Nat → Bool) : ∀ (m i : Nat), Sm.left n (codesN p i m) = codesN (fun j => p j && !hitB n j) i m
  | 0, i => rfl
  | m + 1, i => by
    have ih := sleft_codes n p m (i + 1)
    simp only [codesN]
    have e : Sm.hit n (i : Int) = hitB n i := rfl
    by_cases hp : p i = true
    · rw [if_pos hp, Sm.left, e]
      by_cases hh : hitB n i = true
      · rw [if_pos hh, if_neg (by simp [hh]), ih]
      · rw [if_neg hh, if_pos (by simp [hp, hh]), ih]
    · rw [if_neg hp, if_neg (by simp [hp]), ih]
theorem scaught_iff (n : Int) (p : Nat → Bool) : ∀ (m i : Nat), Sm.caught n (codesN p i m) = true ↔ ∃ j, i ≤ j ∧ j < i + m ∧ p j = true ∧ hitB n j = true
  | 0, i => by
    simp only [codesN, Sm.caught]
    constructor
    · intro h; cases h
    · rintro ⟨j, h1, h2, _⟩; omega
  | m + 1, i => by
    have ih := scaught_iff n p m (i + 1)
    simp only [codesN]
    have e : Sm.hit n (i : Int) = hitB n i := rfl
    constructor
    · intro h
      by_cases hp : p i = true
      · rw [if_pos hp, Sm.caught, e] at h
        by_cases hh : hitB n i = true
        · exact ⟨i, Nat.le_refl _, by omega, hp, hh⟩
        · rw [if_neg hh] at h
          obtain ⟨j, h1, h2, h3⟩ := ih.1 h
          exact ⟨j, by omega, by omega, h3⟩
      · rw [if_neg hp] at h
        obtain ⟨j, h1, h2, h3⟩ := ih.1 h
        exact ⟨j, by omega, by omega, h3⟩
    · rintro ⟨j, h1, h2, h3, h4⟩
      by_cases ej : j = i
      · subst ej
        rw [if_pos h3, Sm.caught, e, if_pos h4]
      · have h5 := ih.2 ⟨j, by omega, by omega, h3, h4⟩
        by_cases hp : p i = true
        · rw [if_pos hp, Sm.caught]
          split
          · rfl
          · exact h5
        · rw [if_neg hp]; exact h5
/-! ### the program's -/
theorem xany_caught (n : Int) (p : Nat → Bool) : ∀ (m i : Nat), Xm.any n i (bitsN p i m) = Sm.caught n (codesN p i m)
  | 0, i => rfl
  | m + 1, i => by
    have ih := xany_caught n p m (i + 1)
    simp only [bitsN, codesN, Xm.any, ih]
    have e : Sm.hit n (i : Int) = hitB n i := rfl
    have e2 : Xm.hit n i (p i) = (p i && hitB n i) := rfl
    rw [e2]
    by_cases hp : p i = true
    · rw [if_pos hp, Sm.caught, e, hp]
      cases hitB n i <;> simp
    · have hp' : p i = false := by simpa using hp
      rw [if_neg hp, hp']
      simp
theorem xleft_bits (n : Int) (p : Nat → Bool) : ∀ (m i : Nat), Xm.left n i (bitsN p i m) = bitsN (fun j => p j && !hitB n j) i m
  | 0, i => rfl
  | m + 1, i => by
    simp only [bitsN, Xm.left, xleft_bits n p m (i + 1)]
    congr 1
    show (p i && !(p i && hitB n i)) = (p i && !hitB n i)
    cases p i <;> simp
theorem xzip_bits (ct : Bool) (p q : Nat → Bool) : ∀ (m i : Nat), Xm.zip ct (bitsN p i m) (bitsN q i m) = bitsN (fun j => p j || ct && q j) i m
  | 0, i => rfl
  | m + 1, i => by simp only [bitsN, Xm.zip, xzip_bits ct p q m (i + 1)]
theorem set_bits (n : Nat) (h : n < 10) : (List.replicate 10 false).set n true = bitsN (fun j => decide (j = n)) 0 10 := by
  have : n = 0 ∨ n = 1 ∨ n = 2 ∨ n = 3 ∨ n = 4 ∨ n = 5 ∨ n = 6 ∨ n = 7 ∨ n = 8 ∨ n = 9 := by omega
  rcases this with rfl | rfl | rfl | rfl | rfl | rfl | rfl | rfl | rfl | rfl <;> rfl
theorem one_codes (n : Nat) (h : n < 10) : [(n : Int)] = codesN (fun j => decide (j = n)) 0 10 := by
  have : n = 0 ∨ n = 1 ∨ n = 2 ∨ n = 3 ∨ n = 4 ∨ n = 5 ∨ n = 6 ∨ n = 7 ∨ n = 8 ∨ n = 9 := by omega
  rcases this with rfl | rfl | rfl | rfl | rfl | rfl | rfl | rfl | rfl | rfl <;> rfl
theorem no_codes : codesN (fun _ => false) 0 10 = [] := rfl
theorem no_bits : List.replicate 10 false = bitsN (fun _ => false) 0 10 := rfl
theorem gd_rai {n : Int} (h : gd ⟨2, n, []⟩) : 1 ≤ n ∧ n ≤ 9 := by
  unfold gd at h
  have h1 := h.1
  unfold cellOk at h1
  simp only at h1
  rw [if_neg (by decide), if_pos trivial] at h1
  exact (tB_iff _ _ _).1 h1
/-- Both tell the codes that a tree may raise. -/
theorem may_both : ∀ (N : Nat) (t : S72), sz t ≤ N → gd t → ∃ p : Nat → Bool, Xm.may t = some (bitsN p 0 10) ∧ Ev (fun k => Sm.may k t) (codesN p 0 10) ∧ (∀ j, j < 10 → (p j = true ↔ (toX t).may (j : Int))) ∧ (∀ c, (toX t).may c → 0 ≤ c ∧ c < 10)
  | 0, t, hN, _ => by cases t; unfold sz at hN; omega
  | N + 1, t, hN, hgd => by
    rcases gd_cases t hgd with ⟨n, rfl⟩ | ⟨n, rfl, hn⟩ | ⟨n, a, rfl, hn0, hn5, ha⟩ | ⟨n, a, b, rfl, ha, hb⟩ | ⟨n, a, b, rfl, ha, hb⟩ | ⟨n, a, b, rfl, ha, hb⟩
    · have e1 : toX ⟨1, n, []⟩ = .out n := by simp [toX, mkX]
      refine ⟨fun _ => false, ?_, ?_, fun j _ => ?_, fun c h => ?_⟩
      · unfold Xm.may Xm.node; rw [if_pos rfl]; rfl
      · unfold Sm.may Sm.node; simp only [if_true]; exact Ev.now _
      · rw [e1]; simp [XT.may]
      · rw [e1] at h; cases h
    · have e1 : toX ⟨2, n, []⟩ = .rai n := by simp [toX, mkX]
      have hb := gd_rai hgd
      obtain ⟨m, rfl⟩ : ∃ m : Nat, n = (m : Int) := ⟨n.toNat, by omega⟩
      refine ⟨fun j => decide (j = m), ?_, ?_, fun j _ => ?_, fun c h => ?_⟩
      · unfold Xm.may Xm.node; rw [if_neg (by decide), if_pos rfl, if_pos (by omega), Int.toNat_natCast, set_bits m (by omega)]
      · unfold Sm.may Sm.node
        refine ite_f (by decide) (ite_t rfl (some_ev ?_))
        exact one_codes m (by omega)
      · rw [e1]; simp only [decide_eq_true_eq]; show j = m ↔ (j : Int) = m; omega
      · rw [e1] at h; have h' : c = (m : Int) := h; omega
    · obtain ⟨p, h1, h2, h3, h4⟩ := may_both N a (by simp only [sz, szm] at hN; omega) ha
      have e1 : toX ⟨6, n, [a]⟩ = .loop n.toNat (toX a) := by simp [toX, toXs, mkX]
      by_cases hn : n = 0
      · refine ⟨fun _ => false, ?_, ?_, fun j _ => ?_, fun c h => ?_⟩
        · simp only [Xm.may, Xm.mays, Xm.node, List.getElem?_cons_zero]
          rw [if_neg (by decide), if_neg (by decide), h1]
          simp only [Option.bind_some]
          rw [if_pos (bitsN_len p 10 0)]
          simp only [Option.bind_some]
          rw [if_pos trivial, if_pos hn]; rfl
        · simp only [Sm.may, Sm.mays, Sm.node, List.getElem?_cons_zero]
          exact ite_f (by decide) (ite_f (by decide) (ite_t trivial (ite_t hn (Ev.now _))))
        · rw [e1]; simp [XT.may, hn]
        · rw [e1] at h; exact h4 c h.2
      · refine ⟨p, ?_, ?_, fun j hj => ?_, fun c h => ?_⟩
        · simp only [Xm.may, Xm.mays, Xm.node, List.getElem?_cons_zero]
          rw [if_neg (by decide), if_neg (by decide), h1]
          simp only [Option.bind_some]
          rw [if_pos (bitsN_len p 10 0)]
          simp only [Option.bind_some]
          rw [if_pos trivial, if_neg hn]
        · simp only [Sm.may, Sm.mays, Sm.node, List.getElem?_cons_zero]
          exact ite_f (by decide) (ite_f (by decide) (ite_t trivial (ite_f hn h2)))
        · rw [e1, h3 j hj]; show _ ↔ n.toNat ≠ 0 ∧ _; constructor
          · intro h; exact ⟨by omega, h⟩
          · intro h; exact h.2
        · rw [e1] at h; exact h4 c h.2
    · obtain ⟨p, h1, h2, h3, h4⟩ := may_both N a (by simp only [sz, szm] at hN; omega) ha
      obtain ⟨q, g1, g2, g3, g4⟩ := may_both N b (by simp only [sz, szm] at hN; omega) hb
      have e1 : toX ⟨3, n, [a, b]⟩ = .seq (toX a) (toX b) := by simp [toX, toXs, mkX]
      refine ⟨fun j => p j || q j, ?_, ?_, fun j hj => ?_, fun c h => ?_⟩
      · simp only [Xm.may, Xm.mays, Xm.node, Xm.second, List.getElem?_cons_zero, List.getElem?_cons_succ]
        rw [if_neg (by decide), if_neg (by decide), h1, g1]
        simp only [Option.bind_some]
        rw [if_pos (bitsN_len p 10 0), if_pos (bitsN_len q 10 0)]
        simp only [Option.bind_some]
        rw [if_neg (by decide), if_neg (by decide), xzip_bits]; simp
      · simp only [Sm.may, Sm.mays, Sm.node, Sm.second, List.getElem?_cons_zero, List.getElem?_cons_succ]
        refine ite_f (by decide) (ite_f (by decide) (ite_f (by decide) (bind_ev h2 (ite_f (by decide) (bind_ev (a := codesN q 0 10) (bind_ev g2 (ite_t (by have := codesN_len q 10 0; omega) (Ev.now _))) ?_)))))
        have := sput_ev (codesN q 0 10) (codesN p 0 10) (by have := codesN_len q 10 0; have := codesN_len p 10 0; omega)
        rw [puts_all] at this; exact this
      · rw [e1]; simp only [Bool.or_eq_true]; rw [h3 j hj, g3 j hj]; rfl
      · rw [e1] at h; rcases h with h | h
        · exact h4 c h
        · exact g4 c h
    · obtain ⟨p, h1, h2, h3, h4⟩ := may_both N a (by simp only [sz, szm] at hN; omega) ha
      obtain ⟨q, g1, g2, g3, g4⟩ := may_both N b (by simp only [sz, szm] at hN; omega) hb
      have e1 : toX ⟨4, n, [a, b]⟩ = .cat n (toX a) (toX b) := by simp [toX, toXs, mkX]
      have hx : Xm.may ⟨4, n, [a, b]⟩ = some (bitsN (fun j => (p j && !hitB n j) || Sm.caught n (codesN p 0 10) && q j) 0 10) := by
        simp only [Xm.may, Xm.mays, Xm.node, Xm.second, List.getElem?_cons_zero, List.getElem?_cons_succ]
        rw [if_neg (by decide), if_neg (by decide), h1, g1]
        simp only [Option.bind_some]
        rw [if_pos (bitsN_len p 10 0), if_pos (bitsN_len q 10 0)]
        simp only [Option.bind_some]
        rw [if_neg (by decide), if_pos trivial, xany_caught, xleft_bits, xzip_bits]
      refine ⟨_, hx, ?_, fun j hj => ?_, fun c h => ?_⟩
      · simp only [Sm.may, Sm.mays, Sm.node, Sm.second, List.getElem?_cons_zero, List.getElem?_cons_succ]
        refine ite_f (by decide) (ite_f (by decide) (ite_f (by decide) (bind_ev h2 (ite_t trivial (ite_t (by have := codesN_len p 10 0; omega) ?_)))))
        rw [sleft_codes]
        cases hc : Sm.caught n (codesN p 0 10) with
        | true =>
          refine ite_t rfl (bind_ev (a := codesN q 0 10) (bind_ev g2 (ite_t (by have := codesN_len q 10 0; omega) (Ev.now _))) ?_)
          have := sput_ev (codesN q 0 10) (codesN (fun j => p j && !hitB n j) 0 10) (by have := codesN_len q 10 0; have := codesN_len (fun j => p j && !hitB n j) 10 0; omega)
          rw [puts_all] at this
          simpa using this
        | false =>
          refine ite_f (by decide) (some_ev ?_)
          simp
      · rw [e1]
        show _ ↔ ((toX a).may j ∧ ¬ (n = 0 ∨ n = j)) ∨ ((∃ d, (toX a).may d ∧ (n = 0 ∨ n = d)) ∧ (toX b).may j)
        rw [← h3 j hj, ← g3 j hj]
        simp only [Bool.or_eq_true, Bool.and_eq_true, Bool.not_eq_true', scaught_iff]
        have hh : ∀ i : Nat, hitB n i = true ↔ (n = 0 ∨ n = (i : Int)) := fun i => by simp [hitB]
        have hh2 : hitB n j = false ↔ ¬ (n = 0 ∨ n = (j : Int)) := by rw [← hh j]; simp
        rw [hh2]
        refine or_congr Iff.rfl (and_congr ⟨?_, ?_⟩ Iff.rfl)
        · rintro ⟨i, _, hi, hp, hk⟩
          exact ⟨i, (h3 i (by omega)).1 hp, (hh i).1 hk⟩
        · rintro ⟨d, hd, hk⟩
          have hb := h4 d hd
          obtain ⟨i, rfl⟩ : ∃ i : Nat, d = (i : Int) := ⟨d.toNat, by omega⟩
          exact ⟨i, by omega, by omega, (h3 i (by omega)).2 hd, (hh i).2 hk⟩
      · rw [e1] at h; rcases h with h | h
        · exact h4 c h.1
        · exact g4 c h.2
    · obtain ⟨p, h1, h2, h3, h4⟩ := may_both N a (by simp only [sz, szm] at hN; omega) ha
      obtain ⟨q, g1, g2, g3, g4⟩ := may_both N b (by simp only [sz, szm] at hN; omega) hb
      have e1 : toX ⟨5, n, [a, b]⟩ = .fin (toX a) (toX b) := by simp [toX, toXs, mkX]
      refine ⟨fun j => p j || q j, ?_, ?_, fun j hj => ?_, fun c h => ?_⟩
      · simp only [Xm.may, Xm.mays, Xm.node, Xm.second, List.getElem?_cons_zero, List.getElem?_cons_succ]
        rw [if_neg (by decide), if_neg (by decide), h1, g1]
        simp only [Option.bind_some]
        rw [if_pos (bitsN_len p 10 0), if_pos (bitsN_len q 10 0)]
        simp only [Option.bind_some]
        rw [if_neg (by decide), if_neg (by decide), xzip_bits]; simp
      · simp only [Sm.may, Sm.mays, Sm.node, Sm.second, List.getElem?_cons_zero, List.getElem?_cons_succ]
        refine ite_f (by decide) (ite_f (by decide) (ite_f (by decide) (bind_ev h2 (ite_f (by decide) (bind_ev (a := codesN q 0 10) (bind_ev g2 (ite_t (by have := codesN_len q 10 0; omega) (Ev.now _))) ?_)))))
        have := sput_ev (codesN q 0 10) (codesN p 0 10) (by have := codesN_len q 10 0; have := codesN_len p 10 0; omega)
        rw [puts_all] at this; exact this
      · rw [e1]; simp only [Bool.or_eq_true]; rw [h3 j hj, g3 j hj]; rfl
      · rw [e1] at h; rcases h with h | h
        · exact h4 c h
        · exact g4 c h
theorem codes_bits (p : Nat → Bool) : ∀ (m i : Nat), impl_MayRaise.codes i (bitsN p i m) = codesN p i m
  | 0, i => rfl
  | m + 1, i => by simp only [bitsN, impl_MayRaise.codes, codesN, codes_bits p m (i + 1)]
/-- What MayRaise tells. -/
def mayOf (l : List S76) : List Int × Bool := match treeOf l with
  | none => ([], false)
  | some t => match Xm.may t with
    | some r => (impl_MayRaise.codes 0 r, true)
    | none => ([], false)
theorem mayOf_len (l : List S76) : (mayOf l).1.length ≤ 10 := by
  unfold mayOf
  cases ht : treeOf l with
  | none => simp
  | some t =>
    obtain ⟨p, h1, _⟩ := may_both (sz t) t (Nat.le_refl _) (treeOf_gd ht)
    simp only [h1, codes_bits]
    exact codesN_len p 10 0
theorem impl_mayOf (l : List S76) : impl_MayRaise.f l = some (mayOf l) := by
  unfold impl_MayRaise.f mayOf
  obtain ⟨o, h1, h2⟩ := impl_tree l
  rw [h1]
  simp only [Option.bind_some]
  cases ht : treeOf l with
  | none => rw [if_neg (by simp)]
  | some t =>
    obtain ⟨p, h3, _⟩ := may_both (sz t) t (Nat.le_refl _) (treeOf_gd ht)
    rw [if_pos (by simp), h2 t ht]
    simp only [h3, Option.bind_some]
    rw [if_pos (bitsN_len p 10 0)]
theorem spec_mayOf (l : List S76) (hl : l.length ≤ 1048576) : Ev (fun k => spec_MayRaise.f k l) (mayOf l) := by
  unfold spec_MayRaise.f mayOf
  obtain ⟨t, h1, h2⟩ := spec_tree l hl
  refine bind_ev h1 ?_
  cases ht : treeOf l with
  | none => exact ite_f (by simp) (Ev.now _)
  | some t' =>
    obtain rfl := h2 t' ht
    refine ite_t (by simp) ?_
    obtain ⟨p, h3, h4, _⟩ := may_both (sz t) t (Nat.le_refl _) (treeOf_gd ht)
    simp only [h3, codes_bits]
    exact bind_ev (a := codesN p 0 10) (by cases t; exact h4) (Ev.now _)
end Go.Proofs.Ytgjojppbichaiaa.Pure
