/- The pure statements of GoodSteps and DepthsOf: the program's and the reference's depths are the same. Conditions: none. -/
import Derived.Test.YtpoddnhfnphdcaaKit
import Derived.Test.YtpoddnhfnphdcaaWf
import Derived.Test.YtpoddnhfnphdcaaQx0
import Derived.Test.YtpoddnhfnphdcaaQx1
import Derived.Test.YtpoddnhfnphdcaaQx2
import Derived.Test.YtpoddnhfnphdcaaQx3
import Derived.Test.YtpoddnhfnphdcaaQx4
import Derived.Test.YtpoddnhfnphdcaaQx5
import Derived.Test.YtpoddnhfnphdcaaQx6
namespace Go.Proofs.Ytpoddnhfnphdcaa.Pure
open Go.RowKit Go.Proofs.Ytpoddnhfnphdcaa.Q Go.Proofs.YtpoddnhfnphdcaaW.PrintWords Go.Proofs.YtpoddnhfnphdcaaW.PrintLast Go.Proofs.Ytpoddnhfnphdcaa.Kit Go.Proofs.Ytpoddnhfnphdcaa.Wf

def L20 : Nat := 1048576

/-! ### slices of whole numbers -/
theorem toIntS_l0 : ∀ (post pre pre' post' : List Int), pre'.length = pre.length → post'.length = post.length → pre.length + post.length < 9223372036854775807 →
    Ev (fun k => laws_toIntS.l0 k (pre ++ post) (pre' ++ post') (pre.length : Int)) (pre' ++ post)
  | [], pre, pre', post', h1, h2, hb => by
    obtain rfl : post' = [] := List.length_eq_zero_iff.1 h2
    refine Ev.step (fun k => by simp only [laws_toIntS.l0]; rw [if_neg (by simp)]) (Ev.now _)
  | x :: post, pre, pre', y :: post', h1, h2, hb => by
    have ih := toIntS_l0 post (pre ++ [x]) (pre' ++ [x]) post' (by simp [h1]) (by simpa using h2) (by simp at hb ⊢; omega)
    refine Ev.step (fun k => by
      simp only [laws_toIntS.l0]
      rw [if_pos (by simp; omega), if_pos (by omega), if_pos (by simp [h1]; omega), rd_at rfl, Int.toNat_natCast, set_at h1.symm, w_succ (by simp at hb; omega)]) ?_
    simpa using ih
theorem toIntS_ev (l : List Int) (hb : l.length ≤ 1048576) : Ev (fun k => laws_toIntS.f k l) l := by
  have h := toIntS_l0 l [] [] (List.replicate l.length 0) rfl (by simp) (by simp; omega)
  unfold laws_toIntS.f
  refine ite_t (by omega) (ite_t (by simp; omega) ?_)
  simpa using h
theorem eqIntS_l0 : ∀ (post pre : List Int), pre.length + post.length < 9223372036854775807 →
    Ev (fun k => laws_eqIntS.l0 k (pre ++ post) (pre ++ post) (pre.length : Int)) true
  | [], pre, hb => by
    refine Ev.step (fun k => by simp only [laws_eqIntS.l0]; rw [if_neg (by simp)]) (Ev.now _)
  | x :: post, pre, hb => by
    have ih := eqIntS_l0 post (pre ++ [x]) (by simp at hb ⊢; omega)
    refine Ev.step (fun k => by
      simp only [laws_eqIntS.l0]
      rw [if_pos (by simp; omega), if_pos (by omega), if_pos (by simp; omega), if_pos trivial, w_succ (by simp at hb; omega)]) ?_
    simpa using ih
theorem eqIntS_ev (l : List Int) (hb : l.length < 9223372036854775807) : Ev (fun k => laws_eqIntS.f k l l) true := by
  have h := eqIntS_l0 l [] (by simpa using hb)
  unfold laws_eqIntS.f
  exact ite_t rfl (by simpa using h)
theorem markIntS_l0 : ∀ (post pre : List Int) (n : Int), pre.length + post.length < 4611686018427387904 → 0 ≤ n → n + post.length < 4611686018427387904 →
    Ev (fun k => laws_markIntS.l0 k (pre ++ post) n (pre.length : Int)) (n + post.length, pre ++ from_ n post.length)
  | [], pre, n, hb, h0, hn => by
    refine Ev.step (fun k => by simp only [laws_markIntS.l0]; rw [if_neg (by simp)]) ?_
    simpa [from_] using Ev.now _
  | x :: post, pre, n, hb, h0, hn => by
    have ih := markIntS_l0 post (pre ++ [n]) (n + 1) (by simp at hb ⊢; omega) (by omega) (by simp at hn ⊢; omega)
    refine Ev.step (fun k => by
      simp only [laws_markIntS.l0]
      rw [if_pos (by simp; omega), if_pos (by omega), Int.toNat_natCast, set_at rfl, w_succ (by simp at hb; omega), w64 (x := n + 1) (by omega) (by simp at hn; omega)]) ?_
    have e : n + 1 + (post.length : Int) = n + ((x :: post).length : Int) := by simp; omega
    rw [e] at ih
    simpa [from_] using ih
theorem markIntS_ev (l : List Int) (n : Int) (hb : l.length < 2305843009213693952) (h0 : 0 ≤ n) (hn : n < 2305843009213693952) : Ev (fun k => laws_markIntS.f k l n) (n + l.length, from_ n l.length) := by
  have h := markIntS_l0 l [] n (by simp; omega) h0 (by omega)
  unfold laws_markIntS.f
  simpa using h
theorem heldIntS_l0 : ∀ (m : Nat) (pre : List Int) (n : Int), pre.length + m < 4611686018427387904 → 0 ≤ n → n + m < 4611686018427387904 →
    Ev (fun k => laws_heldIntS.l0 k (pre ++ from_ n m) n (pre.length : Int)) (n + m)
  | 0, pre, n, hb, h0, hn => by
    have e : from_ n 0 = [] := rfl
    rw [e]
    refine Ev.step (fun k => by simp only [laws_heldIntS.l0]; rw [if_neg (by simp)]) ?_
    simpa using Ev.now _
  | m + 1, pre, n, hb, h0, hn => by
    have ih := heldIntS_l0 m (pre ++ [n]) (n + 1) (by simp at hb ⊢; omega) (by omega) (by simp at hn ⊢; omega)
    have e0 : from_ n (m + 1) = n :: from_ (n + 1) m := rfl
    rw [e0]
    refine Ev.step (fun k => by
      simp only [laws_heldIntS.l0]
      rw [if_pos (by simp; omega), if_pos (by omega), if_pos (rd_at rfl), w_succ (by omega), w64 (x := n + 1) (by omega) (by omega)]) ?_
    have e : n + 1 + (m : Int) = n + ((m + 1 : Nat) : Int) := by omega
    rw [e] at ih
    simpa using ih
theorem heldIntS_ev (m : Nat) (n : Int) (hb : m < 2305843009213693952) (h0 : 0 ≤ n) (hn : n < 2305843009213693952) : Ev (fun k => laws_heldIntS.f k (from_ n m) n) (n + m) := by
  have h := heldIntS_l0 m [] n (by simp; omega) h0 (by omega)
  unfold laws_heldIntS.f
  simpa using h

/-! ### steps -/
def cvS (x : S65) : S63 := ⟨x.f0, x.f1⟩
theorem rdT63_at {pre : List S63} {x : S63} {post : List S63} {n : Nat} (h : n = pre.length) : rd_T63 (pre ++ x :: post) (n : Int) = x := by
  unfold rd_T63; rw [Int.toNat_natCast]; exact getD_at h
theorem rdT65_at {pre : List S65} {x : S65} {post : List S65} {n : Nat} (h : n = pre.length) : rd_T65 (pre ++ x :: post) (n : Int) = x := by
  unfold rd_T65; rw [Int.toNat_natCast]; exact getD_at h
theorem toSStepS_l0 : ∀ (post pre : List S65) (pre' post' : List S63), pre'.length = pre.length → post'.length = post.length → pre.length + post.length < 9223372036854775807 →
    Ev (fun k => laws_toSStepS.l0 k (pre ++ post) (pre' ++ post') (pre.length : Int)) (pre' ++ post.map cvS)
  | [], pre, pre', post', h1, h2, hb => by
    obtain rfl : post' = [] := List.length_eq_zero_iff.1 h2
    refine Ev.step (fun k => by simp only [laws_toSStepS.l0]; rw [if_neg (by simp)]) (by simpa using Ev.now _)
  | x :: post, pre, pre', y :: post', h1, h2, hb => by
    have ih := toSStepS_l0 post (pre ++ [x]) (pre' ++ [cvS x]) post' (by simp [h1]) (by simpa using h2) (by simp at hb ⊢; omega)
    refine Ev.step (fun k => by
      simp only [laws_toSStepS.l0]
      rw [if_pos (by simp; omega), if_pos (by omega), rdT65_at rfl]) ?_
    refine bind_ev (a := (x.f0, x.f1)) (const_ev rfl) ?_
    refine ite_t (by simp [h1]; omega) ?_
    rw [Int.toNat_natCast, set_at h1.symm, w_succ (by simp at hb; omega)]
    simpa [cvS] using ih
theorem toSStepS_ev (l : List S65) (hb : l.length ≤ 1048576) : Ev (fun k => laws_toSStepS.f k l) (l.map cvS) := by
  have h := toSStepS_l0 l [] [] (List.replicate l.length z63) rfl (by simp) (by simp; omega)
  unfold laws_toSStepS.f
  refine ite_t (by omega) (ite_t (by simp; omega) ?_)
  simpa using h
theorem eqSStep_ok (x : S63) : laws_eqSStep.f x.f0 x.f1 x.f0 x.f1 = some true := by unfold laws_eqSStep.f; simp
theorem eqSStepS_l0 : ∀ (post pre : List S63), pre.length + post.length < 9223372036854775807 →
    Ev (fun k => laws_eqSStepS.l0 k (pre ++ post) (pre ++ post) (pre.length : Int)) true
  | [], pre, hb => by
    refine Ev.step (fun k => by simp only [laws_eqSStepS.l0]; rw [if_neg (by simp)]) (Ev.now _)
  | x :: post, pre, hb => by
    have ih := eqSStepS_l0 post (pre ++ [x]) (by simp at hb ⊢; omega)
    refine Ev.step (fun k => by
      simp only [laws_eqSStepS.l0]
      rw [if_pos (by simp; omega), if_pos (by omega), if_pos (by simp; omega), rdT63_at rfl]) ?_
    refine bind_ev (a := true) (const_ev (eqSStep_ok x)) ?_
    refine ite_t rfl ?_
    rw [w_succ (by simp at hb; omega)]
    simpa using ih
theorem eqSStepS_ev (l : List S63) (hb : l.length < 9223372036854775807) : Ev (fun k => laws_eqSStepS.f k l l) true := by
  have h := eqSStepS_l0 l [] (by simpa using hb)
  unfold laws_eqSStepS.f
  exact ite_t rfl (by simpa using h)
theorem markSStepS_l0 : ∀ (post pre : List S63) (n : Int), pre.length + post.length < 4611686018427387904 → 0 ≤ n → n + 2 * post.length < 4611686018427387904 →
    ∃ r : Int × List S63, Ev (fun k => laws_markSStepS.l0 k (pre ++ post) n (pre.length : Int)) r ∧ 0 ≤ r.1
  | [], pre, n, hb, h0, hn => ⟨(n, pre), by
      refine Ev.step (fun k => by simp only [laws_markSStepS.l0]; rw [if_neg (by simp)]) ?_
      simpa using Ev.now _, h0⟩
  | x :: post, pre, n, hb, h0, hn => by
    obtain ⟨r, ih, hr⟩ := markSStepS_l0 post (pre ++ [⟨n, n + 1⟩]) (n + 1 + 1) (by simp at hb ⊢; omega) (by omega) (by simp at hn ⊢; omega)
    refine ⟨r, ?_, hr⟩
    refine Ev.step (fun k => by
      simp only [laws_markSStepS.l0]
      rw [if_pos (by simp; omega), if_pos (by omega), Int.toNat_natCast, set_at rfl]) ?_
    simp only [Option.bind_some]
    rw [set_at rfl, rdT63_at rfl, w_succ (by simp at hb; omega), w64 (x := n + 1) (by omega) (by simp at hn; omega), w64 (x := n + 1 + 1) (by omega) (by simp at hn; omega)]
    simpa using ih
theorem markSStepS_ev (l : List S63) (n : Int) (hb : l.length ≤ 1048576) (h0 : 0 ≤ n) (hn : n < 2305843009213693952) : ∃ r : Int × List S63, Ev (fun k => laws_markSStepS.f k l n) r ∧ 0 ≤ r.1 := by
  have h := markSStepS_l0 l [] n (by simp; omega) h0 (by omega)
  unfold laws_markSStepS.f
  simpa using h

/-! ### what is reckoned -/
theorem takes_eq (k : Nat) (a b : Int) : impl_SStep_takes.f k a b = spec_l13Takes.f k a := by
  have j1 : ∀ k x b, impl_SStep_takes.j1 k x b = spec_l13Takes.j1 k x b := fun k x b => by cases k <;> rfl
  have j0 : ∀ k x b, impl_SStep_takes.j0 k x b = spec_l13Takes.j0 k x b := fun k x b => by
    cases k
    · rfl
    · simp only [impl_SStep_takes.j0, spec_l13Takes.j0, j1]
  unfold impl_SStep_takes.f spec_l13Takes.f
  simp only [j0]
theorem isStep_eq (k : Nat) (a b : Int) : impl_isStep.f k a b = spec_l13Step.f k a b := by
  have j0 : ∀ k x a b, impl_isStep.j0 k x a b = spec_l13Step.j0 k x a b := fun k x a b => by cases k <;> rfl
  unfold impl_isStep.f spec_l13Step.f
  simp only [j0]
  rfl
theorem takes_ev (a : Int) : ∃ r : Int × Int, Ev (fun k => spec_l13Takes.f k a) r ∧ 0 ≤ r.1 ∧ r.1 ≤ 2 ∧ 0 ≤ r.2 ∧ r.2 ≤ 2 := by
  have j1 : ∀ x b, ∃ r : Int × Int, Ev (fun k => spec_l13Takes.j1 k x b) r ∧ 0 ≤ r.1 ∧ r.1 ≤ 2 ∧ 0 ≤ r.2 ∧ r.2 ≤ 2 := fun x b => by
    by_cases h : b = true
    · exact ⟨(1, 0), Ev.step (fun k => by simp only [spec_l13Takes.j1]; rw [if_pos h]) (Ev.now _), by simp⟩
    · by_cases h8 : x = 8
      · exact ⟨(1, 2), Ev.step (fun k => by simp only [spec_l13Takes.j1]; rw [if_neg h, if_pos h8]) (Ev.now _), by simp⟩
      · exact ⟨(2, 1), Ev.step (fun k => by simp only [spec_l13Takes.j1]; rw [if_neg h, if_neg h8]) (Ev.now _), by simp⟩
  have j0 : ∀ x b, ∃ r : Int × Int, Ev (fun k => spec_l13Takes.j0 k x b) r ∧ 0 ≤ r.1 ∧ r.1 ≤ 2 ∧ 0 ≤ r.2 ∧ r.2 ≤ 2 := fun x b => by
    by_cases h : b = true
    · exact ⟨(0, 1), Ev.step (fun k => by simp only [spec_l13Takes.j0]; rw [if_pos h]) (Ev.now _), by simp⟩
    · by_cases h3 : x = 3
      · obtain ⟨r, hr, h1⟩ := j1 x (x == 3)
        exact ⟨r, Ev.step (fun k => by simp only [spec_l13Takes.j0]; rw [if_neg h, if_pos h3]) hr, h1⟩
      · by_cases h9 : x = 9
        · obtain ⟨r, hr, h1⟩ := j1 x (x == 9)
          exact ⟨r, Ev.step (fun k => by simp only [spec_l13Takes.j0]; rw [if_neg h, if_neg h3, if_pos h9]) hr, h1⟩
        · obtain ⟨r, hr, h1⟩ := j1 x (x == 10)
          exact ⟨r, Ev.step (fun k => by simp only [spec_l13Takes.j0]; rw [if_neg h, if_neg h3, if_neg h9]) hr, h1⟩
  unfold spec_l13Takes.f
  by_cases h1 : a = 1
  · obtain ⟨r, hr, h2⟩ := j0 a (a == 1)
    exact ⟨r, ite_t h1 hr, h2⟩
  · obtain ⟨r, hr, h2⟩ := j0 a (a == 2)
    exact ⟨r, ite_f h1 hr, h2⟩
theorem in_some (a b c : Int) : ∃ r, spec_l1In.f a b c = some r := by unfold spec_l1In.f; split <;> exact ⟨_, rfl⟩
theorem step_ev (a b : Int) : ∃ r : Bool, Ev (fun k => spec_l13Step.f k a b) r := by
  have j0 : ∀ x a b, ∃ r : Bool, Ev (fun k => spec_l13Step.j0 k x a b) r := fun x a b => by
    by_cases h : x = true
    · obtain ⟨r, hr⟩ := in_some b 0 2
      exact ⟨r, Ev.step (fun k => by simp only [spec_l13Step.j0]; rw [if_pos h, hr, Option.bind_some]) (Ev.now _)⟩
    · obtain ⟨r, hr⟩ := in_some a 4 10
      exact ⟨if r = true then (b == 0) else false, Ev.step (fun k => by simp only [spec_l13Step.j0]; rw [if_neg h, hr, Option.bind_some]) (ite_ev (fun _ => Ev.now _) (fun _ => Ev.now _))⟩
  unfold spec_l13Step.f
  by_cases h1 : a = 1
  · obtain ⟨r, hr⟩ := in_some b 0 65535
    exact ⟨r, ite_t h1 (const_ev (by simp only [spec_l1Word.f, hr, Option.bind_some]))⟩
  · by_cases h2 : a = 2
    · obtain ⟨r, hr⟩ := j0 (a == 2) a b
      exact ⟨r, ite_f h1 (ite_t h2 hr)⟩
    · obtain ⟨r, hr⟩ := j0 (a == 3) a b
      exact ⟨r, ite_f h1 (ite_f h2 hr)⟩
/-- Code that is looked at by the program and by the reference: the same, if the steps are at most so many. -/
theorem depths_l0 : ∀ (post pre : List S63) (out : List Int) (n : Int), pre.length + post.length ≤ 20 → out.length ≤ 100 → 0 ≤ n → n ≤ 100 →
    out.length + post.length ≤ 100 → n + 2 * post.length ≤ 100 →
    ∃ r : List Int × Bool, Ev (fun k => spec_l13Depths.l0 k n out (pre ++ post) ((pre ++ post).length : Int) (pre.length : Int)) r ∧ Ev (fun k => impl_depths.l0 k out n (pre ++ post) ((pre ++ post).length : Int) (pre.length : Int)) r ∧ r.1.length ≤ 100
  | [], pre, out, n, h1, h2, h3, h4, h5, h6 => by
    refine ⟨(out, true), Ev.step (fun k => by simp only [spec_l13Depths.l0]; rw [if_neg (by simp)]) (Ev.now _), Ev.step (fun k => by simp only [impl_depths.l0]; rw [if_neg (by simp)]) (Ev.now _), h2⟩
  | x :: post, pre, out, n, h1, h2, h3, h4, h5, h6 => by
    obtain ⟨t, ht, t1, t2, t3, t4⟩ := takes_ev x.f0
    obtain ⟨s, hs⟩ := step_ev x.f0 x.f1
    simp at h1 h5 h6
    have e1 : wrap64 (wrap64 (n - t.1) + t.2) = n - t.1 + t.2 := by rw [w64 (x := n - t.1) (by omega) (by omega), w64 (by omega) (by omega)]
    have e2 : wrap64 (n + wrap64 (t.2 - t.1)) = n + (t.2 - t.1) := by rw [w64 (x := t.2 - t.1) (by omega) (by omega), w64 (by omega) (by omega)]
    have key : ∃ r : List Int × Bool, Ev (fun k => spec_l13Depths.l0 k n out (pre ++ x :: post) ((pre ++ x :: post).length : Int) (pre.length : Int)) r ∧ r.1.length ≤ 100 ∧
        Ev (fun k => if s = true then (if n < t.1 then (some (([] : List Int), false)) else (if (wrap64 ((wrap64 (n - t.1)) + t.2)) > 4 then (some (([] : List Int), false)) else (if out.length < 17592186044416 then (impl_depths.l0 k (out ++ [wrap64 (n + (wrap64 (t.2 - t.1)))]) (wrap64 (n + (wrap64 (t.2 - t.1)))) (pre ++ x :: post) ((pre ++ x :: post).length : Int) (wrap64 ((pre.length : Int) + 1))) else (none)))) else (some (([] : List Int), false))) r := by
      have open_ : ∀ r : List Int × Bool, Ev (fun k => if s = true then (if n < t.1 then (some (([] : List Int), false)) else (if (wrap64 ((wrap64 (n - t.1)) + t.2)) > 4 then (some (([] : List Int), false)) else (if out.length < 17592186044416 then (spec_l13Depths.l0 k (wrap64 (n + (wrap64 (t.2 - t.1)))) (out ++ [wrap64 (n + (wrap64 (t.2 - t.1)))]) (pre ++ x :: post) ((pre ++ x :: post).length : Int) (wrap64 ((pre.length : Int) + 1))) else (none)))) else (some (([] : List Int), false))) r →
          Ev (fun k => spec_l13Depths.l0 k n out (pre ++ x :: post) ((pre ++ x :: post).length : Int) (pre.length : Int)) r := fun r hr => by
        refine Ev.step (fun k => by
          simp only [spec_l13Depths.l0]
          rw [if_pos (by simp; omega), if_pos (by omega), if_pos (by simp; omega), rdT63_at rfl]) ?_
        refine bind_ev hs ?_
        by_cases h : s = true
        · simp only [if_pos h] at hr
          exact ite_t h (bind_ev ht hr)
        · simp only [if_neg h] at hr
          exact ite_f h hr
      by_cases h : s = true
      · simp only [if_pos h] at open_ ⊢
        by_cases c1 : n < t.1
        · simp only [if_pos c1] at open_ ⊢
          exact ⟨_, open_ _ (Ev.now _), by simp, Ev.now _⟩
        · simp only [if_neg c1, e1, e2] at open_ ⊢
          by_cases c2 : n - t.1 + t.2 > 4
          · simp only [if_pos c2] at open_ ⊢
            exact ⟨_, open_ _ (Ev.now _), by simp, Ev.now _⟩
          · simp only [if_neg c2, if_pos (show out.length < 17592186044416 by omega), w_succ (show pre.length < 9223372036854775807 by omega)] at open_ ⊢
            obtain ⟨r, i1, i2, i3⟩ := depths_l0 post (pre ++ [x]) (out ++ [n + (t.2 - t.1)]) (n + (t.2 - t.1)) (by simp; omega) (by simp; omega) (by omega) (by omega) (by simp; omega) (by omega)
            exact ⟨r, open_ r (by simpa using i1), i3, by simpa using i2⟩
      · simp only [if_neg h] at open_ ⊢
        exact ⟨_, open_ _ (Ev.now _), by simp, Ev.now _⟩
    obtain ⟨r, k1, k2, k3⟩ := key
    refine ⟨r, k1, ?_, k2⟩
    refine Ev.step (fun k => by
      simp only [impl_depths.l0]
      rw [if_pos (by simp; omega), if_pos (by omega), if_pos (by simp; omega), rdT63_at rfl, takes_eq, isStep_eq]) ?_
    exact bind_ev ht (bind_ev hs k3)
theorem depths_ev (l : List S63) : ∃ r : List Int × Bool, Ev (fun k => spec_l13Depths.f k l) r ∧ Ev (fun k => impl_depths.f k l) r ∧ r.1.length ≤ 100 := by
  unfold spec_l13Depths.f impl_depths.f
  by_cases h : (l.length : Int) > 20
  · exact ⟨_, ite_t h (Ev.now _), ite_t h (Ev.now _), by simp⟩
  · obtain ⟨r, h1, h2, h3⟩ := depths_l0 l [] [0] 0 (by simp; omega) (by simp) (by omega) (by omega) (by simp; omega) (by omega)
    exact ⟨r, ite_f h (by simpa using h1), ite_f h (by simpa using h2), h3⟩

theorem sz_SStepS (l : List S65) (hm : l.length ≤ maxLen) : ∃ r, laws_szSStepS.f l 1048576 = some r ∧ (0 ≤ r → l.length ≤ 1048576) := by
  unfold maxLen at hm
  unfold laws_szSStepS.f
  rw [w64 (by omega) (by omega)]
  by_cases h : (1048576 : Int) - (l.length : Int) < 0
  · rw [if_pos h]; exact ⟨_, rfl, by omega⟩
  · rw [if_neg h]; exact ⟨_, rfl, by omega⟩

theorem FnExactGoodSteps (l : List S65) (hp : l.length ≤ maxLen ∧ ∀ x ∈ l, wf_S65 x) : ∃ k, laws_FnExactGoodSteps.f k l = some true := by
  refine Ev.rounds ?_
  obtain ⟨z, hz, hz2⟩ := sz_SStepS l hp.1
  unfold laws_FnExactGoodSteps.f
  rw [hz]
  simp only [Option.bind_some]
  by_cases h : z < 0
  · exact ite_t h (Ev.now _)
  · have hl := hz2 (by omega)
    refine ite_f h ?_
    obtain ⟨r, h1, h2, _⟩ := depths_ev (l.map cvS)
    refine bind_ev (toSStepS_ev l hl) ?_
    refine bind_ev (a := r.2) ?_ ?_
    · unfold spec_GoodSteps.f; exact bind_ev h1 (Ev.now _)
    refine bind_ev (toSStepS_ev l hl) ?_
    refine bind_ev (a := r.2) ?_ ?_
    · unfold impl_GoodSteps.f; exact bind_ev h2 (Ev.now _)
    refine ite_f (by simp) ?_
    refine bind_ev (toSStepS_ev l hl) ?_
    refine bind_ev (eqSStepS_ev _ (by simp; omega)) ?_
    exact ite_t rfl (Ev.now _)

theorem FnExactDepthsOf (l : List S65) (hp : l.length ≤ maxLen ∧ ∀ x ∈ l, wf_S65 x) : ∃ k, laws_FnExactDepthsOf.f k l = some true := by
  refine Ev.rounds ?_
  obtain ⟨z, hz, hz2⟩ := sz_SStepS l hp.1
  unfold laws_FnExactDepthsOf.f
  rw [hz]
  simp only [Option.bind_some]
  by_cases h : z < 0
  · exact ite_t h (Ev.now _)
  · have hl := hz2 (by omega)
    refine ite_f h ?_
    obtain ⟨r, h1, h2, h3⟩ := depths_ev (l.map cvS)
    have hs : Ev (fun k => spec_DepthsOf.f k (l.map cvS)) r := by unfold spec_DepthsOf.f; exact bind_ev h1 (Ev.now _)
    have hi : Ev (fun k => impl_DepthsOf.f k (l.map cvS)) r := by unfold impl_DepthsOf.f; exact bind_ev h2 (Ev.now _)
    have ht := toSStepS_ev l hl
    obtain ⟨q, hq, hq0⟩ := markSStepS_ev (l.map cvS) 1 (by simpa using hl) (by omega) (by omega)
    refine bind_ev ht (bind_ev hs (bind_ev ht (bind_ev hi (bind_ev (eqIntS_ev _ (by omega)) (ite_t rfl ?_)))))
    refine Ev.step (fun k => by simp only [laws_FnExactDepthsOf.j0]; rw [if_neg (by simp)]) ?_
    refine bind_ev ht (bind_ev (eqSStepS_ev _ (by simp; omega)) (ite_t rfl (bind_ev hq (ite_f (by omega) (bind_ev (eqIntS_ev _ (by omega)) (ite_t rfl ?_))))))
    refine Ev.step (fun k => by simp only [laws_FnExactDepthsOf.j1]; rw [if_neg (by simp)]) ?_
    refine bind_ev (markIntS_ev _ 1 (by omega) (by omega) (by omega)) (bind_ev (heldIntS_ev _ 1 (by omega) (by omega) (by omega)) (ite_f (by omega) (ite_t rfl ?_)))
    refine bind_ev ht (bind_ev hi (bind_ev (eqIntS_ev _ (by omega)) (ite_t rfl ?_)))
    refine Ev.step (fun k => by simp only [laws_FnExactDepthsOf.j2]; rw [if_neg (by simp)]) ?_
    exact bind_ev (heldIntS_ev _ 1 (by omega) (by omega) (by omega)) (ite_f (by omega) (ite_t rfl (Ev.now _)))

end Go.Proofs.Ytpoddnhfnphdcaa.Pure
