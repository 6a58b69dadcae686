/- Slices of whole numbers: what copies, compares, marks and holds them comes to. Conditions: none. -/
import Derived.Test.YtpoddnhfnphdcaaKit
import Derived.Test.YtpoddnhfnphdcaaQx0
import Derived.Test.YtpoddnhfnphdcaaQx1
import Derived.Test.YtpoddnhfnphdcaaQx2
import Derived.Test.YtpoddnhfnphdcaaQx6
namespace Go.Proofs.Ytpoddnhfnphdcaa.Pure
open Go.RowKit Go.Proofs.Ytpoddnhfnphdcaa.Q Go.Proofs.YtpoddnhfnphdcaaW.PrintWords Go.Proofs.YtpoddnhfnphdcaaW.PrintLast Go.Proofs.Ytpoddnhfnphdcaa.Kit

/-! ### slices of whole numbers -/
theorem toIntS_l0 : ∀ (post pre pre' post' : List Int), pre'.length = pre.length → post'.length = post.length → pre.length + post.length < 9223372036854775807 →
    Ev (fun k => laws_toIntS.l0 k (pre ++ post) (pre' ++ post') (pre.length : Int)) (pre' ++ post)
  | [], pre, pre', post', h1, h2, hb => by
    obtain rfl : post' = [] := List.length_eq_zero_iff.1 h2
    refine Ev.step (fun k => by simp only [laws_toIntS.l0]; rw [if_neg (by simp)]) (Ev.now _)
  | x :: post, pre, pre', y :: post', h1, h2, hb => by
    have ih := toIntS_l0 post (pre ++ [x]) (pre' ++ [x]) post' (by simp [h1]) (by simpa using h2) (by simp at hb ⊢; omega)
    refine Ev.step (fun k => by
      simp only [laws_toIntS.l0]
      rw [if_pos (by simp; omega), if_pos (by omega), if_pos (by simp [h1]; omega), rd_at rfl, Int.toNat_natCast, set_at h1.symm, w_succ (by simp at hb; omega)]) ?_
    simpa using ih
theorem toIntS_ev (l : List Int) (hb : l.length ≤ 1048576) : Ev (fun k => laws_toIntS.f k l) l := by
  have h := toIntS_l0 l [] [] (List.replicate l.length 0) rfl (by simp) (by simp; omega)
  unfold laws_toIntS.f
  refine ite_t (by omega) (ite_t (by simp; omega) ?_)
  simpa using h
theorem eqIntS_l0 : ∀ (post pre : List Int), pre.length + post.length < 9223372036854775807 →
    Ev (fun k => laws_eqIntS.l0 k (pre ++ post) (pre ++ post) (pre.length : Int)) true
  | [], pre, hb => by
    refine Ev.step (fun k => by simp only [laws_eqIntS.l0]; rw [if_neg (by simp)]) (Ev.now _)
  | x :: post, pre, hb => by
    have ih := eqIntS_l0 post (pre ++ [x]) (by simp at hb ⊢; omega)
    refine Ev.step (fun k => by
      simp only [laws_eqIntS.l0]
      rw [if_pos (by simp; omega), if_pos (by omega), if_pos (by simp; omega), if_pos trivial, w_succ (by simp at hb; omega)]) ?_
    simpa using ih
theorem eqIntS_ev (l : List Int) (hb : l.length < 9223372036854775807) : Ev (fun k => laws_eqIntS.f k l l) true := by
  have h := eqIntS_l0 l [] (by simpa using hb)
  unfold laws_eqIntS.f
  exact ite_t rfl (by simpa using h)
theorem markIntS_l0 : ∀ (post pre : List Int) (n : Int), pre.length + post.length < 4611686018427387904 → 0 ≤ n → n + post.length < 4611686018427387904 →
    Ev (fun k => laws_markIntS.l0 k (pre ++ post) n (pre.length : Int)) (n + post.length, pre ++ from_ n post.length)
  | [], pre, n, hb, h0, hn => by
    refine Ev.step (fun k => by simp only [laws_markIntS.l0]; rw [if_neg (by simp)]) ?_
    simpa [from_] using Ev.now _
  | x :: post, pre, n, hb, h0, hn => by
    have ih := markIntS_l0 post (pre ++ [n]) (n + 1) (by simp at hb ⊢; omega) (by omega) (by simp at hn ⊢; omega)
    refine Ev.step (fun k => by
      simp only [laws_markIntS.l0]
      rw [if_pos (by simp; omega), if_pos (by omega), Int.toNat_natCast, set_at rfl, w_succ (by simp at hb; omega), w64 (x := n + 1) (by omega) (by simp at hn; omega)]) ?_
    have e : n + 1 + (post.length : Int) = n + ((x :: post).length : Int) := by simp; omega
    rw [e] at ih
    simpa [from_] using ih
theorem markIntS_ev (l : List Int) (n : Int) (hb : l.length < 2305843009213693952) (h0 : 0 ≤ n) (hn : n < 2305843009213693952) : Ev (fun k => laws_markIntS.f k l n) (n + l.length, from_ n l.length) := by
  have h := markIntS_l0 l [] n (by simp; omega) h0 (by omega)
  unfold laws_markIntS.f
  simpa using h
theorem heldIntS_l0 : ∀ (m : Nat) (pre : List Int) (n : Int), pre.length + m < 4611686018427387904 → 0 ≤ n → n + m < 4611686018427387904 →
    Ev (fun k => laws_heldIntS.l0 k (pre ++ from_ n m) n (pre.length : Int)) (n + m)
  | 0, pre, n, hb, h0, hn => by
    have e : from_ n 0 = [] := rfl
    rw [e]
    refine Ev.step (fun k => by simp only [laws_heldIntS.l0]; rw [if_neg (by simp)]) ?_
    simpa using Ev.now _
  | m + 1, pre, n, hb, h0, hn => by
    have ih := heldIntS_l0 m (pre ++ [n]) (n + 1) (by simp at hb ⊢; omega) (by omega) (by simp at hn ⊢; omega)
    have e0 : from_ n (m + 1) = n :: from_ (n + 1) m := rfl
    rw [e0]
    refine Ev.step (fun k => by
      simp only [laws_heldIntS.l0]
      rw [if_pos (by simp; omega), if_pos (by omega), if_pos (rd_at rfl), w_succ (by omega), w64 (x := n + 1) (by omega) (by omega)]) ?_
    have e : n + 1 + (m : Int) = n + ((m + 1 : Nat) : Int) := by omega
    rw [e] at ih
    simpa using ih
theorem heldIntS_ev (m : Nat) (n : Int) (hb : m < 2305843009213693952) (h0 : 0 ≤ n) (hn : n < 2305843009213693952) : Ev (fun k => laws_heldIntS.f k (from_ n m) n) (n + m) := by
  have h := heldIntS_l0 m [] n (by simp; omega) h0 (by omega)
  unfold laws_heldIntS.f
  simpa using h

end Go.Proofs.Ytpoddnhfnphdcaa.Pure
