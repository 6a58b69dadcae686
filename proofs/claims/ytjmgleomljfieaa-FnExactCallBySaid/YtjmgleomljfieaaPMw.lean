/- Marks of caches. Conditions: none. -/
import Derived.Test.YtjmgleomljfieaaDataN
import Derived.Test.YtjmgleomljfieaaQx0
import Derived.Test.YtjmgleomljfieaaQx2
import Derived.Test.YtjmgleomljfieaaQx3
set_option linter.unusedVariables false
set_option linter.unusedSimpArgs false
set_option linter.unusedSectionVars false
namespace Go.Proofs.Ytjmgleomljfieaa.Pure
open Go.RowKit Go.Proofs.Ytjmgleomljfieaa.Q Go.Proofs.YtjmgleomljfieaaW.PrintWords Go.Proofs.YtjmgleomljfieaaW.PrintLast Go.Proofs.Ytjmgleomljfieaa.Kit Go.Proofs.Ytjmgleomljfieaa.Wf

def mkW : Int → List S97 → List S97
  | _, [] => []
  | n, _ :: xs => ⟨n, n + 1⟩ :: mkW (n + 2) xs
theorem mkW_length : ∀ (l : List S97) (n : Int), (mkW n l).length = l.length
  | [], _ => rfl
  | _ :: xs, n => by simp [mkW, mkW_length xs]
theorem markWayS_l0 : ∀ (post pre : List S97) (n : Int), pre.length + post.length ≤ 1048576 → 0 ≤ n → n + 2 * post.length < 2305843009213693952 →
    Ev (fun k => laws_markWayS.l0 k (pre ++ post) n (pre.length : Int)) (n + 2 * (post.length : Nat), pre ++ mkW n post)
  | [], pre, n, hb, h0, hn => by
    refine Ev.step (fun k => by simp only [laws_markWayS.l0]; rw [if_neg (by simp)]) ?_
    simpa [mkW] using Ev.now _
  | x :: post, pre, n, hb, h0, hn => by
    simp only [List.length_cons] at hb hn
    have ih := markWayS_l0 post (pre ++ [⟨n, n + 1⟩]) (n + 2) (by simp; omega) (by omega) (by omega)
    have e1 : wrap64 (n + 1) = n + 1 := w64 (by omega) (by omega)
    have e2 : wrap64 (n + 1 + 1) = n + 2 := by rw [w64 (by omega) (by omega)]; omega
    refine Ev.step (fun k => by
      simp only [laws_markWayS.l0]
      rw [if_pos (by simp; omega), if_pos (by omega)]) ?_
    refine bind_ev (Ev.now _) ?_
    simp only [rdat_T97 (pre := pre) (post := post) rfl, Int.toNat_natCast, set_at (n := pre.length) (pre := pre) rfl, e1, e2, w_succ (n := pre.length) (by omega)]
    have e3 : n + 2 * (((x :: post).length : Nat) : Int) = n + 2 + 2 * (post.length : Nat) := by simp; omega
    rw [e3]
    simpa [mkW] using ih
theorem markCache_ev (a b : Int) (l : List S97) (c d e : Int) (hb : l.length ≤ 1048576) : Ev (fun k => laws_markCache.f k a b l c d e 1) (1 + 2 * (l.length : Nat), mkW 1 l) := by
  have h := markWayS_l0 l [] 1 (by simpa using hb) (by omega) (by omega)
  unfold laws_markCache.f laws_markWayS.f
  exact bind_ev (by simpa using h) (Ev.now _)
theorem heldWayS_l0 : ∀ (post pre : List S97) (n : Int), pre.length + post.length ≤ 1048576 → 0 ≤ n → n + 2 * post.length < 2305843009213693952 →
    Ev (fun k => laws_heldWayS.l0 k (pre ++ mkW n post) n (pre.length : Int)) (n + 2 * (post.length : Nat))
  | [], pre, n, hb, h0, hn => by
    refine Ev.step (fun k => by simp only [laws_heldWayS.l0]; rw [if_neg (by simp [mkW])]) ?_
    simpa [mkW] using Ev.now _
  | x :: post, pre, n, hb, h0, hn => by
    simp only [List.length_cons] at hb hn
    have ih := heldWayS_l0 post (pre ++ [⟨n, n + 1⟩]) (n + 2) (by simp; omega) (by omega) (by omega)
    have e1 : wrap64 (n + 1) = n + 1 := w64 (by omega) (by omega)
    have e2 : wrap64 (n + 1 + 1) = n + 2 := by rw [w64 (by omega) (by omega)]; omega
    simp only [mkW]
    refine Ev.step (fun k => by
      simp only [laws_heldWayS.l0]
      rw [if_pos (by simp; omega), if_pos (by omega), rdat_T97 rfl, if_pos rfl, if_pos e1.symm, e1, e2, w_succ (by omega)]) ?_
    have e3 : n + 2 * (((x :: post).length : Nat) : Int) = n + 2 + 2 * (post.length : Nat) := by simp; omega
    rw [e3]
    simpa [mkW] using ih
theorem heldCache_ev (a b : Int) (l : List S97) (c d e : Int) (hb : l.length ≤ 1048576) : Ev (fun k => laws_heldCache.f k a b (mkW 1 l) c d e 1) (1 + 2 * (l.length : Nat)) := by
  have h := heldWayS_l0 l [] 1 (by simpa using hb) (by omega) (by omega)
  unfold laws_heldCache.f laws_heldWayS.f
  exact bind_ev (by simpa using h) (ite_f (by omega) (Ev.now _))
theorem eqCache_t (a b : Int) (l : List S97) (c d e : Int) (hb : l.length ≤ 1048576) : Ev (fun k => laws_eqCache.f k a b l c d e a b l c d e) true :=
  eqCache_ev ⟨a, b, l, c, d, e⟩ ⟨trivial, trivial, hb, trivial, trivial, trivial⟩
theorem cntClass_le : ∀ (l : List S82), (∀ c ∈ l, c.f1.length ≤ 1048576) → markClassS_cnt l ≤ l.length * 1048577
  | [], _ => by simp [markClassS_cnt]
  | x :: xs, h => by
    have ih := cntClass_le xs (fun c hc => h c (List.mem_cons_of_mem _ hc))
    have h1 := h x (by simp)
    simp only [markClassS_cnt, markClassS_cnt1, List.length_cons]
    omega
end Go.Proofs.Ytjmgleomljfieaa.Pure
