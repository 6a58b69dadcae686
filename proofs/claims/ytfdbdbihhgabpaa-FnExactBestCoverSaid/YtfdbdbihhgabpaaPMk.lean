/- Marks of pieces and patterns. Conditions: none. -/
import Derived.Test.YtfdbdbihhgabpaaDataN
import Derived.Test.YtfdbdbihhgabpaaQx0
import Derived.Test.YtfdbdbihhgabpaaQx8
set_option linter.unusedVariables false
set_option linter.unusedSimpArgs false
set_option linter.unusedSectionVars false
namespace Go.Proofs.Ytfdbdbihhgabpaa.Pure
open Go.RowKit Go.Proofs.Ytfdbdbihhgabpaa.Q Go.Proofs.YtfdbdbihhgabpaaW.PrintWords Go.Proofs.YtfdbdbihhgabpaaW.PrintLast Go.Proofs.Ytfdbdbihhgabpaa.Kit Go.Proofs.Ytfdbdbihhgabpaa.Wf

def mkP : Int → List S63 → List S63
  | _, [] => []
  | n, _ :: xs => ⟨n, n + 1⟩ :: mkP (n + 2) xs
theorem markPieceS_l0 : ∀ (post pre : List S63) (n : Int), pre.length + post.length ≤ 1048576 → 0 ≤ n → n + 2 * post.length < 2305843009213693952 →
    Ev (fun k => laws_markPieceS.l0 k (pre ++ post) n (pre.length : Int)) (n + 2 * (post.length : Nat), pre ++ mkP n post)
  | [], pre, n, hb, h0, hn => by
    refine Ev.step (fun k => by simp only [laws_markPieceS.l0]; rw [if_neg (by simp)]) ?_
    simpa [mkP] using Ev.now _
  | x :: post, pre, n, hb, h0, hn => by
    simp only [List.length_cons] at hb hn
    have ih := markPieceS_l0 post (pre ++ [⟨n, n + 1⟩]) (n + 2) (by simp; omega) (by omega) (by omega)
    have e1 : wrap64 (n + 1) = n + 1 := w64 (by omega) (by omega)
    have e2 : wrap64 (n + 1 + 1) = n + 2 := by rw [w64 (by omega) (by omega)]; omega
    refine Ev.step (fun k => by
      simp only [laws_markPieceS.l0]
      rw [if_pos (by simp; omega), if_pos (by omega)]) ?_
    refine bind_ev (Ev.now _) ?_
    simp only [rdat_T63 (pre := pre) (post := post) rfl, Int.toNat_natCast, set_at (n := pre.length) (pre := pre) rfl, e1, e2, w_succ (n := pre.length) (by omega)]
    have e3 : n + 2 * (((x :: post).length : Nat) : Int) = n + 2 + 2 * (post.length : Nat) := by simp; omega
    rw [e3]
    simpa [mkP] using ih
theorem markPieceS_ev (l : List S63) (hb : l.length ≤ 1048576) : Ev (fun k => laws_markPieceS.f k l 1) (1 + 2 * (l.length : Nat), mkP 1 l) := by
  have h := markPieceS_l0 l [] 1 (by simpa using hb) (by omega) (by omega)
  unfold laws_markPieceS.f
  simpa using h
theorem heldPieceS_l0 : ∀ (post pre : List S63) (n : Int), pre.length + post.length ≤ 1048576 → 0 ≤ n → n + 2 * post.length < 2305843009213693952 →
    Ev (fun k => laws_heldPieceS.l0 k (pre ++ mkP n post) n (pre.length : Int)) (n + 2 * (post.length : Nat))
  | [], pre, n, hb, h0, hn => by
    refine Ev.step (fun k => by simp only [laws_heldPieceS.l0]; rw [if_neg (by simp [mkP])]) ?_
    simpa [mkP] using Ev.now _
  | x :: post, pre, n, hb, h0, hn => by
    simp only [List.length_cons] at hb hn
    have ih := heldPieceS_l0 post (pre ++ [⟨n, n + 1⟩]) (n + 2) (by simp; omega) (by omega) (by omega)
    have e1 : wrap64 (n + 1) = n + 1 := w64 (by omega) (by omega)
    have e2 : wrap64 (n + 1 + 1) = n + 2 := by rw [w64 (by omega) (by omega)]; omega
    simp only [mkP]
    refine Ev.step (fun k => by
      simp only [laws_heldPieceS.l0]
      rw [if_pos (by simp; omega), if_pos (by omega), rdat_T63 rfl, if_pos rfl, if_pos e1.symm, e1, e2, w_succ (by omega)]) ?_
    have e3 : n + 2 * (((x :: post).length : Nat) : Int) = n + 2 + 2 * (post.length : Nat) := by simp; omega
    rw [e3]
    simpa [mkP] using ih
theorem heldPieceS_ev (l : List S63) (hb : l.length ≤ 1048576) : Ev (fun k => laws_heldPieceS.f k (mkP 1 l) 1) (1 + 2 * (l.length : Nat)) := by
  have h := heldPieceS_l0 l [] 1 (by simpa using hb) (by omega) (by omega)
  unfold laws_heldPieceS.f
  simpa using h
theorem cntPat_le : ∀ (l : List S57), (∀ c ∈ l, c.f0.length ≤ 1048576) → markPatternS_cnt l ≤ l.length * 1048577
  | [], _ => by simp [markPatternS_cnt]
  | x :: xs, h => by
    have ih := cntPat_le xs (fun c hc => h c (List.mem_cons_of_mem _ hc))
    have h1 := h x (by simp)
    simp only [markPatternS_cnt, markPatternS_cnt1, List.length_cons]
    omega
theorem cvP_bd (l : List S52) (h : l.length ≤ 1048576 ∧ ∀ x ∈ l, bd_S52 x) : (l.map cv_S52).length ≤ 1048576 ∧ ∀ x ∈ l.map cv_S52, bd_S57 x := by
  refine ⟨by simpa using h.1, ?_⟩
  intro c hc
  simp only [List.mem_map] at hc
  obtain ⟨a, ha, rfl⟩ := hc
  exact h.2 a ha
end Go.Proofs.Ytfdbdbihhgabpaa.Pure
