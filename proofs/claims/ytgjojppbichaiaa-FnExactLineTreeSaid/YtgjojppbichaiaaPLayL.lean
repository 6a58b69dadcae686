/- FnExactLineTree: the program and the reference lay the same line, and each mark lies. Conditions: none. -/
import Derived.Test.YtgjojppbichaiaaPLay
import Derived.Test.YtgjojppbichaiaaDataN
import Derived.Test.YtgjojppbichaiaaGoodFnExactLineTree
set_option linter.unusedVariables false
set_option linter.unusedSimpArgs false
namespace Go.Proofs.Ytgjojppbichaiaa.Pure
open Go.RowKit Go.Proofs.Ytgjojppbichaiaa.Q Go.Proofs.YtgjojppbichaiaaW.PrintWords Go.Proofs.YtgjojppbichaiaaW.PrintLast Go.Proofs.Ytgjojppbichaiaa.Kit Go.Proofs.Ytgjojppbichaiaa.Wf
def markXC_mk (n : Int) : List S76 → List S76
  | [] => []
  | _ :: xs => ⟨n, n + 1⟩ :: markXC_mk (n + 2) xs
theorem markXC_l0 : ∀ (post pre : List S76) (n : Int), pre.length + post.length ≤ 1048576 → 0 ≤ n → n + 2 * post.length ≤ 4611686018427387904 →
    Ev (fun k => laws_markXCellS.l0 k (pre ++ post) n (pre.length : Int)) (n + 2 * post.length, pre ++ markXC_mk n post)
  | [], pre, n, hb, h0, hn => by
    refine Ev.step (fun k => by simp only [laws_markXCellS.l0]; rw [if_neg (by simp)]) ?_
    simpa [markXC_mk] using Ev.now _
  | x :: post, pre, n, hb, h0, hn => by
    simp only [List.length_cons] at hn hb
    have ih := markXC_l0 post (pre ++ [⟨n, n + 1⟩]) (n + 2) (by simp; omega) (by omega) (by omega)
    have hrd : ∀ y : S76, rd_T76 (pre ++ y :: post) (pre.length : Int) = y := fun y => by unfold rd_T76; rw [Int.toNat_natCast]; exact Kit.getD_at rfl
    have e1 : wrap64 (n + 1) = n + 1 := Kit.w64 (by omega) (by omega)
    have e2 : wrap64 (n + 1 + 1) = n + 2 := (Kit.w64 (by omega) (by omega)).trans (by omega)
    have ew : wrap64 ((pre.length : Int) + 1) = ((pre.length + 1 : Nat) : Int) := Kit.w_succ (by omega)
    refine Ev.step (fun k => by
      simp only [laws_markXCellS.l0]
      rw [if_pos (by simp; omega), if_pos (by omega)]) ?_
    simp only [Option.bind_some, Int.toNat_natCast, Kit.set_mid, hrd, ew, e1, e2]
    have e : n + 2 + 2 * (post.length : Int) = n + 2 * ((x :: post).length : Int) := by simp; omega
    rw [e] at ih
    simpa [markXC_mk] using ih
theorem markXC_ev (l : List S76) (n : Int) (hb : l.length ≤ 1048576) (h0 : 0 ≤ n) (hn : n ≤ 1048576) : Ev (fun k => laws_markXCellS.f k l n) (n + 2 * l.length, markXC_mk n l) := by
  have h := markXC_l0 l [] n (by simpa using hb) h0 (by omega)
  unfold laws_markXCellS.f
  simpa using h
theorem cntLS_le : ∀ (l : List S86), markLStepS_cnt l ≤ l.length * 3
  | [] => by simp [markLStepS_cnt]
  | x :: xs => by
    have ih := cntLS_le xs
    simp only [markLStepS_cnt, markLStepS_cnt1, List.length_cons]
    omega
theorem cntGS_le : ∀ (l : List S63), markGuardS_cnt l ≤ l.length * 4
  | [] => by simp [markGuardS_cnt]
  | x :: xs => by
    have ih := cntGS_le xs
    simp only [markGuardS_cnt, markGuardS_cnt1, List.length_cons]
    omega
theorem heldLS_l0 : ∀ (post pre : List S86) (n : Int), pre.length + post.length ≤ 1048576 → 0 ≤ n → n + 3 * (post.length : Int) ≤ 1000000000 → Ev (fun k => laws_heldLStepS.l0 k (pre ++ markLStepS_mk n post) n (pre.length : Int)) (n + (markLStepS_cnt post : Nat))
  | [], pre, n, hb, h0, h1 => by
    show Ev (fun k => laws_heldLStepS.l0 k (pre ++ []) n (pre.length : Int)) _
    refine Ev.step (fun k => by simp only [laws_heldLStepS.l0]; rw [if_neg (show ¬ ((pre.length : Int) < ((pre ++ ([] : List S86)).length : Int)) by simp)]) ?_
    simpa [markLStepS_cnt] using Ev.now n
  | x :: post, pre, n, hb, h0, h1 => by
    simp only [List.length_cons] at hb h1
    have ih := heldLS_l0 post (pre ++ [markLStepS_one n x]) (n + 3) (by simp; omega) (by omega) (by omega)
    show Ev (fun k => laws_heldLStepS.l0 k (pre ++ markLStepS_one n x :: markLStepS_mk (n + 3) post) n (pre.length : Int)) _
    refine Ev.step (fun k => by
      simp only [laws_heldLStepS.l0]
      rw [if_pos (show (pre.length : Int) < ((pre ++ markLStepS_one n x :: markLStepS_mk (n + 3) post).length : Int) by simp; omega), if_pos (show (0 : Int) ≤ (pre.length : Int) by omega), rdat_T86 rfl, w_succ (by omega)]) ?_
    have e1 : wrap64 (n + 1) = n + 1 := Kit.w64 (by omega) (by omega)
    have e2 : wrap64 (n + 1 + 1) = n + 1 + 1 := Kit.w64 (by omega) (by omega)
    have e3 : wrap64 (n + 1 + 1 + 1) = n + 3 := (Kit.w64 (by omega) (by omega)).trans (by omega)
    rw [e1, e2, e3]
    refine ite_t rfl (ite_t rfl (ite_t rfl ?_))
    have ec : n + ((markLStepS_cnt (x :: post) : Nat) : Int) = n + 3 + ((markLStepS_cnt post : Nat) : Int) := by simp only [markLStepS_cnt, markLStepS_cnt1]; omega
    rw [ec]
    simpa using ih
theorem heldGS_l0 : ∀ (post pre : List S63) (n : Int), pre.length + post.length ≤ 1048576 → 0 ≤ n → n + 4 * (post.length : Int) ≤ 1000000000 → Ev (fun k => laws_heldGuardS.l0 k (pre ++ markGuardS_mk n post) n (pre.length : Int)) (n + (markGuardS_cnt post : Nat))
  | [], pre, n, hb, h0, h1 => by
    show Ev (fun k => laws_heldGuardS.l0 k (pre ++ []) n (pre.length : Int)) _
    refine Ev.step (fun k => by simp only [laws_heldGuardS.l0]; rw [if_neg (show ¬ ((pre.length : Int) < ((pre ++ ([] : List S63)).length : Int)) by simp)]) ?_
    simpa [markGuardS_cnt] using Ev.now n
  | x :: post, pre, n, hb, h0, h1 => by
    simp only [List.length_cons] at hb h1
    have ih := heldGS_l0 post (pre ++ [markGuardS_one n x]) (n + 4) (by simp; omega) (by omega) (by omega)
    show Ev (fun k => laws_heldGuardS.l0 k (pre ++ markGuardS_one n x :: markGuardS_mk (n + 4) post) n (pre.length : Int)) _
    refine Ev.step (fun k => by
      simp only [laws_heldGuardS.l0]
      rw [if_pos (show (pre.length : Int) < ((pre ++ markGuardS_one n x :: markGuardS_mk (n + 4) post).length : Int) by simp; omega), if_pos (show (0 : Int) ≤ (pre.length : Int) by omega), rdat_T63 rfl, w_succ (by omega)]) ?_
    have e1 : wrap64 (n + 1) = n + 1 := Kit.w64 (by omega) (by omega)
    have e2 : wrap64 (n + 1 + 1) = n + 1 + 1 := Kit.w64 (by omega) (by omega)
    have e3 : wrap64 (n + 1 + 1 + 1) = n + 1 + 1 + 1 := Kit.w64 (by omega) (by omega)
    have e4 : wrap64 (n + 1 + 1 + 1 + 1) = n + 4 := (Kit.w64 (by omega) (by omega)).trans (by omega)
    rw [e1, e2, e3, e4]
    refine ite_t rfl (ite_t rfl (ite_t rfl (ite_t rfl ?_)))
    have ec : n + ((markGuardS_cnt (x :: post) : Nat) : Int) = n + 4 + ((markGuardS_cnt post : Nat) : Int) := by simp only [markGuardS_cnt, markGuardS_cnt1]; omega
    rw [ec]
    simpa using ih
theorem heldLined_mk (x : S38) (hs : x.f0.length ≤ 1000000) (hg : x.f1.length ≤ 1000000) : Ev (fun k => laws_heldLined.f k (markLStepS_mk 1 x.f0) (markGuardS_mk (1 + (markLStepS_cnt x.f0 : Nat)) x.f1) 1) (1 + (markLStepS_cnt x.f0 : Nat) + (markGuardS_cnt x.f1 : Nat)) := by
  unfold laws_heldLined.f laws_heldLStepS.f laws_heldGuardS.f
  have h1 := heldLS_l0 x.f0 [] 1 (by simp; omega) (by omega) (by omega)
  have hc := cntLS_le x.f0
  have h2 := heldGS_l0 x.f1 [] (1 + (markLStepS_cnt x.f0 : Nat)) (by simp; omega) (by omega) (by omega)
  refine bind_ev (by simpa using h1) (ite_f (by omega) (bind_ev (by simpa using h2) (ite_f (by omega) (Ev.now _))))
theorem FnExactLineTree (l : List S78) (hp : l.length ≤ maxLen ∧ ∀ x ∈ l, wf_S78 x) : ∃ k, laws_FnExactLineTree.f k l = some true := by
  obtain ⟨z, ⟨k1, hz⟩, hz2⟩ := szXCellS_ok l 1048576 (by omega) (by omega) hp.1
  unfold laws_FnExactLineTree.f
  by_cases h : z < 0
  · exact ⟨k1, if_pos ⟨z, hz k1 (Nat.le_refl _), .inl h⟩⟩
  · have hl := (hz2 (by omega)).2
    have hm : (l.map cv_S78).length ≤ 1048576 := by simpa using hl
    obtain ⟨k2, ht⟩ := toXCellS_ev l hl
    obtain ⟨k3, h1⟩ := spec_lineOf (l.map cv_S78) hm
    obtain ⟨k4, h2⟩ := impl_lineOf (l.map cv_S78)
    have ho := lineOf_len (l.map cv_S78)
    generalize lineOf (l.map cv_S78) = r at h1 h2 ho
    obtain ⟨S, G, b⟩ := r
    simp only at ho
    obtain ⟨k5, he⟩ := eqLined_ev ⟨S, G⟩ ⟨by simp only; omega, by simp only; omega⟩
    obtain ⟨k6, hx⟩ := eqXCellS_ev (l.map cv_S78) hm
    obtain ⟨k7, hk⟩ := markXC_ev (l.map cv_S78) 1 hm (by omega) (by omega)
    have hc := cntLS_le S
    have hc' := cntGS_le G
    obtain ⟨k8, hh⟩ := heldLined_mk ⟨S, G⟩ (by simp only; omega) (by simp only; omega)
    generalize hk' : k1 + k2 + k3 + k4 + k5 + k6 + k7 + k8 = k
    exact ⟨k, if_pos ⟨z, hz k (by omega), .inr ⟨h, _, ht k (by omega), _, _, _, h1 k (by omega), _, ht k (by omega), _, _, h2 k (by omega), he k (by omega), _, ht k (by omega), hx k (by omega), _, _, hk k (by omega), by omega, he k (by omega), by omega, hh k (by omega),
      _, ht k (by omega), _, _, h2 k (by omega), he k (by omega), hh k (by omega), trivial⟩⟩⟩
end Go.Proofs.Ytgjojppbichaiaa.Pure
