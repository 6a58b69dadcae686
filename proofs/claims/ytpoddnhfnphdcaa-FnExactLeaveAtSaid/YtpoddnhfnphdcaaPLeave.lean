/- LeaveAt: the program and the reference make the same frame; what is handed back is held as it was marked. Conditions: none. -/
import Derived.Test.YtpoddnhfnphdcaaPLv
import Derived.Test.YtpoddnhfnphdcaaGoodFnExactLeaveAt
import Derived.Test.YtpoddnhfnphdcaaQx0
import Derived.Test.YtpoddnhfnphdcaaQx8
set_option linter.unusedVariables false
set_option linter.unusedSimpArgs false
namespace Go.Proofs.Ytpoddnhfnphdcaa.Pure
open Go.RowKit Go.Proofs.Ytpoddnhfnphdcaa.Q Go.Proofs.YtpoddnhfnphdcaaW.PrintWords Go.Proofs.YtpoddnhfnphdcaaW.PrintLast Go.Proofs.Ytpoddnhfnphdcaa.Kit Go.Proofs.Ytpoddnhfnphdcaa.Wf
theorem cntLocS (l : List S79) : markLocS_cnt l = 2 * l.length := by
  induction l with
  | nil => rfl
  | cons x xs ih => simp only [markLocS_cnt, markLocS_cnt1, List.length_cons, ih]; omega
theorem cntLocSS : ∀ (l : List (List S79)), (∀ m ∈ l, m.length ≤ 1048576) → markLocSS_cnt l ≤ l.length * 2097152
  | [], _ => by simp [markLocSS_cnt]
  | x :: xs, h => by
    have ih := cntLocSS xs (fun c hc => h c (List.mem_cons_of_mem _ hc))
    have h1 := h x (by simp)
    simp only [markLocSS_cnt, markLocSS_cnt1, List.length_cons, cntLocS]
    omega
theorem cntInstr (l : List S91) : markInstrS_cnt l = 5 * l.length := by
  induction l with
  | nil => rfl
  | cons x xs ih => simp only [markInstrS_cnt, markInstrS_cnt1, List.length_cons, ih]; omega
theorem rdL_len (maps : List (List S79)) (k : Int) (h : ∀ m ∈ maps, m.length ≤ 1048576) : (rd_L11 maps k).length ≤ 1048576 := by
  unfold rd_L11
  rw [List.getD_eq_getElem?_getD]
  cases e : maps[k.toNat]? with
  | none => simp
  | some m => simpa using h m (List.mem_of_getElem? e)
theorem heldFrame_ev (a b c : Nat) (ha : a ≤ 1048576) (hb : b ≤ 1048576) (hc : c ≤ 1048576) :
    Ev (fun k => laws_heldFrame.f k (Kit.from_ 1 a) (Kit.from_ (1 + (a : Nat)) b) (Kit.from_ (1 + (a : Nat) + (b : Nat)) c) 1) (1 + (a : Nat) + (b : Nat) + (c : Nat) : Int) := by
  unfold laws_heldFrame.f
  refine bind_ev (heldIntS_ev a 1 (by omega) (by omega) (by omega)) (ite_f (by omega) ?_)
  refine bind_ev (heldIntS_ev b (1 + (a : Int)) (by omega) (by omega) (by omega)) (ite_f (by omega) ?_)
  exact bind_ev (heldIntS_ev c (1 + (a : Int) + (b : Int)) (by omega) (by omega) (by omega)) (ite_f (by omega) (Ev.now _))
theorem leaveO_len (maps : List (List S79)) (k : Int) (vars t : List Int) (hm : (rd_L11 maps k).length ≤ 1048576) (hv : vars.length ≤ 1048576) (ht : t.length ≤ 1048576) :
    (leaveO maps k vars t).1.length ≤ 1048576 ∧ (leaveO maps k vars t).2.1.length ≤ 1048576 ∧ (leaveO maps k vars t).2.2.1.length ≤ 1048576 := by
  unfold leaveO
  split
  · exact ⟨by simp; omega, by simpa using hm, ht⟩
  · simp
theorem FnExactLeaveAt (y : S48) (hp : wf_S48 y) (a : Int) (_ : (Lit.int .i64 a).wf = true) (l2 : List Int) (hp2 : (l2.length ≤ maxLen ∧ ∀ x ∈ l2, (Lit.int .i64 x).wf = true)) (l3 : List Int) (hp3 : (l3.length ≤ maxLen ∧ ∀ x ∈ l3, (Lit.int .i64 x).wf = true)) : ∃ k, laws_FnExactLeaveAt.f k y.f0 y.f1 y.f2 a l2 l3 = some true := by
  unfold laws_FnExactLeaveAt.f
  by_cases g2 : 1048576 < (l2.length : Int)
  · exact ⟨0, if_pos (.inl g2)⟩
  by_cases g3 : 1048576 < (l3.length : Int)
  · exact ⟨0, if_pos (.inr ⟨g2, .inl g3⟩)⟩
  obtain ⟨z, ⟨k1, hz⟩, hz2⟩ := szTranslated_ok y 1048576 (by omega) (by omega) hp
  by_cases h : z < 0
  · exact ⟨k1, if_pos (.inr ⟨g2, .inr ⟨g3, z, hz k1 (Nat.le_refl _), .inl h⟩⟩)⟩
  · have hl := (hz2 (by omega)).2
    have hb : bd_S55 (cv_S48 y) := by
      obtain ⟨q0, q1, q2, q3⟩ := hl
      refine ⟨by simpa [cv_S48] using q0, q1, by simpa [cv_S48] using q2, ?_⟩
      intro m hm
      simp only [cv_S48, List.mem_map] at hm
      obtain ⟨m0, hm0, rfl⟩ := hm
      simpa using q3 m0 hm0
    have hl2 : l2.length ≤ 1048576 := by omega
    have hl3 : l3.length ≤ 1048576 := by omega
    have hm := rdL_len (cv_S48 y).f2 a hb.2.2.2
    obtain ⟨k2, ht⟩ := toTranslated_ev y hl
    obtain ⟨k3, t2⟩ := toIntS_ev l2 hl2
    obtain ⟨k4, t3⟩ := toIntS_ev l3 hl3
    obtain ⟨k5, s1⟩ := spec_leaveAt (cv_S48 y).f0 (cv_S48 y).f1 (cv_S48 y).f2 a l2 l3 hm hl2 hl3
    obtain ⟨k6, i1⟩ := impl_leaveAt (cv_S48 y).f0 (cv_S48 y).f1 (cv_S48 y).f2 a l2 l3 hb.2.2.1 hm hl3
    have ho := leaveO_len (cv_S48 y).f2 a l2 l3 hm hl2 hl3
    generalize leaveO (cv_S48 y).f2 a l2 l3 = o at s1 i1 ho
    obtain ⟨oa, ob, oc, od⟩ := o
    simp only at ho
    obtain ⟨k7, e1⟩ := eqFrame_ev ⟨oa, ob, oc⟩ ho
    obtain ⟨k8, e2⟩ := eqTranslated_ev _ hb
    obtain ⟨k9, e3⟩ := eqIntS_ev l2 hl2
    obtain ⟨k10, e4⟩ := eqIntS_ev l3 hl3
    have c1 := cntInstr (cv_S48 y).f0
    have c2 := cntLocSS (cv_S48 y).f2 hb.2.2.2
    have hb0 := hb.1
    have hb1 := hb.2.1
    have hb2 := hb.2.2.1
    have hc2 : (1 + (markInstrS_cnt (cv_S48 y).f0 : Nat) + ((cv_S48 y).f1.length : Nat) + (markLocSS_cnt (cv_S48 y).f2 : Nat) : Int) < 2305843009213693952 := by omega
    obtain ⟨k11, m1⟩ := markIntS_ev l2 (1 + (markInstrS_cnt (cv_S48 y).f0 : Nat) + ((cv_S48 y).f1.length : Nat) + (markLocSS_cnt (cv_S48 y).f2 : Nat)) (by omega) (by omega) (by omega)
    obtain ⟨k12, m2⟩ := markIntS_ev l3 (1 + (markInstrS_cnt (cv_S48 y).f0 : Nat) + ((cv_S48 y).f1.length : Nat) + (markLocSS_cnt (cv_S48 y).f2 : Nat) + (l2.length : Nat)) (by omega) (by omega) (by omega)
    obtain ⟨k13, hf⟩ := heldFrame_ev oa.length ob.length oc.length ho.1 ho.2.1 ho.2.2
    have hc3 : (1 + (oa.length : Nat) + (ob.length : Nat) + (oc.length : Nat) : Int) < 2305843009213693952 := by omega
    generalize hk' : k1 + k2 + k3 + k4 + k5 + k6 + k7 + k8 + k9 + k10 + k11 + k12 + k13 = k
    exact ⟨k, if_pos (.inr ⟨g2, .inr ⟨g3, z, hz k (by omega), .inr ⟨h, _, _, _, ht k (by omega), _, t2 k (by omega), _, t3 k (by omega), _, _, _, _, s1 k (by omega),
      _, _, _, ht k (by omega), _, t2 k (by omega), _, t3 k (by omega), _, _, _, i1 k (by omega), e1 k (by omega),
      _, _, _, ht k (by omega), e2 k (by omega), _, t2 k (by omega), e3 k (by omega), _, t3 k (by omega), e4 k (by omega), hc2, _, _, m1 k (by omega), by omega, _, _, m2 k (by omega), by omega, e1 k (by omega), hc3, hf k (by omega),
      _, _, _, ht k (by omega), _, t2 k (by omega), _, t3 k (by omega), _, _, _, i1 k (by omega), e1 k (by omega), hf k (by omega), trivial⟩⟩⟩)⟩
end Go.Proofs.Ytpoddnhfnphdcaa.Pure
