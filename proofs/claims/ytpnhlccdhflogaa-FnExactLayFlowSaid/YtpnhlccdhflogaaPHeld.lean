/- Marks of blocks. Conditions: none. -/
import Derived.Test.YtpnhlccdhflogaaDataN
import Derived.Test.YtpnhlccdhflogaaQx0
import Derived.Test.YtpnhlccdhflogaaQx8
set_option linter.unusedVariables false
set_option linter.unusedSimpArgs false
set_option linter.unusedSectionVars false
namespace Go.Proofs.Ytpnhlccdhflogaa.Pure
open Go.RowKit Go.Proofs.Ytpnhlccdhflogaa.Q Go.Proofs.YtpnhlccdhflogaaW.PrintWords Go.Proofs.YtpnhlccdhflogaaW.PrintLast Go.Proofs.Ytpnhlccdhflogaa.Kit Go.Proofs.Ytpnhlccdhflogaa.Wf

theorem cntI_eq : ∀ (l : List S130), markInstrS_cnt l = 5 * l.length
  | [] => rfl
  | x :: xs => by
    simp only [markInstrS_cnt, markInstrS_cnt1, List.length_cons, cntI_eq xs]; omega
theorem markI_len : ∀ (l : List S130) (n : Int), (markInstrS_mk n l).length = l.length
  | [], _ => rfl
  | x :: xs, n => by simp [markInstrS_mk, markI_len xs]
theorem markB_len : ∀ (l : List S99) (n : Int), (markBlockS_mk n l).length = l.length
  | [], _ => rfl
  | x :: xs, n => by simp [markBlockS_mk, markB_len xs]
theorem heldI_l0 : ∀ (post pre : List S130) (n : Int), pre.length + post.length ≤ 1048576 → 0 ≤ n → n + 5 * post.length < 1152921504606846976 →
    Ev (fun k => laws_heldInstrS.l0 k (pre ++ markInstrS_mk n post) n (pre.length : Int)) (n + 5 * (post.length : Nat))
  | [], pre, n, hb, h0, hn => by
    refine Ev.step (fun k => by simp only [laws_heldInstrS.l0]; rw [if_neg (by simp [markInstrS_mk])]) ?_
    exact some_ev (by simp)
  | x :: post, pre, n, hb, h0, hn => by
    simp only [List.length_cons] at hb hn
    have e1 : wrap64 (n + 1) = n + 1 := w64 (by omega) (by omega)
    have e2 : wrap64 (n + 1 + 1) = n + 1 + 1 := w64 (by omega) (by omega)
    have e3 : wrap64 (n + 1 + 1 + 1) = n + 1 + 1 + 1 := w64 (by omega) (by omega)
    have e4 : wrap64 (n + 1 + 1 + 1 + 1) = n + 1 + 1 + 1 + 1 := w64 (by omega) (by omega)
    have e5 : wrap64 (n + 1 + 1 + 1 + 1 + 1) = n + 5 := by rw [w64 (by omega) (by omega)]; omega
    have ih := heldI_l0 post (pre ++ [markInstrS_one n x]) (n + 5) (by simp; omega) (by omega) (by omega)
    simp only [markInstrS_mk]
    have hr : rd_T130 (pre ++ markInstrS_one n x :: markInstrS_mk (n + (markInstrS_cnt1 x : Nat)) post) (pre.length : Int) = markInstrS_one n x := rdat_T130 rfl
    refine Ev.step (fun k => by
      simp only [laws_heldInstrS.l0]
      rw [if_pos (by simp; omega), if_pos (by omega), hr, w_succ (n := pre.length) (by omega)]) ?_
    simp only [markInstrS_one, e1, e2, e3, e4, e5]
    refine ite_t trivial (ite_t trivial (ite_t trivial (ite_t trivial (ite_t trivial ?_))))
    have e6 : n + 5 * (((x :: post).length : Nat) : Int) = n + 5 + 5 * (post.length : Nat) := by simp; omega
    rw [e6]
    simpa [markInstrS_one, markInstrS_cnt1] using ih
theorem heldI_ev (l : List S130) (n : Int) (hb : l.length ≤ 1048576) (h0 : 0 ≤ n) (hn : n + 5 * l.length < 1152921504606846976) : Ev (fun k => laws_heldInstrS.f k (markInstrS_mk n l) n) (n + (markInstrS_cnt l : Nat)) := by
  have h := heldI_l0 l [] n (by simpa using hb) h0 hn
  unfold laws_heldInstrS.f
  rw [cntI_eq]
  have e : n + ((5 * l.length : Nat) : Int) = n + 5 * (l.length : Nat) := by omega
  rw [e]
  simpa using h
theorem cntB_le : ∀ (l : List S99), (∀ b ∈ l, b.f0.length ≤ 1048576) → markBlockS_cnt l ≤ l.length * 5242883
  | [], _ => by simp [markBlockS_cnt]
  | x :: xs, h => by
    have ih := cntB_le xs (fun c hc => h c (List.mem_cons_of_mem _ hc))
    have h1 := h x (by simp)
    simp only [markBlockS_cnt, markBlockS_cnt1, List.length_cons, cntI_eq]
    omega
theorem heldB_l0 : ∀ (post pre : List S99) (n : Int), pre.length + post.length ≤ 1048576 → (∀ b ∈ post, b.f0.length ≤ 1048576) → 0 ≤ n → n + (markBlockS_cnt post : Nat) < 1152921504606846976 →
    Ev (fun k => laws_heldBlockS.l0 k (pre ++ markBlockS_mk n post) n (pre.length : Int)) (n + (markBlockS_cnt post : Nat))
  | [], pre, n, hb, hm, h0, hn => by
    refine Ev.step (fun k => by simp only [laws_heldBlockS.l0]; rw [if_neg (by simp [markBlockS_mk])]) ?_
    exact some_ev (by simp [markBlockS_cnt])
  | x :: post, pre, n, hb, hm, h0, hn => by
    simp only [List.length_cons] at hb
    simp only [markBlockS_cnt, markBlockS_cnt1] at hn
    have hx := hm x (by simp)
    have hi := cntI_eq x.f0
    have e0 : ∀ m : Int, 0 ≤ m → m < 1152921504606846976 → wrap64 (m + 1) = m + 1 := fun m h1 h2 => w64 (by omega) (by omega)
    have ih := heldB_l0 post (pre ++ [markBlockS_one n x]) (n + (markBlockS_cnt1 x : Nat)) (by simp; omega) (fun b hb => hm b (by simp [hb])) (by omega) (by simp only [markBlockS_cnt1]; omega)
    simp only [markBlockS_mk]
    have hr : rd_T99 (pre ++ markBlockS_one n x :: markBlockS_mk (n + (markBlockS_cnt1 x : Nat)) post) (pre.length : Int) = markBlockS_one n x := rdat_T99 rfl
    refine Ev.step (fun k => by
      simp only [laws_heldBlockS.l0]
      rw [if_pos (by simp; omega), if_pos (by omega), hr, w_succ (n := pre.length) (by omega)]) ?_
    simp only [markBlockS_one]
    refine bind_ev (heldI_ev x.f0 n hx h0 (by omega)) (ite_f (by omega) (ite_t rfl ?_))
    rw [e0 _ (by omega) (by omega)]
    refine ite_t rfl ?_
    rw [e0 _ (by omega) (by omega)]
    refine ite_t rfl ?_
    rw [e0 _ (by omega) (by omega)]
    have e6 : n + ((markBlockS_cnt (x :: post) : Nat) : Int) = n + (markBlockS_cnt1 x : Nat) + (markBlockS_cnt post : Nat) := by simp [markBlockS_cnt]; omega
    have e7 : n + ((markBlockS_cnt1 x : Nat) : Int) = n + ((markInstrS_cnt x.f0 : Nat) : Int) + 1 + 1 + 1 := by simp [markBlockS_cnt1]; omega
    rw [e6]
    rw [e7] at ih ⊢
    simpa [markBlockS_one] using ih
theorem heldB_ev (l : List S99) (hb : l.length ≤ 1048576) (hm : ∀ b ∈ l, b.f0.length ≤ 1048576) : Ev (fun k => laws_heldBlockS.f k (markBlockS_mk 1 l) 1) (1 + (markBlockS_cnt l : Nat)) := by
  have hc := cntB_le l hm
  have h := heldB_l0 l [] 1 (by simpa using hb) hm (by omega) (by omega)
  unfold laws_heldBlockS.f
  simpa using h
theorem cvB_bd (l : List S95) (h : l.length ≤ 1048576 ∧ ∀ x ∈ l, bd_S95 x) : (l.map cv_S95).length ≤ 1048576 ∧ ∀ x ∈ l.map cv_S95, bd_S99 x := by
  refine ⟨by simpa using h.1, ?_⟩
  intro c hc
  simp only [List.mem_map] at hc
  obtain ⟨a, ha, rfl⟩ := hc
  obtain ⟨h1, _⟩ := h.2 a ha
  exact ⟨by simpa [cv_S95] using h1, trivial, trivial, trivial⟩
end Go.Proofs.Ytpnhlccdhflogaa.Pure
