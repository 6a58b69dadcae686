/- Layouts: both lay out alike. Conditions: none. -/
import Derived.Test.YtpnhlccdhflogaaPCl
import Derived.Test.YtpnhlccdhflogaaQx0
import Derived.Test.YtpnhlccdhflogaaQx4
import Derived.Test.YtpnhlccdhflogaaQx6
import Derived.Test.YtpnhlccdhflogaaQx7
set_option linter.unusedVariables false
set_option linter.unusedSimpArgs false
set_option linter.unusedSectionVars false
namespace Go.Proofs.Ytpnhlccdhflogaa.Pure
open Go.RowKit Go.Proofs.Ytpnhlccdhflogaa.Q Go.Proofs.YtpnhlccdhflogaaW.PrintWords Go.Proofs.YtpnhlccdhflogaaW.PrintLast Go.Proofs.Ytpnhlccdhflogaa.Kit Go.Proofs.Ytpnhlccdhflogaa.Wf
theorem has_l0 (l : List Int) (x : Int) (hb : l.length ≤ 1048576) : ∀ (post pre : List Int), l = pre ++ post → Ev (fun k => spec_l1Has.l0 k x l (l.length : Int) (pre.length : Int)) (hasI post x)
  | [], pre, h => by
    have hn : l.length = pre.length := by rw [h]; simp
    refine Ev.step (fun k => by simp only [spec_l1Has.l0]; rw [if_neg (by omega)]) ?_
    exact some_ev (by simp [hasI])
  | y :: post, pre, h => by
    have hn : l.length = pre.length + (post.length + 1) := by rw [h]; simp
    have hrd : rd l (pre.length : Int) = y := by rw [h]; exact rd_at rfl
    refine Ev.step (fun k => by simp only [spec_l1Has.l0]; rw [if_pos (show (pre.length : Int) < (l.length : Int) by omega), if_pos (show (0 : Int) ≤ (pre.length : Int) by omega), if_pos (show (pre.length : Int) < (l.length : Int) by omega), hrd, w_succ (by omega)]) ?_
    by_cases hy : y = x
    · exact ite_t hy (some_ev (by simp [hasI, hy]))
    · refine ite_f hy ?_
      have ih := has_l0 l x hb post (pre ++ [y]) (by rw [h]; simp)
      have e : hasI (y :: post) x = hasI post x := by simp [hasI, Ne.symm hy]
      rw [e]
      simpa using ih
theorem has_ev (l : List Int) (x : Int) (hb : l.length ≤ 1048576) : Ev (fun k => spec_l1Has.f k l x) (hasI l x) := by
  have := has_l0 l x hb l [] rfl
  unfold spec_l1Has.f
  simpa using this
theorem lay_l2 (es : List S48) (h20 : es.length ≤ 20) (hc : ∀ e ∈ es, 0 ≤ e.f2 ∧ e.f2 ≤ 100000) (out c : List Int) (ho : out.length ≤ 1000) (hcl : c.length ≤ 1000) (L : List (List Int)) (best most i : Int) (r : List Int × Bool) : ∀ (post pre : List S48) (s : Int), es = pre ++ post → 0 ≤ s → s ≤ 100000 * (pre.length : Int) →
    Ev (fun k => if sumF out c post s > most then spec_LayOut.l1 k es out L i (sumF out c post s) L (L.length : Int) (wrap64 (i + 1)) else spec_LayOut.l1 k es out L best most L (L.length : Int) (wrap64 (i + 1))) r →
    Ev (fun k => spec_LayOut.l2 k es out L best most i c s L (L.length : Int) i es (es.length : Int) (pre.length : Int)) r
  | [], pre, s, h, h0, h1, hr => by
    have hn : es.length = pre.length := by rw [h]; simp
    refine Ev.step (fun k => by simp only [spec_LayOut.l2]; rw [if_neg (by omega)]) ?_
    exact hr
  | e :: post, pre, s, h, h0, h1, hr => by
    have hn : es.length = pre.length + (post.length + 1) := by rw [h]; simp
    have hrd : rd_T48 es (pre.length : Int) = e := by rw [h]; exact rdat_T48 rfl
    have he := hc e (by rw [h]; simp)
    have ih := fun s => lay_l2 es h20 hc out c ho hcl L best most i r post (pre ++ [e]) s (by rw [h]; simp)
    have e3 : (pre ++ [e]).length = pre.length + 1 := by simp
    simp only [e3] at ih
    rw [sumF_cons] at hr
    refine Ev.step (fun k => by simp only [spec_LayOut.l2]; rw [if_pos (show (pre.length : Int) < (es.length : Int) by omega), if_pos (show (0 : Int) ≤ (pre.length : Int) by omega), if_pos (show (pre.length : Int) < (es.length : Int) by omega), hrd, w_succ (by omega), w64 (x := s + e.f2) (by omega) (by omega)]) ?_
    refine bind_ev (has_ev out e.f0 (by omega)) ?_
    cases ha : hasI out e.f0 with
    | false =>
      rw [ha, if_neg (by simp)] at hr
      exact ite_f (by simp) (ih s h0 (by omega) hr)
    | true =>
      refine ite_t rfl (bind_ev (has_ev c e.f1 (by omega)) ?_)
      cases hb : hasI c e.f1 with
      | false =>
        rw [ha, hb, if_neg (by simp)] at hr
        exact ite_f (by simp) (ih s h0 (by omega) hr)
      | true =>
        rw [ha, hb, if_pos ⟨rfl, rfl⟩] at hr
        exact ite_t rfl (ih (s + e.f2) (by omega) (by omega) hr)
theorem sumF_pos (out c : List Int) : ∀ (es : List S48) (s : Int), (∀ e ∈ es, 0 ≤ e.f2 ∧ e.f2 ≤ 100000) → 0 ≤ s → 0 ≤ sumF out c es s
  | [], s, _, h => h
  | e :: es, s, hc, h => by
    rw [sumF_cons]
    have he := hc e (by simp)
    split
    · exact sumF_pos out c es _ (fun y hy => hc y (by simp [hy])) (by omega)
    · exact sumF_pos out c es _ (fun y hy => hc y (by simp [hy])) h
/-- The end of a scan: the next chain is laid. -/
def layEnd (k : Nat) (es : List S48) (out : List Int) (L : List (List Int)) (x9 : Int) : Option (List Int × Bool) := if 0 ≤ x9 then (if x9 < (L.length : Int) then (if out.length + (rd_L5 L x9).length < 17592186044416 then ((some (([] : List (List Int)) : List (List Int))).bind fun y223 => (if x9 ≤ (L.length : Int) then ((some (L.take (x9 : Int).toNat : List (List Int))).bind fun y226 => (if y223.length + y226.length < 5864062014805 then ((some (y223 ++ y226 : List (List Int))).bind fun y231 => (if 0 ≤ (wrap64 (x9 + 1)) then (if (wrap64 (x9 + 1)) ≤ (L.length : Int) then ((some (L.drop ((wrap64 (x9 + 1)) : Int).toNat : List (List Int))).bind fun y234 => (if y231.length + y234.length < 5864062014805 then (spec_LayOut.l0 k es (out ++ (rd_L5 L x9)) (y231 ++ y234)) else (none))) else (none)) else (none))) else (none))) else (none))) else (none)) else (none)) else (none)
theorem lay_end {es : List S48} {out : List Int} {L : List (List Int)} {b : Nat} (hb : b < L.length) (hL : L.length ≤ 1000) (ho : out.length + (rd_L5 L (b : Int)).length ≤ 1000) {r : List Int × Bool} (hr : Ev (fun k => spec_LayOut.l0 k es (out ++ rd_L5 L (b : Int)) (L.eraseIdx b)) r) : Ev (fun k => layEnd k es out L (b : Int)) r := by
  obtain ⟨K, hK⟩ := hr
  refine ⟨K, fun k hk => ?_⟩
  have e : ([] ++ L.take (b : Int).toNat : List (List Int)) ++ L.drop ((b + 1 : Nat) : Int).toNat = L.eraseIdx b := by
      rw [Int.toNat_natCast, Int.toNat_natCast, List.nil_append, List.eraseIdx_eq_take_drop_succ]
  have q2 : ([] : List (List Int)).length + (L.take (b : Int).toNat).length < 5864062014805 := by rw [List.length_nil, List.length_take]; omega
  have q3 : (([] : List (List Int)) ++ L.take (b : Int).toNat).length + (L.drop ((b + 1 : Nat) : Int).toNat).length < 5864062014805 := by rw [List.length_append, List.length_nil, List.length_take, List.length_drop]; omega
  have q4 : out.length + (rd_L5 L (b : Int)).length < 17592186044416 := by omega
  show layEnd k es out L (b : Int) = some r
  unfold layEnd
  rw [w_succ (n := b) (by omega), if_pos (show (0 : Int) ≤ (b : Int) by omega), if_pos (show (b : Int) < (L.length : Int) by omega), if_pos q4, Option.bind_some, if_pos (show (b : Int) ≤ (L.length : Int) by omega), Option.bind_some, if_pos q2, Option.bind_some, if_pos (show (0 : Int) ≤ ((b + 1 : Nat) : Int) by omega), if_pos (show ((b + 1 : Nat) : Int) ≤ (L.length : Int) by omega), Option.bind_some, if_pos q3, e]
  exact hK k hk
theorem lay_l1 (es : List S48) (h20 : es.length ≤ 20) (hc : ∀ e ∈ es, 0 ≤ e.f2 ∧ e.f2 ≤ 100000) (out : List Int) (ho : out.length ≤ 1000) (L : List (List Int)) (hL : L.length ≤ 1000) (hLe : ∀ c ∈ L, c.length ≤ 1000) (r : List Int × Bool) : ∀ (post pre : List (List Int)) (b : Nat) (m : Int), L = pre ++ post →
    Ev (fun k => layEnd k es out L (scanL out es post pre.length b m : Nat)) r →
    Ev (fun k => spec_LayOut.l1 k es out L (b : Int) m L (L.length : Int) (pre.length : Int)) r
  | [], pre, b, m, h, hr => by
    have hn : L.length = pre.length := by rw [h]; simp
    refine Ev.step (fun k => by simp only [spec_LayOut.l1]; rw [if_neg (show ¬ (pre.length : Int) < (L.length : Int) by omega)]) ?_
    exact hr
  | c :: post, pre, b, m, h, hr => by
    have hn : L.length = pre.length + (post.length + 1) := by rw [h]; simp
    have hrd : rd_L5 L (pre.length : Int) = c := by rw [h]; exact rdL5_at rfl
    have hcl := hLe c (by rw [h]; simp)
    have ih := fun b m => lay_l1 es h20 hc out ho L hL hLe r post (pre ++ [c]) b m (by rw [h]; simp)
    have e3 : (pre ++ [c]).length = pre.length + 1 := by simp
    simp only [e3] at ih
    refine Ev.step (fun k => by simp only [spec_LayOut.l1]; rw [if_pos (show (pre.length : Int) < (L.length : Int) by omega), if_pos (show (0 : Int) ≤ (pre.length : Int) by omega), if_pos (show (pre.length : Int) < (L.length : Int) by omega), hrd]) ?_
    have := lay_l2 es h20 hc out c ho hcl L (b : Int) m (pre.length : Int) r es [] 0 rfl (by omega) (by simp) (by
      rw [w_succ (by omega)]
      by_cases hg : m < sumF out c es 0
      · rw [scanL_gt rfl hg] at hr
        exact ite_t hg (ih _ _ hr)
      · rw [scanL_le rfl hg] at hr
        exact ite_f hg (ih _ _ hr))
    simpa using this
theorem layR_len (l : List S48) : ∀ (n : Nat) (out : List Int) (L : List (List Int)), L.length = n → (layR l n out L).length = out.length + L.flatten.length
  | 0, out, L, h => by
    rw [List.eq_nil_of_length_eq_zero h]
    rfl
  | n + 1, out, L, h => by
    have hb : scanL out l L 0 0 (-1) < L.length := scanL_lt out l L 0 0 (-1) L.length (by omega) (by omega)
    show (layR l n _ _).length = _
    rw [layR_len l n _ _ (by rw [List.length_eraseIdx, if_pos hb]; omega), List.length_append, ← flat_erase_len hb]
    omega
theorem lay_l0 (es : List S48) (h20 : es.length ≤ 20) (hc : ∀ e ∈ es, 0 ≤ e.f2 ∧ e.f2 ≤ 100000) : ∀ (n : Nat) (out : List Int) (L : List (List Int)), L.length = n → n ≤ 1000 → out.length + L.flatten.length ≤ 1000 →
    Ev (fun k => spec_LayOut.l0 k es out L) (layR es n out L, true)
  | 0, out, L, h, h8, ho => by
    refine Ev.step (fun k => by simp only [spec_LayOut.l0]; rw [if_neg (by omega)]) ?_
    exact Ev.now _
  | n + 1, out, L, h, h8, ho => by
    refine Ev.step (fun k => by simp only [spec_LayOut.l0]; rw [if_pos (by omega)]) ?_
    have hLe : ∀ c ∈ L, c.length ≤ 1000 := by
      intro c hcm
      have := (List.sublist_flatten_of_mem hcm).length_le
      omega
    have hb : scanL out es L 0 0 (-1) < L.length := scanL_lt out es L 0 0 (-1) L.length (by omega) (by omega)
    have hfe := flat_erase_len hb
    have ih := lay_l0 es h20 hc n (out ++ rd_L5 L (scanL out es L 0 0 (-1) : Nat)) (L.eraseIdx (scanL out es L 0 0 (-1))) (by rw [List.length_eraseIdx, if_pos hb]; omega) (by omega) (by
      rw [List.length_append]
      show _ + (L.getD _ []).length + _ ≤ _
      rw [Int.toNat_natCast]
      omega)
    rw [layR_succ es n out L _ rfl] at ih
    have hend := lay_end (es := es) (out := out) (L := L) hb (by omega) (by
      show _ + (L.getD _ []).length ≤ _
      rw [Int.toNat_natCast]
      omega) ih
    obtain ⟨c, L', rfl⟩ : ∃ c L', L = c :: L' := by
      cases L with
      | nil => simp at h
      | cons c L' => exact ⟨c, L', rfl⟩
    have hcl := hLe c (by simp)
    have hs0 : -1 < sumF out c es 0 := by have := sumF_pos out c es 0 hc (by omega); omega
    generalize hr : (layR es (n + 1) out (c :: L'), true) = r at hend ⊢
    rw [scanL_gt rfl hs0] at hend
    have hl1 := lay_l1 es h20 hc out (by omega) (c :: L') (by omega) hLe r L' [c] 0 (sumF out c es 0) rfl hend
    refine Ev.step (fun k => by simp only [spec_LayOut.l1]; rw [if_pos (by simp), if_pos (by omega), if_pos (by simp), show rd_L5 (c :: L') 0 = c from rfl]) ?_
    have hw1 : wrap64 ((0 : Int) + 1) = 1 := by unfold wrap64; omega
    have := lay_l2 es h20 hc out c (by omega) hcl (c :: L') (-1) (-1) 0 r es [] 0 rfl (by omega) (by simp) (ite_t hs0 (by
      rw [hw1]
      simpa using hl1))
    simpa using this
theorem lay_both (a : Int) (es : List S48) (hb : es.length ≤ 1048576) : ∃ o : List Int × Bool, o.1.length ≤ 8 ∧ Ev (fun k => spec_LayOut.f k a es) o ∧ impl_LayOut.f a es = some o := by
  have h1 := spec_edges a es hb
  unfold spec_LayOut.f impl_LayOut.f
  rw [impl_edges]
  simp only [Option.bind_some]
  cases hg : goodE a es with
  | false =>
    rw [hg] at h1
    exact ⟨([], false), by simp, bind_ev h1 (ite_f (by simp) (Ev.now _)), by simp⟩
  | true =>
    rw [hg] at h1
    obtain ⟨h20, hE⟩ := goodE_ok hg
    have hB : 1 ≤ a ∧ a ≤ 8 := by
      simp only [goodE, Bool.and_eq_true] at hg
      exact (inB_iff _ _ _).1 hg.1.2
    obtain ⟨n, rfl⟩ : ∃ n : Nat, a = (n : Int) := ⟨a.toNat, by omega⟩
    have hc : ∀ y ∈ es, 0 ≤ y.f2 ∧ y.f2 ≤ 100000 := fun y hy => ⟨(hE y hy).c0, (hE y hy).c1⟩
    have hch := chains_ev n (by omega) (by omega) es h20 hc
    have hiv : Iv n ((sortE es).foldl stepC (startC n)) := Iv_foldl _ _ (Iv_start n)
    have hp : (chainsP n es).Perm ((sortE es).foldl stepC (startC n)) := List.mergeSort_perm _ _
    have hfl : (chainsP n es).flatten.length = n := by
      rw [hp.flatten.length_eq, hiv.1.length_eq, List.length_map, List.length_range]
    have hpos : 0 < (chainsP n es).length := by rw [hp.length_eq]; exact Iv_pos hiv (by omega)
    have hlen : (chainsP n es).length ≤ 8 := by rw [hp.length_eq]; have := Iv_len hiv; omega
    rw [Int.toNat_natCast]
    generalize chainsP n es = C at *
    have hsum : (rd_L5 C 0).length + (C.drop 1).flatten.length = n := by
      cases C with
      | nil => simp at hpos
      | cons x xs => simpa [rd_L5] using hfl
    have e0 : C.getD 0 [] = rd_L5 C 0 := rfl
    rw [if_pos rfl, e0]
    have hl0 := lay_l0 es h20 hc (C.length - 1) (rd_L5 C 0) (C.drop 1) (by rw [List.length_drop]) (by omega) (by omega)
    refine ⟨(layR es (C.length - 1) (rd_L5 C 0) (C.drop 1), true), ?_, ?_, rfl⟩
    · show (layR _ _ _ _).length ≤ 8
      rw [layR_len _ _ _ _ (by rw [List.length_drop])]
      omega
    · refine bind_ev h1 (ite_t rfl (bind_ev hch (ite_t (by omega) (ite_t ?_ (ite_t (by omega) ?_)))))
      · simp only [List.length_nil]; omega
      · simpa using hl0
end Go.Proofs.Ytpnhlccdhflogaa.Pure
