/- Chains: the reference tells the chains that the program tells. Conditions: none. -/
import Derived.Test.YtpnhlccdhflogaaPCh
import Derived.Test.YtpnhlccdhflogaaQx0
import Derived.Test.YtpnhlccdhflogaaQx3
import Derived.Test.YtpnhlccdhflogaaQx6
set_option linter.unusedVariables false
set_option linter.unusedSimpArgs false
set_option linter.unusedSectionVars false
namespace Go.Proofs.Ytpnhlccdhflogaa.Pure
open Go.RowKit Go.Proofs.Ytpnhlccdhflogaa.Q Go.Proofs.YtpnhlccdhflogaaW.PrintWords Go.Proofs.YtpnhlccdhflogaaW.PrintLast Go.Proofs.Ytpnhlccdhflogaa.Kit Go.Proofs.Ytpnhlccdhflogaa.Wf
theorem rdL5_at {pre : List (List Int)} {x : List Int} {post : List (List Int)} {n : Nat} (h : n = pre.length) : rd_L5 (pre ++ x :: post) (n : Int) = x := by
  unfold rd_L5; rw [Int.toNat_natCast]; exact getD_at h
/-! ### lists -/
def ne (c : List Int) : Bool := decide (c ≠ [])
theorem set_map {L : List (List Int)} {k : Nat} {x v : List Int} (hk : L[k]? = some x) (hu : ∀ i, L[i]? = some x → i = k) : L.set k v = L.map (fun c => if c = x then v else c) := by
  apply List.ext_getElem?
  intro i
  rw [List.getElem?_map]
  by_cases h : i = k
  · subst h
    obtain ⟨hl, _⟩ := List.getElem?_eq_some_iff.1 hk
    rw [List.getElem?_set_self hl, hk]
    simp
  · rw [List.getElem?_set_ne (fun e => h e.symm)]
    cases hc : L[i]? with
    | none => rfl
    | some c =>
      have : c ≠ x := fun e => h (hu i (by rw [hc, e]))
      simp [this]
theorem erase_filter : ∀ {L : List (List Int)} {k : Nat} {x : List Int}, L[k]? = some x → (∀ i, L[i]? = some x → i = k) → L.eraseIdx k = L.filter (fun c => decide (c ≠ x))
  | [], k, x, hk, _ => by simp at hk
  | c :: cs, 0, x, hk, hu => by
    have hc : c = x := by simpa using hk
    have : ∀ d ∈ cs, d ≠ x := by
      intro d hd e
      obtain ⟨i, hi⟩ := List.mem_iff_getElem?.1 hd
      have := hu (i + 1) (by rw [List.getElem?_cons_succ, hi, e])
      omega
    show cs = _
    rw [List.filter_cons_of_neg (by simp [hc]), List.filter_eq_self.2 (fun d hd => by simpa using this d hd)]
  | c :: cs, k + 1, x, hk, hu => by
    have hc : c ≠ x := fun e => by have := hu 0 (by rw [e]; rfl); omega
    have ih := erase_filter (L := cs) (k := k) (x := x) (by simpa using hk) (fun i hi => by have := hu (i + 1) (by rw [List.getElem?_cons_succ, hi]); omega)
    show c :: cs.eraseIdx k = _
    rw [ih, List.filter_cons_of_pos (by simpa using hc)]
theorem ne_merge (x y v : List Int) (hx : x ≠ []) (hy : y ≠ []) (hv : v ≠ []) (hvy : v ≠ y) (hxy : x ≠ y) : ∀ X : List (List Int),
    ((X.map (fun c => if c = x then v else c)).map (fun c => if c = y then [] else c)).filter ne = ((X.filter ne).map (fun c => if c = x then v else c)).filter (fun c => decide (c ≠ y))
  | [] => rfl
  | c :: X => by
    have ih := ne_merge x y v hx hy hv hvy hxy X
    by_cases h0 : c = []
    · subst h0
      have h1 : ([] : List Int) ≠ x := fun e => hx e.symm
      have h2 : ([] : List Int) ≠ y := fun e => hy e.symm
      simp only [List.map_cons, if_neg h1, if_neg h2]
      rw [List.filter_cons_of_neg (by simp [ne]), List.filter_cons_of_neg (p := ne) (l := X) (by simp [ne])]
      exact ih
    · have hne : ne c = true := by simp [ne, h0]
      rw [List.filter_cons_of_pos (p := ne) (l := X) hne]
      simp only [List.map_cons]
      by_cases h1 : c = x
      · rw [if_pos h1, if_neg hvy, List.filter_cons_of_pos (by simp [ne, hv]), List.filter_cons_of_pos (by simpa using hvy), ih]
      · rw [if_neg h1]
        by_cases h2 : c = y
        · rw [if_pos h2, List.filter_cons_of_neg (by simp [ne]), List.filter_cons_of_neg (by simp [h2])]
          exact ih
        · rw [if_neg h2, List.filter_cons_of_pos hne, List.filter_cons_of_pos (by simpa using h2), ih]
theorem uniq_flat : ∀ {C : List (List Int)}, C.flatten.Nodup → ∀ {c d : List Int} {z : Int}, c ∈ C → d ∈ C → z ∈ c → z ∈ d → c = d
  | [], _, c, d, z, hc, _, _, _ => by cases hc
  | a :: C, h, c, d, z, hc, hd, zc, zd => by
    rw [List.flatten_cons, List.nodup_append] at h
    rcases List.mem_cons.1 hc with e1 | hc2
    · rcases List.mem_cons.1 hd with e2 | hd2
      · rw [e1, e2]
      · exact absurd rfl (h.2.2 z (e1 ▸ zc) z (List.mem_flatten.2 ⟨d, hd2, zd⟩))
    · rcases List.mem_cons.1 hd with e2 | hd2
      · exact absurd rfl (h.2.2 z (e2 ▸ zd) z (List.mem_flatten.2 ⟨c, hc2, zc⟩))
      · exact uniq_flat h.2.1 hc2 hd2 zc zd
theorem Iv_nodup {n : Nat} {C : List (List Int)} (h : Iv n C) : C.flatten.Nodup := h.1.nodup_iff.2 (List.Pairwise.map (fun b : Nat => (b : Int)) (fun (a b : Nat) (e : a ≠ b) (h : (a : Int) = (b : Int)) => e (by omega)) List.nodup_range)
theorem last_mem {c : List Int} (h : c ≠ []) : rd c ((c.length : Int) - 1) ∈ c := by
  have hl : 0 < c.length := List.length_pos_iff.2 h
  unfold rd
  rw [show ((c.length : Int) - 1).toNat = c.length - 1 by omega, List.getD_eq_getElem?_getD, List.getElem?_eq_getElem (by omega), Option.getD_some]
  exact List.getElem_mem _
theorem first_mem {c : List Int} (h : c ≠ []) : rd c 0 ∈ c := by
  cases c with
  | nil => exact absurd rfl h
  | cons x xs => simp [rd]
/-! ### the two searches -/
/-- The place of the last that fits and isn't empty, else r. -/
def lidx (q : List Int → Bool) : List (List Int) → Nat → Int → Int
  | [], _, r => r
  | c :: cs, i, r => lidx q cs (i + 1) (if c ≠ [] ∧ q c = true then (i : Int) else r)
theorem lidx_cases (q : List Int → Bool) : ∀ (X : List (List Int)) (i : Nat) (r : Int), ((∀ c ∈ X, c ≠ [] → q c = false) ∧ lidx q X i r = r) ∨ ∃ k c, X[k]? = some c ∧ c ≠ [] ∧ q c = true ∧ lidx q X i r = ((i + k : Nat) : Int)
  | [], i, r => .inl ⟨by simp, rfl⟩
  | c :: cs, i, r => by
    unfold lidx
    rcases lidx_cases q cs (i + 1) (if c ≠ [] ∧ q c = true then (i : Int) else r) with ⟨h1, h2⟩ | ⟨k, d, h1, h2, h3, h4⟩
    · by_cases h : c ≠ [] ∧ q c = true
      · rw [if_pos h] at h2
        exact .inr ⟨0, c, rfl, h.1, h.2, by rw [if_pos h, h2]; simp⟩
      · rw [if_neg h] at h2
        refine .inl ⟨fun d hd hn => ?_, by rw [if_neg h, h2]⟩
        rcases List.mem_cons.1 hd with rfl | hd
        · rw [Bool.eq_false_iff]; exact fun e => h ⟨hn, e⟩
        · exact h1 d hd hn
    · exact .inr ⟨k + 1, d, by rw [List.getElem?_cons_succ, h1], h2, h3, by rw [h4]; congr 1; omega⟩
theorem fidx_spec (q : List Int → Bool) : ∀ (C : List (List Int)) (i : Nat), ((∀ c ∈ C, q c = false) ∧ fidx q C i = -1) ∨ ∃ k c, C[k]? = some c ∧ q c = true ∧ fidx q C i = ((i + k : Nat) : Int)
  | [], i => .inl ⟨by simp, rfl⟩
  | c :: cs, i => by
    unfold fidx
    by_cases h : q c = true
    · rw [if_pos h]; exact .inr ⟨0, c, rfl, h, by simp⟩
    · rw [if_neg h]
      rcases fidx_spec q cs (i + 1) with ⟨h1, h2⟩ | ⟨k, d, h1, h3, h4⟩
      · refine .inl ⟨fun d hd => ?_, h2⟩
        rcases List.mem_cons.1 hd with rfl | hd
        · simpa using h
        · exact h1 d hd
      · exact .inr ⟨k + 1, d, by rw [List.getElem?_cons_succ, h1], h3, by rw [h4]; congr 1; omega⟩
theorem ch_l2 (n : Int) (X : List (List Int)) (hX : X.length ≤ 1000) (hE : ∀ c ∈ X, c.length ≤ 1000) (S : List S48) (m j : Int) (e : S48) (r : List (List Int)) : ∀ (post pre : List (List Int)) (f t : Int), X = pre ++ post →
    Ev (fun k => spec_l11Chains.l2 k n X (lidx (lastB e.f0) post pre.length f) (lidx (firstB e.f1) post pre.length t) S m j X (X.length : Int) (X.length : Int) e.f0 e.f1 e.f2) r →
    Ev (fun k => spec_l11Chains.l2 k n X f t S m j X (X.length : Int) (pre.length : Int) e.f0 e.f1 e.f2) r
  | [], pre, f, t, h, hr => by
    have : pre.length = X.length := by rw [h]; simp
    rw [this]
    exact hr
  | c :: post, pre, f, t, h, hr => by
    have hn : X.length = pre.length + (post.length + 1) := by rw [h]; simp
    have hrd : rd_L5 X (pre.length : Int) = c := by rw [h]; exact rdL5_at rfl
    have hcl := hE c (by rw [h]; simp)
    have ih := fun f t => ch_l2 n X hX hE S m j e r post (pre ++ [c]) f t (by rw [h]; simp)
    have e3 : (pre ++ [c]).length = pre.length + 1 := by simp
    simp only [e3] at ih
    unfold lidx at hr
    refine Ev.step (fun k => by simp only [spec_l11Chains.l2]; rw [if_pos (show (pre.length : Int) < (X.length : Int) by omega), if_pos (show (0 : Int) ≤ (pre.length : Int) by omega), if_pos (show (pre.length : Int) < (X.length : Int) by omega), hrd, w_succ (by omega)]) ?_
    by_cases hc : c = []
    · rw [if_neg (fun h => h.1 hc), if_neg (fun h => h.1 hc)] at hr
      exact ite_f (by simp [hc]) (ih f t hr)
    · have hp : 0 < c.length := List.length_pos_iff.2 hc
      rw [w64 (x := (c.length : Int) - 1) (by omega) (by omega)]
      refine ite_t (by omega) (ite_t (by omega) (ite_t (by omega) ?_))
      by_cases h1 : rd c ((c.length : Int) - 1) = e.f0
      · have q1 : c ≠ [] ∧ lastB e.f0 c = true := ⟨hc, by simp [lastB, h1]⟩
        rw [if_pos q1] at hr
        refine ite_t h1 (ite_t (by omega) ?_)
        by_cases h2 : rd c 0 = e.f1
        · have q2 : c ≠ [] ∧ firstB e.f1 c = true := ⟨hc, by simp [firstB, h2]⟩
          rw [if_pos q2] at hr
          exact ite_t h2 (ih _ _ hr)
        · have q2 : ¬ (c ≠ [] ∧ firstB e.f1 c = true) := fun h => h2 (by simpa [firstB] using h.2)
          rw [if_neg q2] at hr
          exact ite_f h2 (ih _ _ hr)
      · have q1 : ¬ (c ≠ [] ∧ lastB e.f0 c = true) := fun h => h1 (by simpa [lastB] using h.2)
        rw [if_neg q1] at hr
        refine ite_f h1 (ite_t (by omega) ?_)
        by_cases h2 : rd c 0 = e.f1
        · have q2 : c ≠ [] ∧ firstB e.f1 c = true := ⟨hc, by simp [firstB, h2]⟩
          rw [if_pos q2] at hr
          exact ite_t h2 (ih _ _ hr)
        · have q2 : ¬ (c ≠ [] ∧ firstB e.f1 c = true) := fun h => h2 (by simpa [firstB] using h.2)
          rw [if_neg q2] at hr
          exact ite_f h2 (ih _ _ hr)
/-! ### one edge -/
/-- What the reference's rows are to the program's. -/
structure Sim (n : Nat) (X C : List (List Int)) : Prop where
  eq : X.filter ne = C
  iv : Iv n C
  len : X.length ≤ 8
  n8 : n ≤ 8
theorem Sim.uniqX {n : Nat} {X C : List (List Int)} (h : Sim n X C) {x : List Int} (hx : x ≠ []) {i k : Nat} (hi : X[i]? = some x) (hk : X[k]? = some x) : i = k := by
  have hnd : (X.filter ne).Nodup := by
    rw [h.eq]
    exact (Iv_heads h.iv).imp (fun {a b} hab e => hab (by rw [e]))
  have hp := List.pairwise_filter.1 hnd
  rw [List.pairwise_iff_getElem] at hp
  obtain ⟨hil, hie⟩ := List.getElem?_eq_some_iff.1 hi
  obtain ⟨hkl, hke⟩ := List.getElem?_eq_some_iff.1 hk
  have hn : ne x = true := by simp [ne, hx]
  rcases Nat.lt_trichotomy i k with hlt | he | hlt
  · exact absurd (hie.trans hke.symm) (hp i k hil hkl hlt (by rw [hie]; exact hn) (by rw [hke]; exact hn))
  · exact he
  · exact absurd (hke.trans hie.symm) (hp k i hkl hil hlt (by rw [hke]; exact hn) (by rw [hie]; exact hn))
theorem Sim.uniqC {n : Nat} {X C : List (List Int)} (h : Sim n X C) {x : List Int} {i k : Nat} (hi : C[i]? = some x) (hk : C[k]? = some x) : i = k := by
  have hp : C.Pairwise (fun a b => a ≠ b) := (Iv_heads h.iv).imp (fun {a b} hab e => hab (by rw [e]))
  rw [List.pairwise_iff_getElem] at hp
  obtain ⟨hil, hie⟩ := List.getElem?_eq_some_iff.1 hi
  obtain ⟨hkl, hke⟩ := List.getElem?_eq_some_iff.1 hk
  rcases Nat.lt_trichotomy i k with hlt | he | hlt
  · exact absurd (hie.trans hke.symm) (hp i k hil hkl hlt)
  · exact he
  · exact absurd (hke.trans hie.symm) (hp k i hkl hil hlt)
theorem Sim.mem {n : Nat} {X C : List (List Int)} (h : Sim n X C) {x : List Int} (hx : x ≠ []) (hm : x ∈ X) : x ∈ C := by
  rw [← h.eq]
  exact List.mem_filter.2 ⟨hm, by simp [ne, hx]⟩
theorem Sim.back {n : Nat} {X C : List (List Int)} (h : Sim n X C) {x : List Int} (hm : x ∈ C) : x ∈ X ∧ x ≠ [] := by
  rw [← h.eq] at hm
  have := List.mem_filter.1 hm
  exact ⟨this.1, by simpa [ne] using this.2⟩
theorem ch_step {n : Nat} {X C : List (List Int)} (h : Sim n X C) (S : List S48) (m j : Int) (e : S48) (r : List (List Int))
    (hr : ∀ X', Sim n X' (stepC C e) → X'.length = X.length → Ev (fun k => spec_l11Chains.l1 k (n : Int) X' S m (wrap64 (j + 1))) r) :
    Ev (fun k => spec_l11Chains.l2 k (n : Int) X (lidx (lastB e.f0) X 0 (-1)) (lidx (firstB e.f1) X 0 (-1)) S m j X (X.length : Int) (X.length : Int) e.f0 e.f1 e.f2) r := by
  refine Ev.step (fun k => by simp only [spec_l11Chains.l2]; rw [if_neg (by omega)]) ?_
  have same : stepC C e = C → Ev (fun k => spec_l11Chains.l1 k (n : Int) X S m (wrap64 (j + 1))) r := fun hs => hr X (by rw [hs]; exact h) rfl
  have hX8 := h.len
  by_cases h0 : e.f1 = 0
  · exact ite_t h0 (same (by unfold stepC; rw [if_pos h0]))
  refine ite_f h0 ?_
  rcases lidx_cases (lastB e.f0) X 0 (-1) with ⟨a1, a2⟩ | ⟨k1, x, a1, a2, a3, a4⟩
  · rw [a2]
    refine ite_t (by omega) (same ?_)
    unfold stepC
    rw [if_neg h0]
    split
    · rfl
    · rcases fidx_spec (lastB e.f0) C 0 with ⟨_, b⟩ | ⟨k, c, b1, b2, b3⟩
      · rw [b, if_pos (by omega)]
      · have hm := h.back (List.mem_of_getElem? b1)
        have := a1 c hm.1 hm.2
        rw [this] at b2; cases b2
  rcases lidx_cases (firstB e.f1) X 0 (-1) with ⟨d1, d2⟩ | ⟨k2, y, d1, d2, d3, d4⟩
  · rw [d2, a4]
    refine ite_f (by omega) (ite_t (by omega) (same ?_))
    unfold stepC
    rw [if_neg h0]
    split
    · rfl
    split
    · rfl
    · rcases fidx_spec (firstB e.f1) C 0 with ⟨_, b⟩ | ⟨k, c, b1, b2, b3⟩
      · rw [b, if_pos (by omega)]
      · have hm := h.back (List.mem_of_getElem? b1)
        have := d1 c hm.1 hm.2
        rw [this] at b2; cases b2
  rw [a4, d4, Nat.zero_add, Nat.zero_add]
  refine ite_f (by omega) (ite_f (by omega) ?_)
  have hxX := List.mem_of_getElem? a1
  have hyX := List.mem_of_getElem? d1
  have hxC := h.mem a2 hxX
  have hyC := h.mem d2 hyX
  have hnd := Iv_nodup h.iv
  have lx : rd x ((x.length : Int) - 1) = e.f0 := by simpa [lastB] using a3
  have fy : rd y 0 = e.f1 := by simpa [firstB] using d3
  obtain ⟨j1, c1, b1, b2, b3⟩ : ∃ k c, C[k]? = some c ∧ lastB e.f0 c = true ∧ fidx (lastB e.f0) C 0 = ((0 + k : Nat) : Int) := by
    rcases fidx_spec (lastB e.f0) C 0 with ⟨b, _⟩ | hh
    · have := b x hxC; rw [a3] at this; cases this
    · exact hh
  obtain ⟨j2, c2, b4, b5, b6⟩ : ∃ k c, C[k]? = some c ∧ firstB e.f1 c = true ∧ fidx (firstB e.f1) C 0 = ((0 + k : Nat) : Int) := by
    rcases fidx_spec (firstB e.f1) C 0 with ⟨b, _⟩ | hh
    · have := b y hyC; rw [d3] at this; cases this
    · exact hh
  have hc1 : c1 = x := by
    have hm := List.mem_of_getElem? b1
    have l1 : rd c1 ((c1.length : Int) - 1) = e.f0 := by simpa [lastB] using b2
    have z1 := last_mem (h.iv.2 c1 hm)
    have z2 := last_mem a2
    rw [l1] at z1
    rw [lx] at z2
    exact uniq_flat hnd hm hxC z1 z2
  have hc2 : c2 = y := by
    have hm := List.mem_of_getElem? b4
    have l1 : rd c2 0 = e.f1 := by simpa [firstB] using b5
    have z1 := first_mem (h.iv.2 c2 hm)
    have z2 := first_mem d2
    rw [l1] at z1
    rw [fy] at z2
    exact uniq_flat hnd hm hyC z1 z2
  subst hc1 hc2
  rw [Nat.zero_add] at b3 b6
  by_cases hk : k1 = k2
  · refine ite_t (by omega) (same ?_)
    have hxy : c1 = c2 := by rw [hk, d1] at a1; exact (Option.some.inj a1).symm
    have hj : j1 = j2 := h.uniqC b1 (by rw [hxy]; exact b4)
    unfold stepC
    rw [if_neg h0, b3, b6]
    split
    · rfl
    · rw [if_neg (by omega), if_neg (by omega), if_pos (by omega)]
  · refine ite_f (by omega) ?_
    have hxy : c1 ≠ c2 := fun e' => hk (h.uniqX a2 a1 (by rw [e']; exact d1))
    have hef : e.f0 ≠ e.f1 := by
      intro e'
      have z1 := last_mem a2
      have z2 := first_mem d2
      rw [lx, e'] at z1
      rw [fy] at z2
      exact hxy (uniq_flat hnd hxC hyC z1 z2)
    have hj : j1 ≠ j2 := fun e' => hxy (by rw [e', b4] at b1; exact (Option.some.inj b1).symm)
    have hst : stepC C e = mergeC C j1 j2 := by
      unfold stepC
      rw [if_neg h0, if_neg hef, b3, b6, if_neg (by omega), if_neg (by omega), if_neg (by omega)]
      rfl
    obtain ⟨k1l, _⟩ := List.getElem?_eq_some_iff.1 a1
    obtain ⟨k2l, _⟩ := List.getElem?_eq_some_iff.1 d1
    have r1 : rd_L5 X (k1 : Int) = c1 := by unfold rd_L5; rw [Int.toNat_natCast, List.getD_eq_getElem?_getD, a1]; rfl
    have r2 : rd_L5 X (k2 : Int) = c2 := by unfold rd_L5; rw [Int.toNat_natCast, List.getD_eq_getElem?_getD, d1]; rfl
    have hl1 := Iv_elem h.iv hxC
    have hl2 := Iv_elem h.iv hyC
    have hn8 := h.n8
    refine ite_t (by omega) (ite_t (by omega) (bind_ev (Ev.now _) (ite_t (by omega) (ite_t (by omega) ?_))))
    rw [r1, r2]
    refine ite_t (by simp only [List.length_nil]; omega) (bind_ev (Ev.now _) (ite_t (by simp only [List.nil_append]; omega) ?_))
    rw [Int.toNat_natCast, Int.toNat_natCast, List.nil_append]
    refine hr _ ⟨?_, by rw [hst]; exact Iv_merge h.iv _ _ (List.getElem?_eq_some_iff.1 b1).1 (List.getElem?_eq_some_iff.1 b4).1 hj, by simp only [List.length_set]; omega, hn8⟩ (by simp)
    have hv : c1 ++ c2 ≠ [] := by intro e'; exact a2 (List.append_eq_nil_iff.1 e').1
    have hvy : c1 ++ c2 ≠ c2 := by
      intro e'
      have := congrArg List.length e'
      rw [List.length_append] at this
      exact a2 (List.eq_nil_of_length_eq_zero (by omega))
    have s1 : X.set k1 (c1 ++ c2) = X.map (fun c => if c = c1 then c1 ++ c2 else c) := set_map a1 (fun i hi => h.uniqX a2 hi a1)
    have y1 : (X.set k1 (c1 ++ c2))[k2]? = some c2 := by rw [List.getElem?_set_ne hk]; exact d1
    have s2 : (X.set k1 (c1 ++ c2)).set k2 [] = (X.set k1 (c1 ++ c2)).map (fun c => if c = c2 then [] else c) := by
      refine set_map y1 (fun i hi => ?_)
      by_cases h1 : i = k1
      · subst h1
        rw [List.getElem?_set_self k1l] at hi
        exact absurd (Option.some.inj hi) hvy
      · rw [List.getElem?_set_ne (fun e' => h1 e'.symm)] at hi
        exact h.uniqX d2 hi d1
    have g1 : C.getD j1 [] = c1 := by rw [List.getD_eq_getElem?_getD, b1]; rfl
    have g2 : C.getD j2 [] = c2 := by rw [List.getD_eq_getElem?_getD, b4]; rfl
    have t1 : C.set j1 (c1 ++ c2) = C.map (fun c => if c = c1 then c1 ++ c2 else c) := set_map b1 (fun i hi => h.uniqC hi b1)
    have y2 : (C.set j1 (c1 ++ c2))[j2]? = some c2 := by rw [List.getElem?_set_ne hj]; exact b4
    have t2 : (C.set j1 (c1 ++ c2)).eraseIdx j2 = (C.set j1 (c1 ++ c2)).filter (fun c => decide (c ≠ c2)) := by
      refine erase_filter y2 (fun i hi => ?_)
      by_cases h1 : i = j1
      · subst h1
        rw [List.getElem?_set_self (List.getElem?_eq_some_iff.1 b1).1] at hi
        exact absurd (Option.some.inj hi) hvy
      · rw [List.getElem?_set_ne (fun e' => h1 e'.symm)] at hi
        exact h.uniqC hi b4
    rw [hst]
    unfold mergeC
    rw [g1, g2, t2, t1, s2, s1, ← h.eq]
    exact ne_merge c1 c2 (c1 ++ c2) a2 d2 hv hvy hxy X
end Go.Proofs.Ytpnhlccdhflogaa.Pure
