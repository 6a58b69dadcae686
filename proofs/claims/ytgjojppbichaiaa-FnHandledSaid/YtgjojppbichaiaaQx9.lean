-- Written by the program wip/tools/pr.py of this claim's session, over the kit's print.py.
import Derived.Test.YtgjojppbichaiaaQx0
import Derived.Test.YtgjojppbichaiaaQx6
namespace Go.Proofs.Ytgjojppbichaiaa.Q
open Go.RowKit Go.Proofs.YtgjojppbichaiaaW.PrintWords Go.Proofs.YtgjojppbichaiaaW.PrintLast Go.Proofs.YtgjojppbichaiaaW.PrintMore
attribute [local go_sem] max2_int min2_int max_two min_two max_three min_three max_four min_four   -- for this text's walks alone
set_option linter.unusedVariables false
set_option linter.unusedSimpArgs false
theorem Se.info3 : (Try.prog.info? 3).map (fun i => (i.zero, i.size, i.bytes)) = some (some (.int .i64 0), 1, 8) := by kernel_rfl
abbrev Se.F := List Int → Option (List Int × Int)
def Se.rounds (f : Se.F) : Nat → Se.F
  | 0, told => some (told, 0)
  | m + 1, told => (f told).bind fun r => if r.2 = 0 then Se.rounds f m r.1 else some r
def Se.second (fs : List Se.F) (told : List Int) : Option (List Int × Int) := match fs[1]? with
  | none => none
  | some f => f told
def Se.node (k n : Int) (fs : List Se.F) (told : List Int) : Option (List Int × Int) :=
  if told.length > 200 then some (told, 0)
  else if k = 1 then some (told ++ [n], 0)
  else if k = 2 then some (told, n)
  else match fs[0]? with
    | none => none
    | some f => if k = 6 then (if n ≤ 1000 then Se.rounds f n.toNat told else none)
      else (f told).bind fun r =>
        if k = 3 then (if r.2 = 0 then Se.second fs r.1 else some r)
        else if k = 4 then (if r.2 = 0 ∨ n ≠ 0 ∧ n ≠ r.2 then some r else Se.second fs r.1)
        else (Se.second fs r.1).bind fun q => if q.2 = 0 then some (q.1, r.2) else some q
mutual
def Se.ev : S72 → Se.F
  | ⟨k, n, ts⟩, told => Se.node k n (Se.evs ts) told
def Se.evs : List S72 → List Se.F
  | [] => []
  | t :: ts => Se.ev t :: Se.evs ts
end
theorem Se.add0 (a : Addr) : a.add 0 = a := by unfold Addr.add; rw [if_pos rfl]
theorem Se.add3 (a : Addr) : a.add 3 = ⟨a.block, a.off + 3, none⟩ := by unfold Addr.add; rw [if_neg (by decide)]
theorem Se.evs_at : ∀ (ts : List S72) (i : Nat) (f : Se.F), (Se.evs ts)[i]? = some f → ∃ t, ts[i]? = some t ∧ f = Se.ev t
  | [], i, f, h => by simp [Se.evs] at h
  | t :: ts, 0, f, h => by
    simp only [Se.evs, List.getElem?_cons_zero, Option.some.injEq] at h
    exact ⟨t, rfl, h.symm⟩
  | t :: ts, i + 1, f, h => by
    simp only [Se.evs, List.getElem?_cons_succ] at h ⊢
    exact Se.evs_at ts i f h
structure Se.Gr (w : World) (v : Value) (w' : World) (v' : Value) : Prop where
  g : w.grownBy w' v.ownBlock
  at_ : v'.ownBlock = v.ownBlock ∨ ∃ b, v'.ownBlock = some b ∧ w.heap.size ≤ b
theorem Se.Gr.refl (w : World) (v : Value) : Se.Gr w v w v := ⟨World.grownBy.refl w _, .inl rfl⟩
theorem Se.Gr.trans {w w1 w2 : World} {v v1 v2 : Value} (h : Se.Gr w v w1 v1) (k : Se.Gr w1 v1 w2 v2) : Se.Gr w v w2 v2 := by
  have hne : ∀ i, i < w.heap.size → some i ≠ v.ownBlock → some i ≠ v1.ownBlock := by
    intro i hi hn
    rcases h.at_ with h1 | ⟨b, h1, h2⟩
    · rw [h1]; exact hn
    · rw [h1]; intro he; injection he with he; omega
  refine ⟨⟨k.g.os.trans h.g.os, k.g.tape.trans h.g.tape, k.g.output.trans h.g.output, Nat.le_trans h.g.size k.g.size, fun i hi hn => (k.g.block i (Nat.lt_of_lt_of_le hi h.g.size) (hne i hi hn)).trans (h.g.block i hi hn)⟩, ?_⟩
  rcases k.at_ with h1 | ⟨b, h1, h2⟩
  · rw [h1]; exact h.at_
  · exact .inr ⟨b, h1, Nat.le_trans h.g.size h2⟩
theorem Se.Gr.below {w w1 : World} (hb : Below w.heap.size w w1) (v : Value) : Se.Gr w v w1 v := ⟨⟨hb.os, hb.tape, hb.output, hb.size, fun i hi _ => hb.block i hi⟩, .inl rfl⟩
theorem Se.Gr.to {B : Nat} {w w1 : World} {v v1 : Value} (h : Se.Gr w v w1 v1) (hB : B ≤ w.heap.size) (hv : ∀ k, v.ownBlock = some k → B ≤ k) : Below B w w1 := (Below.refl B w).grown h.g hB hv
theorem Se.Gr.drewN {w w1 : World} {v v1 : Value} (h : Se.Gr w v w1 v1) (n : Nat) : Se.Gr w v (w1.drewN n) v1 := ⟨⟨h.g.os, h.g.tape, h.g.output, h.g.size, h.g.block⟩, h.at_⟩
def Se.Post (B : Nat) (w : World) (v : Value) (r : List Int × Int) (e : Ending) (w' : World) : Prop := ∃ v', e = .returned (.tuple #[v', .int .i64 r.2]) ∧ (Kd.int .i64).R 3 w' B (fun _ => True) v' r.1 ∧ Se.Gr w v w' v'
abbrev Se.Ok (w0 : World) (f : Se.F) (k n : Int) (A : Option Addr) (m c : Nat) : Prop :=
  ∀ (w : World) (v : Value) (told : List Int) (r : List Int × Int), Below w0.heap.size w0 w → (Kd.int .i64).R 3 w w0.heap.size (fun _ => True) v told → f told = some r →
    Calls Try.prog 62 #[.agg #[.int .i64 k, .int .i64 n, .slice A m c], v] w (Se.Post w0.heap.size w v r)
structure Se.Nd (w0 : World) (A : Option Addr) (m : Nat) (fs : List Se.F) : Prop where
  kid : ∀ i f, fs[i]? = some f → i < m ∧ ∃ ad k' n' A' m' c', A = some ad ∧ w0.cell? (ad.add (i * 3)) = some (.int .i64 k') ∧ w0.cell? ⟨(ad.add (i * 3)).block, (ad.add (i * 3)).off + 1, none⟩ = some (.int .i64 n') ∧ w0.cell? ⟨(ad.add (i * 3)).block, (ad.add (i * 3)).off + 2, none⟩ = some (.slice A' m' c') ∧ Se.Ok w0 f k' n' A' m' c'
theorem Se.kid {w0 : World} {A : Option Addr} {m : Nat} {fs : List Se.F} (hN : Se.Nd w0 A m fs) {i : Nat} {f : Se.F} (hf : fs[i]? = some f) : ∃ ad k' n' A' m' c', A = some ad ∧ i < m ∧ (∀ w, Below w0.heap.size w0 w → w.cell? (ad.add (i * 3)) = some (.int .i64 k') ∧ w.cell? ⟨(ad.add (i * 3)).block, (ad.add (i * 3)).off + 1, none⟩ = some (.int .i64 n') ∧ w.cell? ⟨(ad.add (i * 3)).block, (ad.add (i * 3)).off + 2, none⟩ = some (.slice A' m' c')) ∧ Se.Ok w0 f k' n' A' m' c' := by
  obtain ⟨h1, ad, k', n', A', m', c', h2, h3, h4, h5, h6⟩ := hN.kid i f hf
  exact ⟨ad, k', n', A', m', c', h2, h1, fun w hw => ⟨pw_cell_below hw h3, pw_cell_below hw h4, pw_cell_below hw h5⟩, h6⟩
set_option maxHeartbeats 8000000 in
set_option maxRecDepth 100000 in
theorem Se.node_ok {w0 : World} {k n : Int} {A : Option Addr} {m c : Nat} {fs : List Se.F} (hN : Se.Nd w0 A m fs) : Se.Ok w0 (Se.node k n fs) k n A m c := by
 intro w v told r hB0 hR h
 have hu45 := Try.underlying45
 have hu72 := Try.underlying72
 have HN := Aside0.mk hN
 have HO := Aside0.mk hR
 have HB := Aside0.mk (Below.refl w0.heap.size w)
 have HB0 := Aside0.mk hB0
 have HS := Aside0.mk hB0.size
 clear hR hB0 hN
 have HG := Aside0.mk (Se.Gr.refl w v)
 obtain ⟨Av, cv, ev⟩ := Kd.R_slice HO.out
 subst ev
 unfold Se.node at h
 by_cases kk : told.length > 200
 ·rw [if_pos kk] at h
  obtain rfl := Option.some.inj h
  clear h
  have kkb : decide ((200 : Int) < (told.length : Int)) = true := decide_eq_true (by omega)
  have kkc : decide (200 < told.length) = true := decide_eq_true kk
  go_enter Try.func62, Try.ntmps62
  go_wp2_with (first | ((with_reducible refine gate_dst (N := 2) rfl ?_); refine bxe 2 #[.int .i64 k, .int .i64 n, .slice A m c] 72 ?_; intro gb hgb_ w4 hbox hb_; have n0_ := Aside0.mk (HB.out.trans (hb_.mono HS.out)); have n1_ := Aside0.mk hbox; have n2_ := Aside0.mk (Kd.R_below HO.out hb_); have n3_ := Aside0.mk (HG.out.trans (Se.Gr.below hb_ _)); clear HB HO HG; have HB := n0_; have BK := n1_; have HO := n2_; have HG := n3_; clear n0_ n1_ n2_ n3_ hbox hb_ hgb_; obtain ⟨hcz0, hfz0, hcz1, hfz1, hcz2, hfz2⟩ := bk3 BK.out))
  refine bodyPost_ret (results_list (rs := [.tmp 4, .tmp 5]) rfl (by simp) (.tmp (.tmp .nil))) rfl ?_
  exact ⟨_, lE, HO.out, HG.out⟩
 ·rw [if_neg kk] at h
  have kkb : decide ((200 : Int) < (told.length : Int)) = false := decide_eq_false (by omega)
  have kkc : decide (200 < told.length) = false := decide_eq_false kk
  have HL := Aside0.mk kk
  by_cases k1 : k = 1
  ·rw [if_pos k1] at h
   subst k1
   obtain rfl := Option.some.inj h
   clear h
   go_enter Try.func62, Try.ntmps62
   go_wp2_with (first | ((with_reducible refine gate_dst (N := 2) rfl ?_); refine bxe 2 #[.int .i64 1, .int .i64 n, .slice A m c] 72 ?_; intro gb hgb_ w4 hbox hb_; have n0_ := Aside0.mk (HB.out.trans (hb_.mono HS.out)); have n1_ := Aside0.mk hbox; have n2_ := Aside0.mk (Kd.R_below HO.out hb_); have n3_ := Aside0.mk (HG.out.trans (Se.Gr.below hb_ _)); clear HB HO HG; have HB := n0_; have BK := n1_; have HO := n2_; have HG := n3_; clear n0_ n1_ n2_ n3_ hbox hb_ hgb_; obtain ⟨hcz0, hfz0, hcz1, hfz1, hcz2, hfz2⟩ := bk3 BK.out) | ((with_reducible refine gate_builtin (b := .append) (xs := #[.tmp 19, .tmp 22]) rfl ?_); at_builtin; refine Kd.R_append (Kd.int .i64) (w0 := w) w0.heap.size rfl (.tmp 19) (.tmp 22) 45 3 (.int .i64 0) 8 rfl Try.underlying45 Se.info3 rfl (by decide) (by omega) (.slice Av told.length cv) told n [.int .i64 n] (fun _ => True) (fun _ => False) rfl (by first | (go_simp; done) | (go_simp; rfl)) ?aP (fun _ hk => hk.elim) (fun _ _ => trivial) ?aO ?aB ?aS ?aL ?_; (case aP => exact rfl); (case aO => exact HO.out); (case aB => exact HB.out); (case aS => exact Nat.le_trans HS.out HB.out.size); (case aL => have := HL.out; omega); intro v6 w6 ho hb hg hat; have n0_ := Aside0.mk (HG.out.trans ⟨hg, hat⟩); clear HO HB HG; have HO := Aside0.mk ho; have HB := Aside0.mk hb; have HG := n0_; clear ho hb hg hat n0_; obtain ⟨Ap, cp, ep⟩ := Kd.R_slice HO.out; subst ep))
   refine bodyPost_ret (results_list (rs := [.tmp 4, .tmp 5]) rfl (by simp) (.tmp (.tmp .nil))) rfl ?_
   exact ⟨_, lE, HO.out, HG.out⟩
  ·rw [if_neg k1] at h
   have k1b : (k == 1) = false := beq_eq_false_iff_ne.mpr k1
   by_cases k2 : k = 2
   ·rw [if_pos k2] at h
    subst k2
    obtain rfl := Option.some.inj h
    clear h
    go_enter Try.func62, Try.ntmps62
    go_wp2_with (first | ((with_reducible refine gate_dst (N := 2) rfl ?_); refine bxe 2 #[.int .i64 2, .int .i64 n, .slice A m c] 72 ?_; intro gb hgb_ w4 hbox hb_; have n0_ := Aside0.mk (HB.out.trans (hb_.mono HS.out)); have n1_ := Aside0.mk hbox; have n2_ := Aside0.mk (Kd.R_below HO.out hb_); have n3_ := Aside0.mk (HG.out.trans (Se.Gr.below hb_ _)); clear HB HO HG; have HB := n0_; have BK := n1_; have HO := n2_; have HG := n3_; clear n0_ n1_ n2_ n3_ hbox hb_ hgb_; obtain ⟨hcz0, hfz0, hcz1, hfz1, hcz2, hfz2⟩ := bk3 BK.out))
    repeat (go_quiet (fail); try go_wp2)
    refine bodyPost_ret (results_list (rs := [.tmp 4, .tmp 5]) rfl (by simp) (.tmp (.tmp .nil))) rfl ?_
    exact ⟨_, lE, lR HO.out, HG.out.drewN _⟩
   ·rw [if_neg k2] at h
    have k2b : (k == 2) = false := beq_eq_false_iff_ne.mpr k2
    split at h
    ·cases h
    rename_i f0 hf0
    obtain ⟨ad0, k0_, n0_, A0, m0, c0, eA0, hm0, hc0, hok0⟩ := Se.kid HN.out hf0
    have HOK0 := Aside0.mk hok0
    have HC0 := Aside0.mk hc0
    clear hok0 hc0
    have hm0b : (0 < m) = True := eq_true hm0
    clear hm0
    subst eA0
    by_cases k6 : k = 6
    ·rw [if_pos k6] at h
     subst k6
     split at h
     case isFalse => cases h
     rename_i hn1000
     have H := Aside0.mk h
     clear h
     go_enter Try.func62, Try.ntmps62
     go_wp2_with (first | ((with_reducible refine gate_dst (N := 2) rfl ?_); refine bxe 2 #[.int .i64 6, .int .i64 n, .slice (some ad0) m c] 72 ?_; intro gb hgb_ w4 hbox hb_; have n0_ := Aside0.mk (HB.out.trans (hb_.mono HS.out)); have n1_ := Aside0.mk hbox; have n2_ := Aside0.mk (Kd.R_below HO.out hb_); have n3_ := Aside0.mk (HG.out.trans (Se.Gr.below hb_ _)); clear HB HO HG; have HB := n0_; have BK := n1_; have HO := n2_; have HG := n3_; clear n0_ n1_ n2_ n3_ hbox hb_ hgb_; obtain ⟨hcz0, hfz0, hcz1, hfz1, hcz2, hfz2⟩ := bk3 BK.out))
     go_loopg [1, 6] (n.toNat + 1) (fun j v1 v6 wr => ∃ (i q : Nat) (s1 : List Int), v6 = .int .i64 (i : Int) ∧ j = q + 1 ∧ i + q = n.toNat ∧ Aside0 (Se.rounds f0 q s1 = some r) ∧ Aside0 ((Kd.int .i64).R 3 wr w0.heap.size (fun _ => True) v1 s1) ∧ Aside0 (wr.heap[gb]? = some (.cells #[.int .i64 6, .int .i64 n, .slice (some ad0) m c] 72 (0, 0))) ∧ Aside0 (Below w0.heap.size w wr) ∧ Aside0 (Se.Gr w (.slice Av told.length cv) wr v1))
     case atStart => exact ⟨0, n.toNat, told, rfl, rfl, by omega, H, HO, BK, HB, HG⟩
     case round =>
      clear HO BK HB HG H hcz0 hfz0 hcz1 hfz1 hcz2 hfz2
      obtain ⟨i, q, s1, rfl, rfl, hiq, H, HO, BK, HB, HG⟩ := hrel
      obtain ⟨hcz0, hfz0, hcz1, hfz1, hcz2, hfz2⟩ := bk3 BK.out
      obtain ⟨Aw, cw, ew⟩ := Kd.R_slice HO.out
      subst ew
      have h := H.out
      clear H
      cases q with
      | zero =>
       have hd1 : decide ((i : Int) < n) = false := decide_eq_false (by omega)
       obtain rfl := Option.some.inj h
       clear h
       go_wp2
       refine bodyPost_ret (results_list (rs := [.tmp 4, .tmp 5]) rfl (by simp) (.tmp (.tmp .nil))) rfl ?_
       exact ⟨_, lE, HO.out, HG.out⟩
      | succ q =>
       have hd1 : decide ((i : Int) < n) = true := decide_eq_true (by omega)
       have hi1000 : (i : Int) ≤ 1000 := by omega
       simp only [Se.rounds] at h
       replace h := lO h; obtain ⟨rr, A2, h⟩ := h
       obtain ⟨rs, rc⟩ := rr
       obtain ⟨ha0, hb0, hd0⟩ := HC0.out _ (HB0.out.trans HB.out)
       simp only [Nat.zero_mul, Nat.one_mul, Se.add0, Se.add3] at ha0 hb0 hd0
       simp only at h
       by_cases hz : rc = 0
       ·subst hz
        rw [if_pos rfl] at h
        have H := Aside0.mk h
        clear h
        go_wp2_with (first | (go_at_call 62; (with_reducible refine (HOK0.out _ _ s1 (rs, _) (HB0.out.trans HB.out) HO.out A2.out).mono ?_); rintro e w5 ⟨v5, rfl, hro_, hb_⟩; have n0_ := Aside0.mk (HB.out.trans (hb_.to (Nat.le_trans HS.out HB.out.size) (Kd.R_base HO.out))); have n2_ := Aside0.mk hro_; have n3_ := Aside0.mk (blk_grown BK.out hb_.g (Kd.R_ne HO.out BK.out (by decide))); have n4_ := Aside0.mk (HG.out.trans hb_); clear HB HO BK HG hcz0 hfz0 hcz1 hfz1 hcz2 hfz2 hb_ hro_; have HB := n0_; have HO := n2_; have BK := n3_; have HG := n4_; clear n0_ n2_ n3_ n4_; obtain ⟨hcz0, hfz0, hcz1, hfz1, hcz2, hfz2⟩ := bk3 BK.out; obtain ⟨Av5, cv5, ev5⟩ := Kd.R_slice HO.out; subst ev5))
        go_roundg (q + 1)
        case measure => omega
        case rel => exact ⟨i + 1, q, rs, by go_num, rfl, by omega, H, HO, BK, HB, HG⟩
       ·rw [if_neg hz] at h
        obtain rfl := Option.some.inj h
        clear h
        have h0b : (rc != 0) = true := bne_iff_ne.mpr hz
        go_wp2_with (first | (go_at_call 62; (with_reducible refine (HOK0.out _ _ s1 (rs, _) (HB0.out.trans HB.out) HO.out A2.out).mono ?_); rintro e w5 ⟨v5, rfl, hro_, hb_⟩; have n0_ := Aside0.mk (HB.out.trans (hb_.to (Nat.le_trans HS.out HB.out.size) (Kd.R_base HO.out))); have n2_ := Aside0.mk hro_; have n3_ := Aside0.mk (blk_grown BK.out hb_.g (Kd.R_ne HO.out BK.out (by decide))); have n4_ := Aside0.mk (HG.out.trans hb_); clear HB HO BK HG hcz0 hfz0 hcz1 hfz1 hcz2 hfz2 hb_ hro_; have HB := n0_; have HO := n2_; have BK := n3_; have HG := n4_; clear n0_ n2_ n3_ n4_; obtain ⟨hcz0, hfz0, hcz1, hfz1, hcz2, hfz2⟩ := bk3 BK.out; obtain ⟨Av5, cv5, ev5⟩ := Kd.R_slice HO.out; subst ev5))
        refine bodyPost_ret (results_list (rs := [.tmp 4, .tmp 5]) rfl (by simp) (.tmp (.tmp .nil))) rfl ?_
        exact ⟨_, lE, HO.out, HG.out⟩
    ·rw [if_neg k6] at h
     have k6b : (k == 6) = false := beq_eq_false_iff_ne.mpr k6
     replace h := lO h; obtain ⟨rr, A2, h⟩ := h
     obtain ⟨rs, rc⟩ := rr
     simp only at h
     by_cases k3 : k = 3
     ·rw [if_pos k3] at h
      subst k3
      by_cases hz : rc = 0
      ·subst hz
       rw [if_pos rfl] at h
       go_enter Try.func62, Try.ntmps62
       go_upto_region 17 with (first | ((with_reducible refine gate_dst (N := 2) rfl ?_); refine bxe 2 #[.int .i64 3, .int .i64 n, .slice (some ad0) m c] 72 ?_; intro gb hgb_ w4 hbox hb_; have n0_ := Aside0.mk (HB.out.trans (hb_.mono HS.out)); have n1_ := Aside0.mk hbox; have n2_ := Aside0.mk (Kd.R_below HO.out hb_); have n3_ := Aside0.mk (HG.out.trans (Se.Gr.below hb_ _)); clear HB HO HG; have HB := n0_; have BK := n1_; have HO := n2_; have HG := n3_; clear n0_ n1_ n2_ n3_ hbox hb_ hgb_; obtain ⟨hcz0, hfz0, hcz1, hfz1, hcz2, hfz2⟩ := bk3 BK.out))
       obtain ⟨ha0, hb0, hd0⟩ := HC0.out _ (HB0.out.trans HB.out)
       simp only [Nat.zero_mul, Nat.one_mul, Se.add0, Se.add3] at ha0 hb0 hd0
       go_upto_region 22 with (first | (go_at_call 62; (with_reducible refine (HOK0.out _ _ told (rs, _) (HB0.out.trans HB.out) HO.out A2.out).mono ?_); rintro e w5 ⟨v5, rfl, hro_, hb_⟩; have n0_ := Aside0.mk (HB.out.trans (hb_.to (Nat.le_trans HS.out HB.out.size) (Kd.R_base HO.out))); have n2_ := Aside0.mk hro_; have n3_ := Aside0.mk (blk_grown BK.out hb_.g (Kd.R_ne HO.out BK.out (by decide))); have n4_ := Aside0.mk (HG.out.trans hb_); clear HB HO BK HG hcz0 hfz0 hcz1 hfz1 hcz2 hfz2 hb_ hro_; have HB := n0_; have HO := n2_; have BK := n3_; have HG := n4_; clear n0_ n2_ n3_ n4_; obtain ⟨hcz0, hfz0, hcz1, hfz1, hcz2, hfz2⟩ := bk3 BK.out; obtain ⟨Av5, cv5, ev5⟩ := Kd.R_slice HO.out; subst ev5))
       unfold Se.second at h
       split at h
       ·cases h
       rename_i f1 hf1
       obtain ⟨ad1, k1_, n1_, A1, m1, c1, eA1, hm1, hc1, hok1⟩ := Se.kid HN.out hf1
       have HOK1 := Aside0.mk hok1
       have HC1 := Aside0.mk hc1
       clear hok1 hc1
       obtain rfl : ad0 = ad1 := by injection eA1
       have hm1b : (1 < m) = True := eq_true hm1
       have hm1c : ((1 : Int) < (m : Int)) = True := eq_true (by omega)
       have A3 := Aside0.mk h
       clear h hm1 eA1
       obtain ⟨ha1, hb1, hd1⟩ := HC1.out _ (HB0.out.trans HB.out)
       simp only [Nat.zero_mul, Nat.one_mul, Se.add0, Se.add3] at ha1 hb1 hd1
       go_wp2_with (first | (go_at_call 62; (with_reducible refine (HOK1.out _ _ rs r (HB0.out.trans HB.out) HO.out A3.out).mono ?_); rintro e w5 ⟨v5, rfl, hro_, hb_⟩; have n0_ := Aside0.mk (HB.out.trans (hb_.to (Nat.le_trans HS.out HB.out.size) (Kd.R_base HO.out))); have n2_ := Aside0.mk hro_; have n3_ := Aside0.mk (blk_grown BK.out hb_.g (Kd.R_ne HO.out BK.out (by decide))); have n4_ := Aside0.mk (HG.out.trans hb_); clear HB HO BK HG hcz0 hfz0 hcz1 hfz1 hcz2 hfz2 hb_ hro_; have HB := n0_; have HO := n2_; have BK := n3_; have HG := n4_; clear n0_ n2_ n3_ n4_; obtain ⟨hcz0, hfz0, hcz1, hfz1, hcz2, hfz2⟩ := bk3 BK.out; obtain ⟨Av5, cv5, ev5⟩ := Kd.R_slice HO.out; subst ev5))
       refine bodyPost_ret (results_list (rs := [.tmp 4, .tmp 5]) rfl (by simp) (.tmp (.tmp .nil))) rfl ?_
       exact ⟨_, lE, HO.out, HG.out⟩
      ·rw [if_neg hz] at h
       have h0b : (rc != 0) = true := bne_iff_ne.mpr hz
       obtain rfl := Option.some.inj h
       clear h
       go_enter Try.func62, Try.ntmps62
       go_upto_region 17 with (first | ((with_reducible refine gate_dst (N := 2) rfl ?_); refine bxe 2 #[.int .i64 3, .int .i64 n, .slice (some ad0) m c] 72 ?_; intro gb hgb_ w4 hbox hb_; have n0_ := Aside0.mk (HB.out.trans (hb_.mono HS.out)); have n1_ := Aside0.mk hbox; have n2_ := Aside0.mk (Kd.R_below HO.out hb_); have n3_ := Aside0.mk (HG.out.trans (Se.Gr.below hb_ _)); clear HB HO HG; have HB := n0_; have BK := n1_; have HO := n2_; have HG := n3_; clear n0_ n1_ n2_ n3_ hbox hb_ hgb_; obtain ⟨hcz0, hfz0, hcz1, hfz1, hcz2, hfz2⟩ := bk3 BK.out))
       obtain ⟨ha0, hb0, hd0⟩ := HC0.out _ (HB0.out.trans HB.out)
       simp only [Nat.zero_mul, Nat.one_mul, Se.add0, Se.add3] at ha0 hb0 hd0
       go_wp2_with (first | (go_at_call 62; (with_reducible refine (HOK0.out _ _ told (rs, _) (HB0.out.trans HB.out) HO.out A2.out).mono ?_); rintro e w5 ⟨v5, rfl, hro_, hb_⟩; have n0_ := Aside0.mk (HB.out.trans (hb_.to (Nat.le_trans HS.out HB.out.size) (Kd.R_base HO.out))); have n2_ := Aside0.mk hro_; have n3_ := Aside0.mk (blk_grown BK.out hb_.g (Kd.R_ne HO.out BK.out (by decide))); have n4_ := Aside0.mk (HG.out.trans hb_); clear HB HO BK HG hcz0 hfz0 hcz1 hfz1 hcz2 hfz2 hb_ hro_; have HB := n0_; have HO := n2_; have BK := n3_; have HG := n4_; clear n0_ n2_ n3_ n4_; obtain ⟨hcz0, hfz0, hcz1, hfz1, hcz2, hfz2⟩ := bk3 BK.out; obtain ⟨Av5, cv5, ev5⟩ := Kd.R_slice HO.out; subst ev5))
       refine bodyPost_ret (results_list (rs := [.tmp 4, .tmp 5]) rfl (by simp) (.tmp (.tmp .nil))) rfl ?_
       exact ⟨_, lE, HO.out, HG.out⟩
     ·rw [if_neg k3] at h
      have k3b : (k == 3) = false := beq_eq_false_iff_ne.mpr k3
      by_cases k4 : k = 4
      ·rw [if_pos k4] at h
       subst k4
       by_cases hz : rc = 0
       ·subst hz
        rw [if_pos (.inl rfl)] at h
        obtain rfl := Option.some.inj h
        clear h
        go_enter Try.func62, Try.ntmps62
        go_upto_region 17 with (first | ((with_reducible refine gate_dst (N := 2) rfl ?_); refine bxe 2 #[.int .i64 4, .int .i64 n, .slice (some ad0) m c] 72 ?_; intro gb hgb_ w4 hbox hb_; have n0_ := Aside0.mk (HB.out.trans (hb_.mono HS.out)); have n1_ := Aside0.mk hbox; have n2_ := Aside0.mk (Kd.R_below HO.out hb_); have n3_ := Aside0.mk (HG.out.trans (Se.Gr.below hb_ _)); clear HB HO HG; have HB := n0_; have BK := n1_; have HO := n2_; have HG := n3_; clear n0_ n1_ n2_ n3_ hbox hb_ hgb_; obtain ⟨hcz0, hfz0, hcz1, hfz1, hcz2, hfz2⟩ := bk3 BK.out))
        obtain ⟨ha0, hb0, hd0⟩ := HC0.out _ (HB0.out.trans HB.out)
        simp only [Nat.zero_mul, Nat.one_mul, Se.add0, Se.add3] at ha0 hb0 hd0
        go_wp2_with (first | (go_at_call 62; (with_reducible refine (HOK0.out _ _ told (rs, _) (HB0.out.trans HB.out) HO.out A2.out).mono ?_); rintro e w5 ⟨v5, rfl, hro_, hb_⟩; have n0_ := Aside0.mk (HB.out.trans (hb_.to (Nat.le_trans HS.out HB.out.size) (Kd.R_base HO.out))); have n2_ := Aside0.mk hro_; have n3_ := Aside0.mk (blk_grown BK.out hb_.g (Kd.R_ne HO.out BK.out (by decide))); have n4_ := Aside0.mk (HG.out.trans hb_); clear HB HO BK HG hcz0 hfz0 hcz1 hfz1 hcz2 hfz2 hb_ hro_; have HB := n0_; have HO := n2_; have BK := n3_; have HG := n4_; clear n0_ n2_ n3_ n4_; obtain ⟨hcz0, hfz0, hcz1, hfz1, hcz2, hfz2⟩ := bk3 BK.out; obtain ⟨Av5, cv5, ev5⟩ := Kd.R_slice HO.out; subst ev5))
        refine bodyPost_ret (results_list (rs := [.tmp 4, .tmp 5]) rfl (by simp) (.tmp (.tmp .nil))) rfl ?_
        exact ⟨_, lE, HO.out, HG.out⟩
       ·have h0b : (rc == 0) = false := beq_eq_false_iff_ne.mpr hz
        by_cases hn0 : n = 0
        ·subst hn0
         rw [if_neg (by omega)] at h
         go_enter Try.func62, Try.ntmps62
         go_upto_region 17 with (first | ((with_reducible refine gate_dst (N := 2) rfl ?_); refine bxe 2 #[.int .i64 4, .int .i64 0, .slice (some ad0) m c] 72 ?_; intro gb hgb_ w4 hbox hb_; have n0_ := Aside0.mk (HB.out.trans (hb_.mono HS.out)); have n1_ := Aside0.mk hbox; have n2_ := Aside0.mk (Kd.R_below HO.out hb_); have n3_ := Aside0.mk (HG.out.trans (Se.Gr.below hb_ _)); clear HB HO HG; have HB := n0_; have BK := n1_; have HO := n2_; have HG := n3_; clear n0_ n1_ n2_ n3_ hbox hb_ hgb_; obtain ⟨hcz0, hfz0, hcz1, hfz1, hcz2, hfz2⟩ := bk3 BK.out))
         obtain ⟨ha0, hb0, hd0⟩ := HC0.out _ (HB0.out.trans HB.out)
         simp only [Nat.zero_mul, Nat.one_mul, Se.add0, Se.add3] at ha0 hb0 hd0
         go_upto_region 26 with (first | (go_at_call 62; (with_reducible refine (HOK0.out _ _ told (rs, _) (HB0.out.trans HB.out) HO.out A2.out).mono ?_); rintro e w5 ⟨v5, rfl, hro_, hb_⟩; have n0_ := Aside0.mk (HB.out.trans (hb_.to (Nat.le_trans HS.out HB.out.size) (Kd.R_base HO.out))); have n2_ := Aside0.mk hro_; have n3_ := Aside0.mk (blk_grown BK.out hb_.g (Kd.R_ne HO.out BK.out (by decide))); have n4_ := Aside0.mk (HG.out.trans hb_); clear HB HO BK HG hcz0 hfz0 hcz1 hfz1 hcz2 hfz2 hb_ hro_; have HB := n0_; have HO := n2_; have BK := n3_; have HG := n4_; clear n0_ n2_ n3_ n4_; obtain ⟨hcz0, hfz0, hcz1, hfz1, hcz2, hfz2⟩ := bk3 BK.out; obtain ⟨Av5, cv5, ev5⟩ := Kd.R_slice HO.out; subst ev5))
         unfold Se.second at h
         split at h
         ·cases h
         rename_i f1 hf1
         obtain ⟨ad1, k1_, n1_, A1, m1, c1, eA1, hm1, hc1, hok1⟩ := Se.kid HN.out hf1
         have HOK1 := Aside0.mk hok1
         have HC1 := Aside0.mk hc1
         clear hok1 hc1
         obtain rfl : ad0 = ad1 := by injection eA1
         have hm1b : (1 < m) = True := eq_true hm1
         have hm1c : ((1 : Int) < (m : Int)) = True := eq_true (by omega)
         have A3 := Aside0.mk h
         clear h hm1 eA1
         obtain ⟨ha1, hb1, hd1⟩ := HC1.out _ (HB0.out.trans HB.out)
         simp only [Nat.zero_mul, Nat.one_mul, Se.add0, Se.add3] at ha1 hb1 hd1
         go_wp2_with (first | (go_at_call 62; (with_reducible refine (HOK1.out _ _ rs r (HB0.out.trans HB.out) HO.out A3.out).mono ?_); rintro e w5 ⟨v5, rfl, hro_, hb_⟩; have n0_ := Aside0.mk (HB.out.trans (hb_.to (Nat.le_trans HS.out HB.out.size) (Kd.R_base HO.out))); have n2_ := Aside0.mk hro_; have n3_ := Aside0.mk (blk_grown BK.out hb_.g (Kd.R_ne HO.out BK.out (by decide))); have n4_ := Aside0.mk (HG.out.trans hb_); clear HB HO BK HG hcz0 hfz0 hcz1 hfz1 hcz2 hfz2 hb_ hro_; have HB := n0_; have HO := n2_; have BK := n3_; have HG := n4_; clear n0_ n2_ n3_ n4_; obtain ⟨hcz0, hfz0, hcz1, hfz1, hcz2, hfz2⟩ := bk3 BK.out; obtain ⟨Av5, cv5, ev5⟩ := Kd.R_slice HO.out; subst ev5))
         refine bodyPost_ret (results_list (rs := [.tmp 4, .tmp 5]) rfl (by simp) (.tmp (.tmp .nil))) rfl ?_
         exact ⟨_, lE, HO.out, HG.out⟩
        ·have hn0b : (n != 0) = true := bne_iff_ne.mpr hn0
         by_cases hnc : n = rc
         ·subst hnc
          rw [if_neg (by omega)] at h
          have hncb : (n != n) = false := bne_self_eq_false n
          go_enter Try.func62, Try.ntmps62
          go_upto_region 17 with (first | ((with_reducible refine gate_dst (N := 2) rfl ?_); refine bxe 2 #[.int .i64 4, .int .i64 n, .slice (some ad0) m c] 72 ?_; intro gb hgb_ w4 hbox hb_; have n0_ := Aside0.mk (HB.out.trans (hb_.mono HS.out)); have n1_ := Aside0.mk hbox; have n2_ := Aside0.mk (Kd.R_below HO.out hb_); have n3_ := Aside0.mk (HG.out.trans (Se.Gr.below hb_ _)); clear HB HO HG; have HB := n0_; have BK := n1_; have HO := n2_; have HG := n3_; clear n0_ n1_ n2_ n3_ hbox hb_ hgb_; obtain ⟨hcz0, hfz0, hcz1, hfz1, hcz2, hfz2⟩ := bk3 BK.out))
          obtain ⟨ha0, hb0, hd0⟩ := HC0.out _ (HB0.out.trans HB.out)
          simp only [Nat.zero_mul, Nat.one_mul, Se.add0, Se.add3] at ha0 hb0 hd0
          go_upto_region 26 with (first | (go_at_call 62; (with_reducible refine (HOK0.out _ _ told (rs, _) (HB0.out.trans HB.out) HO.out A2.out).mono ?_); rintro e w5 ⟨v5, rfl, hro_, hb_⟩; have n0_ := Aside0.mk (HB.out.trans (hb_.to (Nat.le_trans HS.out HB.out.size) (Kd.R_base HO.out))); have n2_ := Aside0.mk hro_; have n3_ := Aside0.mk (blk_grown BK.out hb_.g (Kd.R_ne HO.out BK.out (by decide))); have n4_ := Aside0.mk (HG.out.trans hb_); clear HB HO BK HG hcz0 hfz0 hcz1 hfz1 hcz2 hfz2 hb_ hro_; have HB := n0_; have HO := n2_; have BK := n3_; have HG := n4_; clear n0_ n2_ n3_ n4_; obtain ⟨hcz0, hfz0, hcz1, hfz1, hcz2, hfz2⟩ := bk3 BK.out; obtain ⟨Av5, cv5, ev5⟩ := Kd.R_slice HO.out; subst ev5))
          unfold Se.second at h
          split at h
          ·cases h
          rename_i f1 hf1
          obtain ⟨ad1, k1_, n1_, A1, m1, c1, eA1, hm1, hc1, hok1⟩ := Se.kid HN.out hf1
          have HOK1 := Aside0.mk hok1
          have HC1 := Aside0.mk hc1
          clear hok1 hc1
          obtain rfl : ad0 = ad1 := by injection eA1
          have hm1b : (1 < m) = True := eq_true hm1
          have hm1c : ((1 : Int) < (m : Int)) = True := eq_true (by omega)
          have A3 := Aside0.mk h
          clear h hm1 eA1
          obtain ⟨ha1, hb1, hd1⟩ := HC1.out _ (HB0.out.trans HB.out)
          simp only [Nat.zero_mul, Nat.one_mul, Se.add0, Se.add3] at ha1 hb1 hd1
          go_wp2_with (first | (go_at_call 62; (with_reducible refine (HOK1.out _ _ rs r (HB0.out.trans HB.out) HO.out A3.out).mono ?_); rintro e w5 ⟨v5, rfl, hro_, hb_⟩; have n0_ := Aside0.mk (HB.out.trans (hb_.to (Nat.le_trans HS.out HB.out.size) (Kd.R_base HO.out))); have n2_ := Aside0.mk hro_; have n3_ := Aside0.mk (blk_grown BK.out hb_.g (Kd.R_ne HO.out BK.out (by decide))); have n4_ := Aside0.mk (HG.out.trans hb_); clear HB HO BK HG hcz0 hfz0 hcz1 hfz1 hcz2 hfz2 hb_ hro_; have HB := n0_; have HO := n2_; have BK := n3_; have HG := n4_; clear n0_ n2_ n3_ n4_; obtain ⟨hcz0, hfz0, hcz1, hfz1, hcz2, hfz2⟩ := bk3 BK.out; obtain ⟨Av5, cv5, ev5⟩ := Kd.R_slice HO.out; subst ev5))
          refine bodyPost_ret (results_list (rs := [.tmp 4, .tmp 5]) rfl (by simp) (.tmp (.tmp .nil))) rfl ?_
          exact ⟨_, lE, HO.out, HG.out⟩
         ·rw [if_pos (.inr ⟨hn0, hnc⟩)] at h
          have hncb : (n != rc) = true := bne_iff_ne.mpr hnc
          obtain rfl := Option.some.inj h
          clear h
          go_enter Try.func62, Try.ntmps62
          go_upto_region 17 with (first | ((with_reducible refine gate_dst (N := 2) rfl ?_); refine bxe 2 #[.int .i64 4, .int .i64 n, .slice (some ad0) m c] 72 ?_; intro gb hgb_ w4 hbox hb_; have n0_ := Aside0.mk (HB.out.trans (hb_.mono HS.out)); have n1_ := Aside0.mk hbox; have n2_ := Aside0.mk (Kd.R_below HO.out hb_); have n3_ := Aside0.mk (HG.out.trans (Se.Gr.below hb_ _)); clear HB HO HG; have HB := n0_; have BK := n1_; have HO := n2_; have HG := n3_; clear n0_ n1_ n2_ n3_ hbox hb_ hgb_; obtain ⟨hcz0, hfz0, hcz1, hfz1, hcz2, hfz2⟩ := bk3 BK.out))
          obtain ⟨ha0, hb0, hd0⟩ := HC0.out _ (HB0.out.trans HB.out)
          simp only [Nat.zero_mul, Nat.one_mul, Se.add0, Se.add3] at ha0 hb0 hd0
          go_wp2_with (first | (go_at_call 62; (with_reducible refine (HOK0.out _ _ told (rs, _) (HB0.out.trans HB.out) HO.out A2.out).mono ?_); rintro e w5 ⟨v5, rfl, hro_, hb_⟩; have n0_ := Aside0.mk (HB.out.trans (hb_.to (Nat.le_trans HS.out HB.out.size) (Kd.R_base HO.out))); have n2_ := Aside0.mk hro_; have n3_ := Aside0.mk (blk_grown BK.out hb_.g (Kd.R_ne HO.out BK.out (by decide))); have n4_ := Aside0.mk (HG.out.trans hb_); clear HB HO BK HG hcz0 hfz0 hcz1 hfz1 hcz2 hfz2 hb_ hro_; have HB := n0_; have HO := n2_; have BK := n3_; have HG := n4_; clear n0_ n2_ n3_ n4_; obtain ⟨hcz0, hfz0, hcz1, hfz1, hcz2, hfz2⟩ := bk3 BK.out; obtain ⟨Av5, cv5, ev5⟩ := Kd.R_slice HO.out; subst ev5))
          refine bodyPost_ret (results_list (rs := [.tmp 4, .tmp 5]) rfl (by simp) (.tmp (.tmp .nil))) rfl ?_
          exact ⟨_, lE, HO.out, HG.out⟩
      ·rw [if_neg k4] at h
       have k4b : (k == 4) = false := beq_eq_false_iff_ne.mpr k4
       replace h := lO h; obtain ⟨q, A4, h⟩ := h
       obtain ⟨qs, qc⟩ := q
       have h5 := A4.out
       unfold Se.second at h5
       split at h5
       ·cases h5
       rename_i f1 hf1
       obtain ⟨ad1, k1_, n1_, A1, m1, c1, eA1, hm1, hc1, hok1⟩ := Se.kid HN.out hf1
       have HOK1 := Aside0.mk hok1
       have HC1 := Aside0.mk hc1
       clear hok1 hc1
       obtain rfl : ad0 = ad1 := by injection eA1
       have hm1b : (1 < m) = True := eq_true hm1
       have hm1c : ((1 : Int) < (m : Int)) = True := eq_true (by omega)
       have A3 := Aside0.mk h5
       clear h5 A4 hm1 eA1
       simp only at h
       go_enter Try.func62, Try.ntmps62
       go_upto_region 17 with (first | ((with_reducible refine gate_dst (N := 2) rfl ?_); refine bxe 2 #[.int .i64 k, .int .i64 n, .slice (some ad0) m c] 72 ?_; intro gb hgb_ w4 hbox hb_; have n0_ := Aside0.mk (HB.out.trans (hb_.mono HS.out)); have n1_ := Aside0.mk hbox; have n2_ := Aside0.mk (Kd.R_below HO.out hb_); have n3_ := Aside0.mk (HG.out.trans (Se.Gr.below hb_ _)); clear HB HO HG; have HB := n0_; have BK := n1_; have HO := n2_; have HG := n3_; clear n0_ n1_ n2_ n3_ hbox hb_ hgb_; obtain ⟨hcz0, hfz0, hcz1, hfz1, hcz2, hfz2⟩ := bk3 BK.out))
       obtain ⟨ha0, hb0, hd0⟩ := HC0.out _ (HB0.out.trans HB.out)
       simp only [Nat.zero_mul, Nat.one_mul, Se.add0, Se.add3] at ha0 hb0 hd0
       go_upto_region 27 with (first | (go_at_call 62; (with_reducible refine (HOK0.out _ _ told (rs, _) (HB0.out.trans HB.out) HO.out A2.out).mono ?_); rintro e w5 ⟨v5, rfl, hro_, hb_⟩; have n0_ := Aside0.mk (HB.out.trans (hb_.to (Nat.le_trans HS.out HB.out.size) (Kd.R_base HO.out))); have n2_ := Aside0.mk hro_; have n3_ := Aside0.mk (blk_grown BK.out hb_.g (Kd.R_ne HO.out BK.out (by decide))); have n4_ := Aside0.mk (HG.out.trans hb_); clear HB HO BK HG hcz0 hfz0 hcz1 hfz1 hcz2 hfz2 hb_ hro_; have HB := n0_; have HO := n2_; have BK := n3_; have HG := n4_; clear n0_ n2_ n3_ n4_; obtain ⟨hcz0, hfz0, hcz1, hfz1, hcz2, hfz2⟩ := bk3 BK.out; obtain ⟨Av5, cv5, ev5⟩ := Kd.R_slice HO.out; subst ev5))
       obtain ⟨ha1, hb1, hd1⟩ := HC1.out _ (HB0.out.trans HB.out)
       simp only [Nat.zero_mul, Nat.one_mul, Se.add0, Se.add3] at ha1 hb1 hd1
       by_cases hz : qc = 0
       ·subst hz
        rw [if_pos rfl] at h
        obtain rfl := Option.some.inj h
        clear h
        go_wp2_with (first | (go_at_call 62; (with_reducible refine (HOK1.out _ _ rs (qs, _) (HB0.out.trans HB.out) HO.out A3.out).mono ?_); rintro e w5 ⟨v5, rfl, hro_, hb_⟩; have n0_ := Aside0.mk (HB.out.trans (hb_.to (Nat.le_trans HS.out HB.out.size) (Kd.R_base HO.out))); have n2_ := Aside0.mk hro_; have n3_ := Aside0.mk (blk_grown BK.out hb_.g (Kd.R_ne HO.out BK.out (by decide))); have n4_ := Aside0.mk (HG.out.trans hb_); clear HB HO BK HG hcz0 hfz0 hcz1 hfz1 hcz2 hfz2 hb_ hro_; have HB := n0_; have HO := n2_; have BK := n3_; have HG := n4_; clear n0_ n2_ n3_ n4_; obtain ⟨hcz0, hfz0, hcz1, hfz1, hcz2, hfz2⟩ := bk3 BK.out; obtain ⟨Av5, cv5, ev5⟩ := Kd.R_slice HO.out; subst ev5))
        refine bodyPost_ret (results_list (rs := [.tmp 4, .tmp 5]) rfl (by simp) (.tmp (.tmp .nil))) rfl ?_
        exact ⟨_, lE, HO.out, HG.out⟩
       ·rw [if_neg hz] at h
        have h0b : (qc != 0) = true := bne_iff_ne.mpr hz
        obtain rfl := Option.some.inj h
        clear h
        go_wp2_with (first | (go_at_call 62; (with_reducible refine (HOK1.out _ _ rs (qs, _) (HB0.out.trans HB.out) HO.out A3.out).mono ?_); rintro e w5 ⟨v5, rfl, hro_, hb_⟩; have n0_ := Aside0.mk (HB.out.trans (hb_.to (Nat.le_trans HS.out HB.out.size) (Kd.R_base HO.out))); have n2_ := Aside0.mk hro_; have n3_ := Aside0.mk (blk_grown BK.out hb_.g (Kd.R_ne HO.out BK.out (by decide))); have n4_ := Aside0.mk (HG.out.trans hb_); clear HB HO BK HG hcz0 hfz0 hcz1 hfz1 hcz2 hfz2 hb_ hro_; have HB := n0_; have HO := n2_; have BK := n3_; have HG := n4_; clear n0_ n2_ n3_ n4_; obtain ⟨hcz0, hfz0, hcz1, hfz1, hcz2, hfz2⟩ := bk3 BK.out; obtain ⟨Av5, cv5, ev5⟩ := Kd.R_slice HO.out; subst ev5))
        refine bodyPost_ret (results_list (rs := [.tmp 4, .tmp 5]) rfl (by simp) (.tmp (.tmp .nil))) rfl ?_
        exact ⟨_, lE, HO.out, HG.out⟩
theorem spec_l16Eval.calls : ∀ (t : S72) (w0 : World) (A : Option Addr) (c : Nat), Kd.C k72 w0 A t.f2.length t.f2 → Se.Ok w0 (Se.ev t) t.f0 t.f1 A t.f2.length c := by
 intro t
 induction hN : SizeOf.sizeOf t using Nat.strongRecOn generalizing t with
 | _ N ih =>
 subst hN
 intro w0 A c h
 obtain ⟨k, n, ks⟩ := t
 have e : Se.ev ⟨k, n, ks⟩ = Se.node k n (Se.evs ks) := by funext told; unfold Se.ev; rfl
 rw [e]
 simp only at h ⊢
 refine Se.node_ok ⟨fun i f hf => ?_⟩
 obtain ⟨t, ht, rfl⟩ := Se.evs_at ks i f hf
 have hil : i < ks.length := by
  by_cases hl : i < ks.length
  ·exact hl
  ·rw [List.getElem?_eq_none (by omega)] at ht; cases ht
 obtain ⟨ad, A2, c2, e1, h1, h2, h3, h4, h5⟩ := at_T72 h (i : Int) (by omega) (by omega)
 have e2 : rd_T72 ks (i : Int) = t := by unfold rd_T72; rw [Int.toNat_natCast, List.getD, ht]; rfl
 rw [e2, Int.toNat_natCast] at h1 h2 h3
 rw [e2] at h4 h5
 refine ⟨hil, ad, t.f0, t.f1, A2, t.f2.length, c2, e1, h1, h2, h3, ih (SizeOf.sizeOf t) ?_ t rfl w0 A2 c2 h5⟩
 have hm : t ∈ ks := List.mem_of_getElem? ht
 have := List.sizeOf_lt_of_mem hm
 simp
 omega
def spec_EvalTree.f (k : Nat) (l : List S76) : Option (List Int × Int × Bool) := (spec_l16Tree.f k l).bind fun b => if b.2.2.2 = true then (Se.ev ⟨b.1, b.2.1, b.2.2.1⟩ []).bind fun q => if q.1.length > 200 then some ([], 0, false) else some (q.1, q.2, true) else some ([], 0, false)
set_option maxHeartbeats 8000000 in
set_option maxRecDepth 100000 in
theorem spec_EvalTree.calls (k : Nat) (A0 : Option Addr) (c0 : Nat) (l0 : List S76) (r1 : List Int) (r2 : Int) (r3 : Bool) (w : World) (hr0 : Kd.C k76 w A0 l0.length l0) (hc0 : l0.length ≤ c0) (h : spec_EvalTree.f k l0 = some (r1, r2, r3)) :
  Calls Try.prog 30 #[.slice A0 l0.length c0] w fun e w' => ∃ v0_ : Value, e = .returned (.tuple #[v0_, .int .i64 r2, .bool r3]) ∧ Kd.R (Kd.int .i64) 3 w' w.heap.size (fun _ => True) v0_ r1 ∧ Below w.heap.size w w' := by
 unfold spec_EvalTree.f at h
 have hu72 := Try.underlying72
 have HR0 := Aside0.mk hr0
 have HC0 := Aside0.mk hc0
 have HB := Aside0.mk (Below.refl w.heap.size w)
 clear hr0 hc0
 replace h := lO h
 obtain ⟨⟨tk, tn, ts, tb⟩, A1, h⟩ := h
 simp only at h
 cases tb with
 | false =>
  rw [if_neg (by simp)] at h
  simp only [Option.some.injEq, Prod.mk.injEq] at h
  obtain ⟨rfl, rfl, rfl⟩ := h
  go_enter Try.func30, Try.ntmps30
  go_wp2_with (first | (go_at_call 44; (with_reducible refine (spec_l16Tree.calls k _ _ l0 tk tn ts false _ (lC HR0.out) HC0.out A1.out).mono ?_); rintro e w5 ⟨v5, rfl, ho, hb⟩; have n0_ := Aside0.mk (below_step lB hb); have n1_ := Aside0.mk ho; clear HB; have HB := n0_; have HO := n1_; clear n0_ n1_ hb ho; obtain ⟨Av, cv, ev⟩ := Kd.R_slice HO.out; subst ev) | ((with_reducible refine gate_dst (N := 5) rfl ?_); refine bxe 5 #[.int .i64 0, .int .i64 0, .slice none 0 0] 72 ?_; intro gb hg w7 hbox hb; have n0_ := Aside0.mk (below_step lB hb); have n1_ := Aside0.mk hbox; have n2_ := lG w hg; clear HB; have HB := n0_; have BK := n1_; have GE := n2_; clear n0_ n1_ n2_ hg hbox hb; obtain ⟨hcz0, hfz0, hcz1, hfz1, hcz2, hfz2⟩ := bk3 BK.out))
  refine bodyPost_ret (results_list (rs := [.tmp 2, .tmp 3, .tmp 4]) rfl (by simp) (.tmp (.tmp (.tmp .nil)))) rfl ?_
  exact ⟨_, lE, Kd.R_nil _ _ _ _ _, lB⟩
 | true =>
  rw [if_pos rfl] at h
  replace h := lO h
  obtain ⟨⟨qs, qc⟩, A2, h⟩ := h
  simp only at h
  go_enter Try.func30, Try.ntmps30
  go_upto_region 4 with (first | (go_at_call 44; (with_reducible refine (spec_l16Tree.calls k _ _ l0 tk tn ts true _ (lC HR0.out) HC0.out A1.out).mono ?_); rintro e w5 ⟨v5, rfl, ho, hb⟩; have n0_ := Aside0.mk (below_step lB hb); have n1_ := Aside0.mk ho; clear HB; have HB := n0_; have HO := n1_; clear n0_ n1_ hb ho; obtain ⟨Av, cv, ev⟩ := Kd.R_slice HO.out; subst ev) | ((with_reducible refine gate_dst (N := 5) rfl ?_); refine bxe 5 #[.int .i64 0, .int .i64 0, .slice none 0 0] 72 ?_; intro gb hg w7 hbox hb; have n0_ := Aside0.mk (below_step lB hb); have n1_ := Aside0.mk hbox; have n2_ := lG w hg; have n3_ := Aside0.mk (Kd.R_below HO.out hb); have n4_ : Aside0 (Kd.R k72 72 w7 w.heap.size (fun k => True ∧ k ≠ gb) (.slice Av ts.length cv) ts) := ⟨Kd.R_mono (Kd.R_below (Kd.R_bound HO.out) hb) (fun k hk => ⟨trivial, by have := hk.2.2.1; omega⟩)⟩; clear HB HO; have HB := n0_; have BK := n1_; have GE := n2_; have HO := n3_; have HOE := n4_; clear n4_; clear n0_ n1_ n2_ n3_ hg hbox hb; obtain ⟨hcz0, hfz0, hcz1, hfz1, hcz2, hfz2⟩ := bk3 BK.out))
  have n0_ : Aside0 ((((w7.setCell ⟨gb, 0, none⟩ (.int .i64 tk)).setCell ⟨gb, 1, none⟩ (.int .i64 tn)).setCell ⟨gb, 2, none⟩ (.slice Av ts.length cv)).heap[gb]? = some (.cells #[.int .i64 tk, .int .i64 tn, .slice Av ts.length cv] 72 (0, 0))) := ⟨blk_put (cs := #[.int .i64 tk, .int .i64 tn, .slice none 0 0]) (blk_put (cs := #[.int .i64 tk, .int .i64 0, .slice none 0 0]) (blk_put (cs := #[.int .i64 0, .int .i64 0, .slice none 0 0]) BK.out 0 _ rfl) 1 _ rfl) 2 _ rfl⟩
  have n1_ : Aside0 (Kd.R k72 72 (((w7.setCell ⟨gb, 0, none⟩ (.int .i64 tk)).setCell ⟨gb, 1, none⟩ (.int .i64 tn)).setCell ⟨gb, 2, none⟩ (.slice Av ts.length cv)) w.heap.size (fun k => True ∧ k ≠ gb) (.slice Av ts.length cv) ts) := ⟨Kd.R_far (p := ⟨gb, 2, none⟩) (Kd.R_far (p := ⟨gb, 1, none⟩) (Kd.R_far (p := ⟨gb, 0, none⟩) (HOE.out) (fun _ hk => hk.2) _) (fun _ hk => hk.2) _) (fun _ hk => hk.2) _⟩
  have n2_ : Aside0 (Below w.heap.size w (((w7.setCell ⟨gb, 0, none⟩ (.int .i64 tk)).setCell ⟨gb, 1, none⟩ (.int .i64 tn)).setCell ⟨gb, 2, none⟩ (.slice Av ts.length cv))) := ⟨below_set (below_set (below_set HB.out GE.out) GE.out) GE.out⟩
  clear BK HO HOE HB hcz0 hfz0 hcz1 hfz1 hcz2 hfz2
  generalize ((w7.setCell ⟨gb, 0, none⟩ (.int .i64 tk)).setCell ⟨gb, 1, none⟩ (.int .i64 tn)).setCell ⟨gb, 2, none⟩ (.slice Av ts.length cv) = w8 at n0_ n1_ n2_ ⊢
  have BK := n0_
  have HO := n1_
  have HB := n2_
  clear n0_ n1_ n2_
  obtain ⟨hcz0, hfz0, hcz1, hfz1, hcz2, hfz2⟩ := bk3 BK.out
  have hOk := spec_l16Eval.calls ⟨tk, tn, ts⟩ w8 Av cv (Kd.R_reads' HO.out).2.2
  have HOK := Aside0.mk (hOk w8 (.slice none 0 0) [] _ (Below.refl _ _) (Kd.R_nil _ _ _ _ _) A2.out)
  clear hOk
  by_cases hq : qs.length > 200
  ·rw [if_pos hq] at h
   simp only [Option.some.injEq, Prod.mk.injEq] at h
   obtain ⟨rfl, rfl, rfl⟩ := h
   have hqb : decide ((200 : Int) < (qs.length : Int)) = true := decide_eq_true (by omega)
   have hqc : decide (200 < qs.length) = true := decide_eq_true hq
   go_wp2_with (first | (go_at_call 62; (with_reducible refine HOK.out.mono ?_); rintro e w9 ⟨v9, rfl, hro, hgr⟩; have n0_ : Aside0 (Below w.heap.size w w9) := ⟨HB.out.trans (hgr.to (below_size HB.out) (fun k hk => by simp [Value.ownBlock] at hk))⟩; have n1_ := Aside0.mk hro; clear HB hro hgr; have HB := n0_; have HO9 := n1_; clear n0_ n1_; obtain ⟨A9, c9, e9⟩ := Kd.R_slice HO9.out; subst e9))
   refine bodyPost_ret (results_list (rs := [.tmp 2, .tmp 3, .tmp 4]) rfl (by simp) (.tmp (.tmp (.tmp .nil)))) rfl ?_
   exact ⟨_, lE, Kd.R_nil _ _ _ _ _, lB⟩
  ·rw [if_neg hq] at h
   simp only [Option.some.injEq, Prod.mk.injEq] at h
   obtain ⟨rfl, rfl, rfl⟩ := h
   have hqb : decide ((200 : Int) < (qs.length : Int)) = false := decide_eq_false (by omega)
   have hqc : decide (200 < qs.length) = false := decide_eq_false hq
   have HSZ := Aside0.mk (below_size HB.out)
   go_wp2_with (first | (go_at_call 62; (with_reducible refine HOK.out.mono ?_); rintro e w9 ⟨v9, rfl, hro, hgr⟩; have n0_ : Aside0 (Below w.heap.size w w9) := ⟨HB.out.trans (hgr.to (below_size HB.out) (fun k hk => by simp [Value.ownBlock] at hk))⟩; have n1_ := Aside0.mk (Kd.R_lower hro HSZ.out); clear HB hro hgr; have HB := n0_; have HO9 := n1_; clear n0_ n1_; obtain ⟨A9, c9, e9⟩ := Kd.R_slice HO9.out; subst e9))
   refine bodyPost_ret (results_list (rs := [.tmp 2, .tmp 3, .tmp 4]) rfl (by simp) (.tmp (.tmp (.tmp .nil)))) rfl ?_
   exact ⟨_, lE, HO9.out, lB⟩
end Go.Proofs.Ytgjojppbichaiaa.Q
