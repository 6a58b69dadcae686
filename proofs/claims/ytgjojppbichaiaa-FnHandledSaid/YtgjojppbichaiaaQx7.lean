-- Written by the program wip/tools/pr.py of this claim's session, over the kit's print.py.
import Derived.Test.YtgjojppbichaiaaQx0
import Derived.Test.YtgjojppbichaiaaQx6
namespace Go.Proofs.Ytgjojppbichaiaa.Q
open Go.RowKit Go.Proofs.YtgjojppbichaiaaW.PrintWords Go.Proofs.YtgjojppbichaiaaW.PrintLast Go.Proofs.YtgjojppbichaiaaW.PrintMore
attribute [local go_sem] max2_int min2_int max_two min_two max_three min_three max_four min_four   -- for this text's walks alone
set_option linter.unusedVariables false
set_option linter.unusedSimpArgs false
theorem Sm.info3 : (Try.prog.info? 3).map (fun i => (i.zero, i.size, i.bytes)) = some (some (.int .i64 0), 1, 8) := by kernel_rfl
abbrev Sm.F := Option (List Int)
def Sm.second (fs : List Sm.F) : Sm.F := match fs[1]? with
  | none => none
  | some f => f.bind fun s => if s.length < 1048576 then some s else none
def Sm.put (k : Nat) : List Int → List Int → Sm.F
  | b, [] => some b
  | b, x :: xs => (spec_l1Put.f k b x).bind fun q => Sm.put k q xs
def Sm.hit (n x : Int) : Bool := decide (n = 0) || decide (n = x)
def Sm.left (n : Int) : List Int → List Int
  | [] => []
  | x :: xs => if Sm.hit n x = true then Sm.left n xs else x :: Sm.left n xs
def Sm.caught (n : Int) : List Int → Bool
  | [] => false
  | x :: xs => if Sm.hit n x = true then true else Sm.caught n xs
def Sm.node (k : Nat) (kd n : Int) (fs : List Sm.F) : Sm.F :=
  if kd = 1 then some []
  else if kd = 2 then some [n]
  else match fs[0]? with
    | none => none
    | some f => if kd = 6 then (if n = 0 then some [] else f)
      else f.bind fun b =>
        if kd = 4 then (if b.length < 1048576 then (if Sm.caught n b = true then (Sm.second fs).bind fun s => Sm.put k (Sm.left n b) s else some (Sm.left n b)) else none)
        else (Sm.second fs).bind fun s => Sm.put k b s
mutual
def Sm.may (k : Nat) : S72 → Sm.F
  | ⟨kd, n, ts⟩ => Sm.node k kd n (Sm.mays k ts)
def Sm.mays (k : Nat) : List S72 → List Sm.F
  | [] => []
  | t :: ts => Sm.may k t :: Sm.mays k ts
end
theorem Sm.add0 (a : Addr) : a.add 0 = a := by unfold Addr.add; rw [if_pos rfl]
theorem Sm.add3 (a : Addr) : a.add 3 = ⟨a.block, a.off + 3, none⟩ := by unfold Addr.add; rw [if_neg (by decide)]
theorem Sm.mays_at (k : Nat) : ∀ (ts : List S72) (i : Nat) (f : Sm.F), (Sm.mays k ts)[i]? = some f → ∃ t, ts[i]? = some t ∧ f = Sm.may k t
  | [], i, f, h => by simp [Sm.mays] at h
  | t :: ts, 0, f, h => by
    simp only [Sm.mays, List.getElem?_cons_zero, Option.some.injEq] at h
    exact ⟨t, rfl, h.symm⟩
  | t :: ts, i + 1, f, h => by
    simp only [Sm.mays, List.getElem?_cons_succ] at h ⊢
    exact Sm.mays_at k ts i f h
theorem Sm.drop_rd {s : List Int} {i : Nat} (h : i < s.length) : s.drop i = rd s (i : Int) :: s.drop (i + 1) := by
  rw [List.drop_eq_getElem_cons h]
  congr 1
  unfold rd
  simp [h]
def Sm.Post (w : World) (r : List Int) (e : Ending) (w' : World) : Prop := ∃ v', e = .returned v' ∧ (Kd.int .i64).R 3 w' w.heap.size (fun _ => True) v' r ∧ Below w.heap.size w w'
abbrev Sm.Ok (w0 : World) (f : Sm.F) (kd n : Int) (A : Option Addr) (m c : Nat) : Prop :=
  ∀ (w : World) (r : List Int), Below w0.heap.size w0 w → f = some r →
    Calls Try.prog 60 #[.agg #[.int .i64 kd, .int .i64 n, .slice A m c]] w (Sm.Post w r)
structure Sm.Nd (w0 : World) (A : Option Addr) (m : Nat) (fs : List Sm.F) : Prop where
  kid : ∀ i f, fs[i]? = some f → i < m ∧ ∃ ad k' n' A' m' c', A = some ad ∧ w0.cell? (ad.add (i * 3)) = some (.int .i64 k') ∧ w0.cell? ⟨(ad.add (i * 3)).block, (ad.add (i * 3)).off + 1, none⟩ = some (.int .i64 n') ∧ w0.cell? ⟨(ad.add (i * 3)).block, (ad.add (i * 3)).off + 2, none⟩ = some (.slice A' m' c') ∧ Sm.Ok w0 f k' n' A' m' c'
theorem Sm.kid {w0 : World} {A : Option Addr} {m : Nat} {fs : List Sm.F} (hN : Sm.Nd w0 A m fs) {i : Nat} {f : Sm.F} (hf : fs[i]? = some f) : ∃ ad k' n' A' m' c', A = some ad ∧ i < m ∧ (∀ w, Below w0.heap.size w0 w → w.cell? (ad.add (i * 3)) = some (.int .i64 k') ∧ w.cell? ⟨(ad.add (i * 3)).block, (ad.add (i * 3)).off + 1, none⟩ = some (.int .i64 n') ∧ w.cell? ⟨(ad.add (i * 3)).block, (ad.add (i * 3)).off + 2, none⟩ = some (.slice A' m' c')) ∧ Sm.Ok w0 f k' n' A' m' c' := by
  obtain ⟨h1, ad, k', n', A', m', c', h2, h3, h4, h5, h6⟩ := hN.kid i f hf
  exact ⟨ad, k', n', A', m', c', h2, h1, fun w hw => ⟨pw_cell_below hw h3, pw_cell_below hw h4, pw_cell_below hw h5⟩, h6⟩
set_option maxHeartbeats 8000000 in
set_option maxRecDepth 100000 in
theorem Sm.node_ok (k : Nat) {w0 : World} {kd n : Int} {A : Option Addr} {m c : Nat} {fs : List Sm.F} (hN : Sm.Nd w0 A m fs) : Sm.Ok w0 (Sm.node k kd n fs) kd n A m c := by
 intro w r hB0 h
 have hu45 := Try.underlying45
 have hu70 := Try.underlying70
 have hu72 := Try.underlying72
 have HN := Aside0.mk hN
 have HB := Aside0.mk (Below.refl w.heap.size w)
 have HB0 := Aside0.mk hB0
 have HS := Aside0.mk hB0.size
 clear hB0 hN
 unfold Sm.node at h
 by_cases k1 : kd = 1
 ·rw [if_pos k1] at h
  subst k1
  obtain rfl := Option.some.inj h
  clear h
  go_enter Try.func60, Try.ntmps60
  go_wp2_with (first | ((with_reducible refine gate_dst (N := 1) rfl ?_); refine bxe 1 #[.int .i64 1, .int .i64 n, .slice A m c] 72 ?_; intro gb hgb_ w4 hbox hb_; have n0_ := Aside0.mk (below_step HB.out hb_); have n1_ := Aside0.mk hbox; clear HB; have HB := n0_; have BK := n1_; clear n0_ n1_ hbox hb_ hgb_; obtain ⟨hcz0, hfz0, hcz1, hfz1, hcz2, hfz2⟩ := bk3 BK.out))
  go_ret
  exact ⟨_, lE, Kd.R_nil _ _ _ _ _, HB.out⟩
 ·rw [if_neg k1] at h
  have k1b : (kd == 1) = false := beq_eq_false_iff_ne.mpr k1
  by_cases k2 : kd = 2
  ·rw [if_pos k2] at h
   subst k2
   obtain rfl := Option.some.inj h
   clear h
   go_enter Try.func60, Try.ntmps60
   go_wp2_with (first | ((with_reducible refine gate_dst (N := 1) rfl ?_); refine bxe 1 #[.int .i64 2, .int .i64 n, .slice A m c] 72 ?_; intro gb hgb_ w4 hbox hb_; have n0_ := Aside0.mk (below_step HB.out hb_); have n1_ := Aside0.mk hbox; clear HB; have HB := n0_; have BK := n1_; clear n0_ n1_ hbox hb_ hgb_; obtain ⟨hcz0, hfz0, hcz1, hfz1, hcz2, hfz2⟩ := bk3 BK.out) | ((with_reducible refine gate_dst (N := 18) rfl ?_); refine Kd.R_lit (Kd.int .i64) w.heap.size 3 ?hg (N := 18) ?hd (w0 := w) (xs := [n]) (inner := [.int .i64 n]) (ok := fun _ => True) (okp := fun _ => True) ?hr ?hp (fun _ hk => hk) trivial HB.out (below_size HB.out) (by simp) ?_; (case hd => rfl); (case hg => rfl); (case hr => first | (go_simp; done) | (go_simp; rfl)); (case hp => exact (Reps.one (show Kd.M (Kd.int .i64) _ _ _ n [.int .i64 n] from rfl) (Reps.none _ _))); intro v6 w6 ho hb hg_ hnew_; clear hg_ hnew_; have n0_ := Aside0.mk ho; have n1_ := Aside0.mk hb; clear HB ho hb; have HO := n0_; have HB := n1_; clear n0_ n1_; obtain ⟨Ap, cp, ep⟩ := Kd.R_slice HO.out; subst ep))
   go_ret
   exact ⟨_, lE, HO.out, HB.out⟩
  ·rw [if_neg k2] at h
   have k2b : (kd == 2) = false := beq_eq_false_iff_ne.mpr k2
   split at h
   ·cases h
   rename_i f0 hf0
   obtain ⟨ad0, k0_, n0_, A0, m0, c0, eA0, hm0, hc0, hok0⟩ := Sm.kid HN.out hf0
   have HOK0 := Aside0.mk hok0
   have HC0 := Aside0.mk hc0
   clear hok0 hc0
   have hm0b : (0 < m) = True := eq_true hm0
   have hm0c : ((0 : Int) < (m : Int)) = True := eq_true (by omega)
   clear hm0
   subst eA0
   by_cases k6 : kd = 6
   ·rw [if_pos k6] at h
    subst k6
    by_cases hn0 : n = 0
    ·subst hn0
     rw [if_pos rfl] at h
     obtain rfl := Option.some.inj h
     clear h
     go_enter Try.func60, Try.ntmps60
     go_wp2_with (first | ((with_reducible refine gate_dst (N := 1) rfl ?_); refine bxe 1 #[.int .i64 6, .int .i64 0, .slice (some ad0) m c] 72 ?_; intro gb hgb_ w4 hbox hb_; have n0_ := Aside0.mk (below_step HB.out hb_); have n1_ := Aside0.mk hbox; clear HB; have HB := n0_; have BK := n1_; clear n0_ n1_ hbox hb_ hgb_; obtain ⟨hcz0, hfz0, hcz1, hfz1, hcz2, hfz2⟩ := bk3 BK.out))
     go_ret
     exact ⟨_, lE, Kd.R_nil _ _ _ _ _, HB.out⟩
    ·rw [if_neg hn0] at h
     have hn0b : (n == 0) = false := beq_eq_false_iff_ne.mpr hn0
     have A2 := Aside0.mk h
     clear h
     go_enter Try.func60, Try.ntmps60
     go_upto_region 9 with (first | ((with_reducible refine gate_dst (N := 1) rfl ?_); refine bxe 1 #[.int .i64 6, .int .i64 n, .slice (some ad0) m c] 72 ?_; intro gb hgb_ w4 hbox hb_; have n0_ := Aside0.mk (below_step HB.out hb_); have n1_ := Aside0.mk hbox; clear HB; have HB := n0_; have BK := n1_; clear n0_ n1_ hbox hb_ hgb_; obtain ⟨hcz0, hfz0, hcz1, hfz1, hcz2, hfz2⟩ := bk3 BK.out))
     obtain ⟨ha0, hb0, hd0⟩ := HC0.out _ (HB0.out.trans (HB.out.mono HS.out))
     simp only [Nat.zero_mul, Nat.one_mul, Sm.add0, Sm.add3] at ha0 hb0 hd0
     go_wp2_with (first | (go_at_call 60; (with_reducible refine (HOK0.out _ _ (HB0.out.trans (HB.out.mono HS.out)) A2.out).mono ?_); rintro e w5 ⟨v5, rfl, hro_, hb_⟩; have HC5 := Aside0.mk (below_size HB.out); have n0_ := Aside0.mk (below_step HB.out hb_); have n2_ := Aside0.mk (Kd.R_bound hro_); have n3_ := Aside0.mk ((hb_.block gb (blk_lt BK.out)).trans BK.out); clear HB BK hcz0 hfz0 hcz1 hfz1 hcz2 hfz2 hb_ hro_; have HB := n0_; have HO0 := n2_; have BK := n3_; clear n0_ n2_ n3_; obtain ⟨hcz0, hfz0, hcz1, hfz1, hcz2, hfz2⟩ := bk3 BK.out; obtain ⟨Av0, cv0, ev0⟩ := Kd.R_slice HO0.out; subst ev0))
     go_ret
     exact ⟨_, lE, Kd.R_lower (Kd.R_mono HO0.out (fun _ _ => trivial)) HC5.out, HB.out⟩
   ·rw [if_neg k6] at h
    have k6b : (kd == 6) = false := beq_eq_false_iff_ne.mpr k6
    replace h := lO h; obtain ⟨b, A2, h⟩ := h
    by_cases k4 : kd = 4
    ·rw [if_pos k4] at h
     subst k4
     split at h
     case isFalse => cases h
     rename_i hbl
     have HBL := Aside0.mk hbl
     clear hbl
     have H := Aside0.mk h
     clear h
     go_enter Try.func60, Try.ntmps60
     go_upto_region 10 with (first | ((with_reducible refine gate_dst (N := 1) rfl ?_); refine bxe 1 #[.int .i64 4, .int .i64 n, .slice (some ad0) m c] 72 ?_; intro gb hgb_ w4 hbox hb_; have n0_ := Aside0.mk (below_step HB.out hb_); have n1_ := Aside0.mk hbox; clear HB; have HB := n0_; have BK := n1_; clear n0_ n1_ hbox hb_ hgb_; obtain ⟨hcz0, hfz0, hcz1, hfz1, hcz2, hfz2⟩ := bk3 BK.out))
     obtain ⟨ha0, hb0, hd0⟩ := HC0.out _ (HB0.out.trans (HB.out.mono HS.out))
     simp only [Nat.zero_mul, Nat.one_mul, Sm.add0, Sm.add3] at ha0 hb0 hd0
     go_wp2_with (first | (go_at_call 60; (with_reducible refine (HOK0.out _ _ (HB0.out.trans (HB.out.mono HS.out)) A2.out).mono ?_); rintro e w1 ⟨v5, rfl, hro_, hb_⟩; have HC5 := Aside0.mk (below_size HB.out); have n0_ := Aside0.mk (below_step HB.out hb_); have n2_ := Aside0.mk (Kd.R_bound hro_); have n3_ := Aside0.mk ((hb_.block gb (blk_lt BK.out)).trans BK.out); clear HB BK hcz0 hfz0 hcz1 hfz1 hcz2 hfz2 hb_ hro_; have HB := n0_; have HO0 := n2_; have BK := n3_; clear n0_ n2_ n3_; obtain ⟨hcz0, hfz0, hcz1, hfz1, hcz2, hfz2⟩ := bk3 BK.out; obtain ⟨Av0, cv0, ev0⟩ := Kd.R_slice HO0.out; subst ev0))
     go_loopg [4, 5, 39] (b.length + 1) (fun j v4 v5 v39 wr => ∃ (i q : Nat) (o : List Int) (ct : Bool), v39 = .int .i64 (i : Int) ∧ v5 = .bool ct ∧ j = q + 1 ∧ i + q = b.length ∧ Aside0 (o ++ Sm.left n (b.drop i) = Sm.left n b) ∧ Aside0 ((ct || Sm.caught n (b.drop i)) = Sm.caught n b) ∧ Aside0 (o.length ≤ i) ∧ Aside0 (Kd.R (Kd.int .i64) 3  wr w1.heap.size (fun _ => True) v4 o) ∧ Aside0 (Below w1.heap.size w1 wr))
     case atStart => exact ⟨0, b.length, [], false, rfl, rfl, rfl, by omega, ⟨rfl⟩, ⟨rfl⟩, ⟨Nat.le_refl _⟩, ⟨Kd.R_nil _ _ _ _ _⟩, ⟨Below.refl _ _⟩⟩
     case round =>
      clear hcz0 hfz0 hcz1 hfz1 hcz2 hfz2
      obtain ⟨i, q, o, ct, rfl, rfl, rfl, hiq, HL1, HL2, HL3, HO4, HB1⟩ := hrel
      obtain ⟨Aw, cw, ew⟩ := Kd.R_slice HO4.out
      subst ew
      have BK2 := Aside0.mk ((HB1.out.block gb (blk_lt BK.out)).trans BK.out)
      obtain ⟨hcz0, hfz0, hcz1, hfz1, hcz2, hfz2⟩ := bk3 BK2.out
      cases q with
      | zero =>
       have hd1 : decide ((i : Int) < (b.length : Int)) = false := decide_eq_false (by omega)
       have hl1 := HL1.out
       have hl2 := HL2.out
       rw [List.drop_eq_nil_of_le (by omega)] at hl1 hl2
       simp only [Sm.left, Sm.caught, List.append_nil, Bool.or_false] at hl1 hl2
       have h := H.out
       rw [← hl1, ← hl2] at h
       clear HL1 HL2 H hl1 hl2
       have n0_ := Aside0.mk (below_step HB.out HB1.out)
       have HSZ1 := Aside0.mk (below_size HB.out)
       clear HB BK
       have HB := n0_
       have BK := BK2
       clear n0_ BK2
       cases ct with
       | false =>
        rw [if_neg (by simp)] at h
        obtain rfl := Option.some.inj h
        clear h
        go_wp2
        go_ret
        exact ⟨_, lE, Kd.R_lower HO4.out HSZ1.out, HB.out⟩
       | true =>
        rw [if_pos rfl] at h
        go_upto_region 24 with (fail)
        obtain ⟨W1, hW1⟩ : ∃ W1 : Nat, W1 = wr.heap.size := ⟨_, rfl⟩
        have HOb : Aside0 (Kd.R (Kd.int .i64) 3  wr w.heap.size (fun k => k < W1) (.slice Aw o.length cw) o) := ⟨Kd.R_lower (Kd.R_mono (Kd.R_bound HO4.out) (fun k hk => hW1 ▸ hk.2.2.1)) HSZ1.out⟩
        clear HO4 HSZ1 HC5 HO0
        replace h := lO h; obtain ⟨sO, A4, h⟩ := h
        have h5 := A4.out
        unfold Sm.second at h5
        split at h5
        ·cases h5
        rename_i f1 hf1
        obtain ⟨ad1, k1_, n1_, A1, m1, c1, eA1, hm1, hc1, hok1⟩ := Sm.kid HN.out hf1
        have HOK1 := Aside0.mk hok1
        have HC1 := Aside0.mk hc1
        clear hok1 hc1
        obtain rfl : ad0 = ad1 := by injection eA1
        have hm1b : (1 < m) = True := eq_true hm1
        have hm1c : ((1 : Int) < (m : Int)) = True := eq_true (by omega)
        replace h5 := lO h5; obtain ⟨s, A3, h5⟩ := h5
        split at h5
        case isFalse => cases h5
        rename_i hsl
        obtain rfl := Option.some.inj h5
        have HP := Aside0.mk h
        clear h h5 A4 hm1 eA1
        obtain ⟨ha1, hb1, hd1⟩ := HC1.out _ (HB0.out.trans (HB.out.mono HS.out))
        simp only [Nat.zero_mul, Nat.one_mul, Sm.add0, Sm.add3] at ha1 hb1 hd1
        go_wp2_with (first | (go_at_call 60; (with_reducible refine (HOK1.out _ _ (HB0.out.trans (HB.out.mono HS.out)) A3.out).mono ?_); rintro e w2 ⟨v5, rfl, hro_, hb_⟩; have HC5 := Aside0.mk (below_size HB.out); have n0_ := Aside0.mk (below_step HB.out hb_); have n2_ := Aside0.mk (Kd.R_bound hro_); have n3_ := Aside0.mk ((hb_.block gb (blk_lt BK.out)).trans BK.out); have n9_ := Aside0.mk (Kd.R_mono (Kd.R_below HOb.out hb_) (fun k hk => (Or.inl hk : k < W1 ∨ w2.heap.size ≤ k))); clear HOb; have HOb := n9_; clear n9_; clear HB BK hcz0 hfz0 hcz1 hfz1 hcz2 hfz2 hb_ hro_; have HB := n0_; have HO1 := n2_; have BK := n3_; clear n0_ n2_ n3_; obtain ⟨hcz0, hfz0, hcz1, hfz1, hcz2, hfz2⟩ := bk3 BK.out; obtain ⟨Av1, cv1, ev1⟩ := Kd.R_slice HO1.out; subst ev1))
        have HOs : Aside0 (Kd.R (Kd.int .i64) 3  w2 w.heap.size (fun k => ¬ (k < W1 ∨ w2.heap.size ≤ k)) (.slice Av1 s.length cv1) s) := ⟨Kd.R_lower (Kd.R_mono HO1.out (fun k hk => by have := hk.2.1; have := hk.2.2.1; omega)) HC5.out⟩
        clear HO1 HC5
        go_loopg [3, 67] (s.length + 1) (fun j v3 v67 wz => ∃ (i q : Nat) (b1 : List Int), v67 = .int .i64 (i : Int) ∧ j = q + 1 ∧ i + q = s.length ∧ Aside0 (Sm.put k b1 (s.drop i) = some r) ∧ Aside0 (Kd.R (Kd.int .i64) 3  wz w.heap.size (fun k => k < W1 ∨ w2.heap.size ≤ k) v3 b1) ∧ Aside0 (Kd.R (Kd.int .i64) 3  wz w.heap.size (fun k => ¬ (k < W1 ∨ w2.heap.size ≤ k)) (.slice Av1 s.length cv1) s) ∧ Aside0 (Below w.heap.size w wz) ∧ Aside0 (w2.heap.size ≤ wz.heap.size))
        case atStart => exact ⟨0, s.length, o, rfl, rfl, by omega, HP, HOb, HOs, HB, ⟨Nat.le_refl _⟩⟩
        case round =>
         clear HOb HOs HB BK HP hcz0 hfz0 hcz1 hfz1 hcz2 hfz2
         obtain ⟨i, q, b1, rfl, rfl, hiq, HP, HOb, HOs, HB, HSZ⟩ := hrel
         obtain ⟨Aw, cw, ew⟩ := Kd.R_slice HOb.out
         subst ew
         have h := HP.out
         clear HP
         cases q with
         | zero =>
          have hd1 : decide ((i : Int) < (s.length : Int)) = false := decide_eq_false (by omega)
          rw [List.drop_eq_nil_of_le (by omega)] at h
          obtain rfl := Option.some.inj h
          clear h
          go_wp2
          go_ret
          exact ⟨_, lE, Kd.R_mono HOb.out (fun _ _ => trivial), HB.out⟩
         | succ q =>
          have hil : i < s.length := by omega
          have hd1 : decide ((i : Int) < (s.length : Int)) = true := decide_eq_true (by omega)
          rw [Sm.drop_rd hil] at h
          simp only [Sm.put] at h
          replace h := lO h; obtain ⟨b2, A5, h⟩ := h
          have HP := Aside0.mk h
          clear h
          have p70 : 0 ≤ (i : Int) := by omega
          have q70 : (i : Int) < (s.length : Int) := by omega
          obtain ⟨ad70, e70, hx70⟩ := Kd.at_int (Kd.R_reads' HOs.out).2.2 (i : Int) p70 q70
          subst e70
          rw [Int.toNat_natCast] at hx70
          replace p70 := eq_true p70
          replace q70 := eq_true q70
          go_wp2_with (first | (go_at_call 86; (with_reducible refine (spec_l1Put.calls k (fun k => k < W1 ∨ w2.heap.size ≤ k) _ b1 (rd s (i : Int)) b2 w _ HB.out HOb.out A5.out).mono ?_); rintro e w6 ⟨v6, rfl, ho, hb, hk⟩; have n0_ := Aside0.mk (Kd.R_mono ho (fun k hk2 => (hk2.elim (fun a => a) (fun a => Or.inr (Nat.le_trans HSZ.out a)) : k < W1 ∨ w2.heap.size ≤ k))); have n1_ := Aside0.mk hb; have n2_ := Aside0.mk (Kd.R_kept HOs.out hk (fun k a => a)); have n3_ := Aside0.mk (Nat.le_trans HSZ.out hk.1); clear HOb HOs HB HSZ ho hb hk hx70; have HOb := n0_; have HB := n1_; have HOs := n2_; have HSZ := n3_; clear n0_ n1_ n2_ n3_; obtain ⟨Az, cz, ez⟩ := Kd.R_slice HOb.out; subst ez))
          go_roundg (q + 1)
          case measure => omega
          case rel => exact ⟨i + 1, q, b2, by go_num, rfl, by omega, HP, HOb, HOs, HB, HSZ⟩
      | succ q =>
       have hil : i < b.length := by omega
       have hd1 : decide ((i : Int) < (b.length : Int)) = true := decide_eq_true (by omega)
       have hl1 := HL1.out
       have hl2 := HL2.out
       rw [Sm.drop_rd hil] at hl1 hl2
       simp only [Sm.left, Sm.caught] at hl1 hl2
       clear HL1 HL2
       have HO2 := Aside0.mk (Kd.R_below HO0.out HB1.out)
       have p70 : 0 ≤ (i : Int) := by omega
       have q70 : (i : Int) < (b.length : Int) := by omega
       obtain ⟨ad70, e70, hx70⟩ := Kd.at_int (Kd.R_reads' HO2.out).2.2 (i : Int) p70 q70
       subst e70
       rw [Int.toNat_natCast] at hx70
       replace p70 := eq_true p70
       replace q70 := eq_true q70
       have hbl := HBL.out
       have hil3 := HL3.out
       by_cases hn0 : n = 0
       ·subst hn0
        have hh : Sm.hit 0 (rd b (i : Int)) = true := by simp [Sm.hit]
        rw [if_pos hh] at hl1 hl2
        go_wp2
        go_roundg (q + 1)
        case measure => omega
        case rel => exact ⟨i + 1, q, o, true, by go_num, rfl, rfl, by omega, ⟨hl1⟩, ⟨by rw [← hl2]; cases ct <;> rfl⟩, ⟨by omega⟩, ⟨lR HO4.out⟩, HB1⟩
       ·have hn0b : (n == 0) = false := beq_eq_false_iff_ne.mpr hn0
        by_cases hnx : n = rd b (i : Int)
        ·have hh : Sm.hit n (rd b (i : Int)) = true := by simp [Sm.hit, hnx]
         have hnxb : (n == rd b (i : Int)) = true := beq_iff_eq.mpr hnx
         clear hnx
         rw [if_pos hh] at hl1 hl2
         go_wp2
         go_roundg (q + 1)
         case measure => omega
         case rel => exact ⟨i + 1, q, o, true, by go_num, rfl, rfl, by omega, ⟨hl1⟩, ⟨by rw [← hl2]; cases ct <;> rfl⟩, ⟨by omega⟩, ⟨lR HO4.out⟩, HB1⟩
        ·have hh : ¬ Sm.hit n (rd b (i : Int)) = true := by simp [Sm.hit, hn0, hnx]
         have hnxb : (n == rd b (i : Int)) = false := beq_eq_false_iff_ne.mpr hnx
         rw [if_neg hh] at hl1 hl2
         go_wp2_with (first | ((with_reducible refine gate_builtin (b := .append) (xs := #[.tmp 52, .tmp 54]) rfl ?_); at_builtin; refine Kd.R_append (Kd.int .i64) (w0 := w1) w1.heap.size rfl (.tmp 52) (.tmp 54) 45 3 (.int .i64 0) 8 rfl Try.underlying45 Sm.info3 rfl (by decide) (by omega) (.slice Aw o.length cw) o (rd b (i : Int)) [.int .i64 (rd b (i : Int))] (fun _ => True) (fun _ => False) rfl (by first | (go_simp; done) | (go_simp; rfl)) ?aP (fun _ hk => hk.elim) (fun _ _ => trivial) ?aO ?aB ?aS ?aL ?_; (case aP => exact rfl); (case aO => exact HO4.out); (case aB => exact HB1.out); (case aS => exact HB1.out.size); (case aL => omega); intro v6 w6 ho hb hg hat; clear HO4 HB1 hg hat BK2 HO2 hx70 hcz0 hfz0 hcz1 hfz1 hcz2 hfz2; have HO4 := Aside0.mk ho; have HB1 := Aside0.mk hb; clear ho hb; obtain ⟨Ap, cp, ep⟩ := Kd.R_slice HO4.out; subst ep))
         have HO4' : Aside0 (Kd.R (Kd.int .i64) 3 w6 w1.heap.size (fun _ => True) (.slice Ap (o.length + 1) cp) (o ++ [rd b (i : Int)])) := ⟨by have h_ := HO4.out; rw [List.length_append] at h_; exact h_⟩
         go_roundg (q + 1)
         case measure => omega
         case rel => exact ⟨i + 1, q, o ++ [rd b (i : Int)], ct, by go_num, rfl, rfl, by omega, ⟨by rw [← hl1]; simp⟩, ⟨hl2⟩, ⟨by simp; omega⟩, HO4', HB1⟩
    ·rw [if_neg k4] at h
     have k4b : (kd == 4) = false := beq_eq_false_iff_ne.mpr k4
     go_enter Try.func60, Try.ntmps60
     go_upto_region 10 with (first | ((with_reducible refine gate_dst (N := 1) rfl ?_); refine bxe 1 #[.int .i64 kd, .int .i64 n, .slice (some ad0) m c] 72 ?_; intro gb hgb_ w4 hbox hb_; have n0_ := Aside0.mk (below_step HB.out hb_); have n1_ := Aside0.mk hbox; clear HB; have HB := n0_; have BK := n1_; clear n0_ n1_ hbox hb_ hgb_; obtain ⟨hcz0, hfz0, hcz1, hfz1, hcz2, hfz2⟩ := bk3 BK.out))
     obtain ⟨ha0, hb0, hd0⟩ := HC0.out _ (HB0.out.trans (HB.out.mono HS.out))
     simp only [Nat.zero_mul, Nat.one_mul, Sm.add0, Sm.add3] at ha0 hb0 hd0
     go_upto_region 24 with (first | (go_at_call 60; (with_reducible refine (HOK0.out _ _ (HB0.out.trans (HB.out.mono HS.out)) A2.out).mono ?_); rintro e w1 ⟨v5, rfl, hro_, hb_⟩; have HC5 := Aside0.mk (below_size HB.out); have n0_ := Aside0.mk (below_step HB.out hb_); have n2_ := Aside0.mk (Kd.R_bound hro_); have n3_ := Aside0.mk ((hb_.block gb (blk_lt BK.out)).trans BK.out); clear HB BK hcz0 hfz0 hcz1 hfz1 hcz2 hfz2 hb_ hro_; have HB := n0_; have HO0 := n2_; have BK := n3_; clear n0_ n2_ n3_; obtain ⟨hcz0, hfz0, hcz1, hfz1, hcz2, hfz2⟩ := bk3 BK.out; obtain ⟨Av0, cv0, ev0⟩ := Kd.R_slice HO0.out; subst ev0))
     obtain ⟨W1, hW1⟩ : ∃ W1 : Nat, W1 = w1.heap.size := ⟨_, rfl⟩
     have HOb : Aside0 (Kd.R (Kd.int .i64) 3  w1 w.heap.size (fun k => k < W1) (.slice Av0 b.length cv0) b) := ⟨Kd.R_lower (Kd.R_mono HO0.out (fun k hk => hW1 ▸ hk.2.2.1)) HC5.out⟩
     clear HO0 HC5
     replace h := lO h; obtain ⟨sO, A4, h⟩ := h
     have h5 := A4.out
     unfold Sm.second at h5
     split at h5
     ·cases h5
     rename_i f1 hf1
     obtain ⟨ad1, k1_, n1_, A1, m1, c1, eA1, hm1, hc1, hok1⟩ := Sm.kid HN.out hf1
     have HOK1 := Aside0.mk hok1
     have HC1 := Aside0.mk hc1
     clear hok1 hc1
     obtain rfl : ad0 = ad1 := by injection eA1
     have hm1b : (1 < m) = True := eq_true hm1
     have hm1c : ((1 : Int) < (m : Int)) = True := eq_true (by omega)
     replace h5 := lO h5; obtain ⟨s, A3, h5⟩ := h5
     split at h5
     case isFalse => cases h5
     rename_i hsl
     obtain rfl := Option.some.inj h5
     have HP := Aside0.mk h
     clear h h5 A4 hm1 eA1
     obtain ⟨ha1, hb1, hd1⟩ := HC1.out _ (HB0.out.trans (HB.out.mono HS.out))
     simp only [Nat.zero_mul, Nat.one_mul, Sm.add0, Sm.add3] at ha1 hb1 hd1
     go_wp2_with (first | (go_at_call 60; (with_reducible refine (HOK1.out _ _ (HB0.out.trans (HB.out.mono HS.out)) A3.out).mono ?_); rintro e w2 ⟨v5, rfl, hro_, hb_⟩; have HC5 := Aside0.mk (below_size HB.out); have n0_ := Aside0.mk (below_step HB.out hb_); have n2_ := Aside0.mk (Kd.R_bound hro_); have n3_ := Aside0.mk ((hb_.block gb (blk_lt BK.out)).trans BK.out); have n9_ := Aside0.mk (Kd.R_mono (Kd.R_below HOb.out hb_) (fun k hk => (Or.inl hk : k < W1 ∨ w2.heap.size ≤ k))); clear HOb; have HOb := n9_; clear n9_; clear HB BK hcz0 hfz0 hcz1 hfz1 hcz2 hfz2 hb_ hro_; have HB := n0_; have HO1 := n2_; have BK := n3_; clear n0_ n2_ n3_; obtain ⟨hcz0, hfz0, hcz1, hfz1, hcz2, hfz2⟩ := bk3 BK.out; obtain ⟨Av1, cv1, ev1⟩ := Kd.R_slice HO1.out; subst ev1))
     have HOs : Aside0 (Kd.R (Kd.int .i64) 3  w2 w.heap.size (fun k => ¬ (k < W1 ∨ w2.heap.size ≤ k)) (.slice Av1 s.length cv1) s) := ⟨Kd.R_lower (Kd.R_mono HO1.out (fun k hk => by have := hk.2.1; have := hk.2.2.1; omega)) HC5.out⟩
     clear HO1 HC5
     go_loopg [3, 67] (s.length + 1) (fun j v3 v67 wz => ∃ (i q : Nat) (b1 : List Int), v67 = .int .i64 (i : Int) ∧ j = q + 1 ∧ i + q = s.length ∧ Aside0 (Sm.put k b1 (s.drop i) = some r) ∧ Aside0 (Kd.R (Kd.int .i64) 3  wz w.heap.size (fun k => k < W1 ∨ w2.heap.size ≤ k) v3 b1) ∧ Aside0 (Kd.R (Kd.int .i64) 3  wz w.heap.size (fun k => ¬ (k < W1 ∨ w2.heap.size ≤ k)) (.slice Av1 s.length cv1) s) ∧ Aside0 (Below w.heap.size w wz) ∧ Aside0 (w2.heap.size ≤ wz.heap.size))
     case atStart => exact ⟨0, s.length, b, rfl, rfl, by omega, HP, HOb, HOs, HB, ⟨Nat.le_refl _⟩⟩
     case round =>
      clear HOb HOs HB BK HP hcz0 hfz0 hcz1 hfz1 hcz2 hfz2
      obtain ⟨i, q, b1, rfl, rfl, hiq, HP, HOb, HOs, HB, HSZ⟩ := hrel
      obtain ⟨Aw, cw, ew⟩ := Kd.R_slice HOb.out
      subst ew
      have h := HP.out
      clear HP
      cases q with
      | zero =>
       have hd1 : decide ((i : Int) < (s.length : Int)) = false := decide_eq_false (by omega)
       rw [List.drop_eq_nil_of_le (by omega)] at h
       obtain rfl := Option.some.inj h
       clear h
       go_wp2
       go_ret
       exact ⟨_, lE, Kd.R_mono HOb.out (fun _ _ => trivial), HB.out⟩
      | succ q =>
       have hil : i < s.length := by omega
       have hd1 : decide ((i : Int) < (s.length : Int)) = true := decide_eq_true (by omega)
       rw [Sm.drop_rd hil] at h
       simp only [Sm.put] at h
       replace h := lO h; obtain ⟨b2, A5, h⟩ := h
       have HP := Aside0.mk h
       clear h
       have p70 : 0 ≤ (i : Int) := by omega
       have q70 : (i : Int) < (s.length : Int) := by omega
       obtain ⟨ad70, e70, hx70⟩ := Kd.at_int (Kd.R_reads' HOs.out).2.2 (i : Int) p70 q70
       subst e70
       rw [Int.toNat_natCast] at hx70
       replace p70 := eq_true p70
       replace q70 := eq_true q70
       go_wp2_with (first | (go_at_call 86; (with_reducible refine (spec_l1Put.calls k (fun k => k < W1 ∨ w2.heap.size ≤ k) _ b1 (rd s (i : Int)) b2 w _ HB.out HOb.out A5.out).mono ?_); rintro e w6 ⟨v6, rfl, ho, hb, hk⟩; have n0_ := Aside0.mk (Kd.R_mono ho (fun k hk2 => (hk2.elim (fun a => a) (fun a => Or.inr (Nat.le_trans HSZ.out a)) : k < W1 ∨ w2.heap.size ≤ k))); have n1_ := Aside0.mk hb; have n2_ := Aside0.mk (Kd.R_kept HOs.out hk (fun k a => a)); have n3_ := Aside0.mk (Nat.le_trans HSZ.out hk.1); clear HOb HOs HB HSZ ho hb hk hx70; have HOb := n0_; have HB := n1_; have HOs := n2_; have HSZ := n3_; clear n0_ n1_ n2_ n3_; obtain ⟨Az, cz, ez⟩ := Kd.R_slice HOb.out; subst ez))
       go_roundg (q + 1)
       case measure => omega
       case rel => exact ⟨i + 1, q, b2, by go_num, rfl, by omega, HP, HOb, HOs, HB, HSZ⟩
def spec_l16May.f (k : Nat) (t : S72) : Option (List Int) := Sm.may k t
theorem spec_l16May.calls (k : Nat) : ∀ (t : S72) (w0 : World) (A : Option Addr) (c : Nat), Kd.C k72 w0 A t.f2.length t.f2 → Sm.Ok w0 (Sm.may k t) t.f0 t.f1 A t.f2.length c := by
 intro t
 induction hN : SizeOf.sizeOf t using Nat.strongRecOn generalizing t with
 | _ N ih =>
 subst hN
 intro w0 A c h
 obtain ⟨kd, n, ks⟩ := t
 have e : Sm.may k ⟨kd, n, ks⟩ = Sm.node k kd n (Sm.mays k ks) := by unfold Sm.may; rfl
 rw [e]
 simp only at h ⊢
 refine Sm.node_ok k ⟨fun i f hf => ?_⟩
 obtain ⟨t, ht, rfl⟩ := Sm.mays_at k ks i f hf
 have hil : i < ks.length := by
  by_cases hl : i < ks.length
  ·exact hl
  ·rw [List.getElem?_eq_none (by omega)] at ht; cases ht
 obtain ⟨ad, A2, c2, e1, h1, h2, h3, h4, h5⟩ := at_T72 h (i : Int) (by omega) (by omega)
 have e2 : rd_T72 ks (i : Int) = t := by unfold rd_T72; rw [Int.toNat_natCast, List.getD, ht]; rfl
 rw [e2, Int.toNat_natCast] at h1 h2 h3
 rw [e2] at h4 h5
 refine ⟨hil, ad, t.f0, t.f1, A2, t.f2.length, c2, e1, h1, h2, h3, ih (SizeOf.sizeOf t) ?_ t rfl w0 A2 c2 h5⟩
 have hm : t ∈ ks := List.mem_of_getElem? ht
 have := List.sizeOf_lt_of_mem hm
 simp
 omega
def spec_MayRaise.f (k : Nat) (l : List S76) : Option (List Int × Bool) := (spec_l16Tree.f k l).bind fun b => if b.2.2.2 = true then (Sm.may k ⟨b.1, b.2.1, b.2.2.1⟩).bind fun q => some (q, true) else some ([], false)
set_option maxHeartbeats 8000000 in
set_option maxRecDepth 100000 in
theorem spec_MayRaise.calls (k : Nat) (A0 : Option Addr) (c0 : Nat) (l0 : List S76) (r1 : List Int) (r2 : Bool) (w : World) (hr0 : Kd.C k76 w A0 l0.length l0) (hc0 : l0.length ≤ c0) (h : spec_MayRaise.f k l0 = some (r1, r2)) :
  Calls Try.prog 24 #[.slice A0 l0.length c0] w fun e w' => ∃ v0_ : Value, e = .returned (.tuple #[v0_, .bool r2]) ∧ Kd.R (Kd.int .i64) 3 w' w.heap.size (fun _ => True) v0_ r1 ∧ Below w.heap.size w w' := by
 unfold spec_MayRaise.f at h
 have hu72 := Try.underlying72
 have HR0 := Aside0.mk hr0
 have HC0 := Aside0.mk hc0
 have HB := Aside0.mk (Below.refl w.heap.size w)
 clear hr0 hc0
 replace h := lO h
 obtain ⟨⟨tk, tn, ts, tb⟩, A1, h⟩ := h
 simp only at h
 cases tb with
 | false =>
  rw [if_neg (by simp)] at h
  simp only [Option.some.injEq, Prod.mk.injEq] at h
  obtain ⟨rfl, rfl⟩ := h
  go_enter Try.func24, Try.ntmps24
  go_wp2_with (first | (go_at_call 44; (with_reducible refine (spec_l16Tree.calls k _ _ l0 tk tn ts false _ (lC HR0.out) HC0.out A1.out).mono ?_); rintro e w5 ⟨v5, rfl, ho, hb⟩; have n0_ := Aside0.mk (below_step lB hb); have n1_ := Aside0.mk ho; clear HB; have HB := n0_; have HO := n1_; clear n0_ n1_ hb ho; obtain ⟨Av, cv, ev⟩ := Kd.R_slice HO.out; subst ev) | ((with_reducible refine gate_dst (N := 4) rfl ?_); refine bxe 4 #[.int .i64 0, .int .i64 0, .slice none 0 0] 72 ?_; intro gb hg w7 hbox hb; have n0_ := Aside0.mk (below_step lB hb); have n1_ := Aside0.mk hbox; have n2_ := lG w hg; clear HB; have HB := n0_; have BK := n1_; have GE := n2_; clear n0_ n1_ n2_ hg hbox hb; obtain ⟨hcz0, hfz0, hcz1, hfz1, hcz2, hfz2⟩ := bk3 BK.out))
  refine bodyPost_ret (results_list (rs := [.tmp 2, .tmp 3]) rfl (by simp) (.tmp (.tmp .nil))) rfl ?_
  exact ⟨_, lE, Kd.R_nil _ _ _ _ _, lB⟩
 | true =>
  rw [if_pos rfl] at h
  replace h := lO h
  obtain ⟨qs, A2, h⟩ := h
  simp only [Option.some.injEq, Prod.mk.injEq] at h
  obtain ⟨rfl, rfl⟩ := h
  go_enter Try.func24, Try.ntmps24
  go_upto_region 4 with (first | (go_at_call 44; (with_reducible refine (spec_l16Tree.calls k _ _ l0 tk tn ts true _ (lC HR0.out) HC0.out A1.out).mono ?_); rintro e w5 ⟨v5, rfl, ho, hb⟩; have n0_ := Aside0.mk (below_step lB hb); have n1_ := Aside0.mk ho; clear HB; have HB := n0_; have HO := n1_; clear n0_ n1_ hb ho; obtain ⟨Av, cv, ev⟩ := Kd.R_slice HO.out; subst ev) | ((with_reducible refine gate_dst (N := 4) rfl ?_); refine bxe 4 #[.int .i64 0, .int .i64 0, .slice none 0 0] 72 ?_; intro gb hg w7 hbox hb; have n0_ := Aside0.mk (below_step lB hb); have n1_ := Aside0.mk hbox; have n2_ := lG w hg; have n3_ := Aside0.mk (Kd.R_below HO.out hb); have n4_ : Aside0 (Kd.R k72 72 w7 w.heap.size (fun k => True ∧ k ≠ gb) (.slice Av ts.length cv) ts) := ⟨Kd.R_mono (Kd.R_below (Kd.R_bound HO.out) hb) (fun k hk => ⟨trivial, by have := hk.2.2.1; omega⟩)⟩; clear HB HO; have HB := n0_; have BK := n1_; have GE := n2_; have HO := n3_; have HOE := n4_; clear n4_; clear n0_ n1_ n2_ n3_ hg hbox hb; obtain ⟨hcz0, hfz0, hcz1, hfz1, hcz2, hfz2⟩ := bk3 BK.out))
  have n0_ : Aside0 ((((w7.setCell ⟨gb, 0, none⟩ (.int .i64 tk)).setCell ⟨gb, 1, none⟩ (.int .i64 tn)).setCell ⟨gb, 2, none⟩ (.slice Av ts.length cv)).heap[gb]? = some (.cells #[.int .i64 tk, .int .i64 tn, .slice Av ts.length cv] 72 (0, 0))) := ⟨blk_put (cs := #[.int .i64 tk, .int .i64 tn, .slice none 0 0]) (blk_put (cs := #[.int .i64 tk, .int .i64 0, .slice none 0 0]) (blk_put (cs := #[.int .i64 0, .int .i64 0, .slice none 0 0]) BK.out 0 _ rfl) 1 _ rfl) 2 _ rfl⟩
  have n1_ : Aside0 (Kd.R k72 72 (((w7.setCell ⟨gb, 0, none⟩ (.int .i64 tk)).setCell ⟨gb, 1, none⟩ (.int .i64 tn)).setCell ⟨gb, 2, none⟩ (.slice Av ts.length cv)) w.heap.size (fun k => True ∧ k ≠ gb) (.slice Av ts.length cv) ts) := ⟨Kd.R_far (p := ⟨gb, 2, none⟩) (Kd.R_far (p := ⟨gb, 1, none⟩) (Kd.R_far (p := ⟨gb, 0, none⟩) (HOE.out) (fun _ hk => hk.2) _) (fun _ hk => hk.2) _) (fun _ hk => hk.2) _⟩
  have n2_ : Aside0 (Below w.heap.size w (((w7.setCell ⟨gb, 0, none⟩ (.int .i64 tk)).setCell ⟨gb, 1, none⟩ (.int .i64 tn)).setCell ⟨gb, 2, none⟩ (.slice Av ts.length cv))) := ⟨below_set (below_set (below_set HB.out GE.out) GE.out) GE.out⟩
  clear BK HO HOE HB hcz0 hfz0 hcz1 hfz1 hcz2 hfz2
  generalize ((w7.setCell ⟨gb, 0, none⟩ (.int .i64 tk)).setCell ⟨gb, 1, none⟩ (.int .i64 tn)).setCell ⟨gb, 2, none⟩ (.slice Av ts.length cv) = w8 at n0_ n1_ n2_ ⊢
  have BK := n0_
  have HO := n1_
  have HB := n2_
  clear n0_ n1_ n2_
  obtain ⟨hcz0, hfz0, hcz1, hfz1, hcz2, hfz2⟩ := bk3 BK.out
  have hOk := spec_l16May.calls k ⟨tk, tn, ts⟩ w8 Av cv (Kd.R_reads' HO.out).2.2
  have HOK := Aside0.mk (hOk w8 _ (Below.refl _ _) A2.out)
  clear hOk
  have HSZ := Aside0.mk (below_size HB.out)
  go_wp2_with (first | (go_at_call 60; (with_reducible refine HOK.out.mono ?_); rintro e w9 ⟨v9, rfl, hro, hgr⟩; have n0_ := Aside0.mk (below_step HB.out hgr); have n1_ := Aside0.mk (Kd.R_lower hro HSZ.out); clear HB hro hgr; have HB := n0_; have HO9 := n1_; clear n0_ n1_; obtain ⟨A9, c9, e9⟩ := Kd.R_slice HO9.out; subst e9))
  refine bodyPost_ret (results_list (rs := [.tmp 2, .tmp 3]) rfl (by simp) (.tmp (.tmp .nil))) rfl ?_
  exact ⟨_, lE, HO9.out, lB⟩
end Go.Proofs.Ytgjojppbichaiaa.Q
