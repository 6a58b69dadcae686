-- Written by the program wip/tools/pr.py of this claim's session, over the kit's print.py.
import Derived.Test.YtgjojppbichaiaaQx0
import Derived.Test.YtgjojppbichaiaaQx3
namespace Go.Proofs.Ytgjojppbichaiaa.Q
open Go.RowKit Go.Proofs.YtgjojppbichaiaaW.PrintWords Go.Proofs.YtgjojppbichaiaaW.PrintLast Go.Proofs.YtgjojppbichaiaaW.PrintMore
attribute [local go_sem] max2_int min2_int max_two min_two max_three min_three max_four min_four   -- for this text's walks alone
set_option linter.unusedVariables false
set_option linter.unusedSimpArgs false
theorem Xe.info3 : (Try.prog.info? 3).map (fun i => (i.zero, i.size, i.bytes)) = some (some (.int .i64 0), 1, 8) := by kernel_rfl
abbrev Xe.F := List Int → Option ((Int × Bool) × List Int)
def Xe.rounds (f : Xe.F) : Nat → Xe.F
  | 0, said => some ((0, true), said)
  | m + 1, said => (f said).bind fun r => if r.1.2 = false ∨ r.1.1 ≠ 0 then some r else Xe.rounds f m r.2
def Xe.second (fs : List Xe.F) (said : List Int) : Option ((Int × Bool) × List Int) := match fs[1]? with
  | none => none
  | some f => f said
def Xe.node (k n : Int) (fs : List Xe.F) (said : List Int) : Option ((Int × Bool) × List Int) :=
  if k = 1 then (if said.length < 1000000 then some ((0, decide (((said ++ [n]).length : Int) ≤ 200)), said ++ [n]) else none)
  else if k = 2 then some ((n, true), said)
  else match fs[0]? with
    | none => none
    | some f => if k = 6 then (if n ≤ 1000 then Xe.rounds f n.toNat said else none)
      else (f said).bind fun r => if r.1.2 = false then some ((0, false), r.2)
        else if k = 3 then (if r.1.1 = 0 then Xe.second fs r.2 else some ((r.1.1, true), r.2))
        else if k = 4 then (if r.1.1 = 0 ∨ n ≠ 0 ∧ n ≠ r.1.1 then some ((r.1.1, true), r.2) else Xe.second fs r.2)
        else if k = 5 then (Xe.second fs r.2).bind fun q => if q.1.1 ≠ 0 ∨ q.1.2 = false then some q else some ((r.1.1, true), q.2)
        else Xe.second fs r.2
mutual
/-- What a tree tells behind what is said, the code that is raised, and whether not too much is told. -/
def Xe.ev : S72 → Xe.F
  | ⟨k, n, ts⟩, said => Xe.node k n (Xe.evs ts) said
def Xe.evs : List S72 → List Xe.F
  | [] => []
  | t :: ts => Xe.ev t :: Xe.evs ts
end
theorem Xe.evs_at : ∀ (ts : List S72) (i : Nat) (f : Xe.F), (Xe.evs ts)[i]? = some f → ∃ t, ts[i]? = some t ∧ f = Xe.ev t
  | [], i, f, h => by simp [Xe.evs] at h
  | t :: ts, 0, f, h => by
    simp only [Xe.evs, List.getElem?_cons_zero, Option.some.injEq] at h
    exact ⟨t, rfl, h.symm⟩
  | t :: ts, i + 1, f, h => by
    simp only [Xe.evs, List.getElem?_cons_succ] at h ⊢
    exact Xe.evs_at ts i f h
def Xe.Post (gs B : Nat) (w : World) (r : (Int × Bool) × List Int) (e : Ending) (w' : World) : Prop := ∃ v', e = .returned (.tuple #[.int .i64 r.1.1, .bool r.1.2]) ∧ w'.heap[gs]? = some (.cells #[v'] 45 (0, 0)) ∧ (Kd.int .i64).R 3 w' B (fun _ => True) v' r.2 ∧ Below B w w'
abbrev Xe.Ok (w0 : World) (B gs : Nat) (f : Xe.F) (g : Nat) : Prop :=
  ∀ (w : World) (v : Value) (said : List Int) (r : (Int × Bool) × List Int), Below B w0 w → w.heap[gs]? = some (.cells #[v] 45 (0, 0)) → (Kd.int .i64).R 3 w B (fun _ => True) v said → f said = some r →
    Calls Try.prog 63 #[.pointer (some ⟨g, 0, none⟩), .pointer (some ⟨gs, 0, none⟩)] w (Xe.Post gs B w r)
structure Xe.Nd (w0 : World) (B gs g : Nat) (k n : Int) (A : Option Addr) (m c : Nat) (fs : List Xe.F) : Prop where
  gB : g < B
  hB : B ≤ gs
  w0B : B ≤ w0.heap.size
  cell : w0.heap[g]? = some (.cells #[.int .i64 k, .int .i64 n, .slice A m c] 135 (0, 0))
  kid : ∀ i f, fs[i]? = some f → ∃ gi h, A = some ⟨h, 0, none⟩ ∧ i < m ∧ h < B ∧ w0.cell? ⟨h, i, none⟩ = some (.pointer (some ⟨gi, 0, none⟩)) ∧ Xe.Ok w0 B gs f gi
theorem Xe.kids0 {w0 : World} {B gs g : Nat} {k n : Int} {A : Option Addr} {m c : Nat} {fs : List Xe.F} (hN : Xe.Nd w0 B gs g k n A m c fs) {i : Nat} {f : Xe.F} (hf : fs[i]? = some f) : ∃ gi h, A = some ⟨h, 0, none⟩ ∧ i < m ∧ (∀ w, Below B w0 w → w.cell? ⟨h, i, none⟩ = some (.pointer (some ⟨gi, 0, none⟩))) ∧ Xe.Ok w0 B gs f gi := by
  obtain ⟨gi, h, h1, h2, h3, h4, h5⟩ := hN.kid i f hf
  exact ⟨gi, h, h1, h2, fun w hw => (hw.cell (p := ⟨h, i, none⟩) h3).trans h4, h5⟩
theorem Xe.drewB {B : Nat} {w w1 : World} (h : Below B w w1) (n : Nat) : Below B w (w1.drewN n) := pw_below_drewN h n
set_option maxHeartbeats 8000000 in
set_option maxRecDepth 100000 in
theorem Xe.node_ok {w0 : World} {B gs g : Nat} {k n : Int} {A : Option Addr} {m c : Nat} {fs : List Xe.F} (hN : Xe.Nd w0 B gs g k n A m c fs) : Xe.Ok w0 B gs (Xe.node k n fs) g := by
 intro w v said r hB0 hbox hR h
 have hu45 := Try.underlying45
 have hu135 := Try.underlying135
 have hu76 := Try.underlying76
 have HN := Aside0.mk hN
 have BK := Aside0.mk ((hB0.block g hN.gB).trans hN.cell)
 have BX := Aside0.mk hbox
 have HO := Aside0.mk hR
 have HB := Aside0.mk (Below.refl B w)
 have HB0 := Aside0.mk hB0
 have HG := Aside0.mk hN.gB
 have HGS := Aside0.mk hN.hB
 have HS := Aside0.mk (Nat.le_trans hN.w0B hB0.size)
 clear hbox hR hB0 hN
 unfold Xe.node at h
 obtain ⟨hcz0, hfz0, hcz1, hfz1, hcz2, hfz2⟩ := bk3 BK.out; obtain ⟨hbz0, hbf0⟩ := bk1 BX.out
 by_cases k1 : k = 1
 ·rw [if_pos k1] at h
  subst k1
  split at h
  case isFalse => cases h
  rename_i hlen
  obtain rfl := Option.some.inj h
  have HL := Aside0.mk hlen
  clear h hlen
  obtain ⟨Av, cv, ev⟩ := Kd.R_slice HO.out
  subst ev
  go_enter Try.func63, Try.ntmps63
  go_wp2
  refine start_ (n := 13) (S := fun w' => w'.cell? ⟨gs, 0, none⟩ = some (.slice Av said.length cv) ∧ w'.frozen? ⟨gs, 0, none⟩ = false ∧ w'.cell? ⟨g, 1, none⟩ = some (.int .i64 n)) (ds := [12]) (bs 13 0) kR rfl kR ⟨hbz0, hbf0, hcz1⟩ (fun hHeld => ?_)
  have n0_ := Aside0.mk (blk_drew BX.out)
  have n1_ := Aside0.mk (blk_drew BK.out)
  have n2_ := Aside0.mk (Kd.R_drew HO.out)
  have n3_ := Aside0.mk HB.out.drew
  have n4_ : Aside0 (B ≤ w.drew.heap.size) := HS
  clear BX BK HO HS hcz0 hfz0 hcz1 hfz1 hcz2 hfz2 hbz0 hbf0
  generalize hwd_ : w.drew = w3 at n0_ n1_ n2_ n3_ n4_ hHeld ⊢
  clear hwd_
  have BX := n0_
  have BK := n1_
  have HO := n2_
  have HB := n3_
  have HS := n4_
  clear n0_ n1_ n2_ n3_ n4_
  refine pur_ 0 19 (bs 13 1) kR ?_
  refine pur_ 1 20 (bs 13 3) kR ?_
  refine pur_ 2 21 (bs 13 7) kR ?_
  refine tak_ 3 22 (bs 13 15) kR hHeld ?_
  refine pur_ 4 23 (bs 13 31) kR ?_
  refine pur_ 5 24 (bs 13 63) kR ?_
  refine pur_ 6 25 (bs 13 127) kR ?_
  refine pur_ 7 26 (bs 13 255) kR ?_
  refine tak_ 8 27 (bs 13 511) kR hHeld ?_
  refine one_ (i := 9) (N := some 28) (bs 13 1023) rfl rfl kR (by decide) (fun K hK => ?_)
  refine value_ (w1 := ?_) (v := ?_) (by rfl) rfl ?_ ?_
  rotate_left 2
  ·go_simp
   constructor
   ·rfl
   ·rfl
  refine hK.out _ _ ⟨bZ (bA (lK BX.out) _) 0, blk_frozen (bA (lK BX.out) _) 0, bZ (bA (lK BK.out) _) 1⟩ (fun hHeld => ?_)
  clear hK K
  refine norm_ (a' := ?_) ?_ ?_
  rotate_left
  ·show Act.put _ (some 28) _ = _
   simp only [Act.put, List.setIfInBounds_toArray, List.set_cons_zero, List.set_cons_succ, i64_w, i32_w]
   rfl
  refine one_ (i := 10) (N := some 29) (bs 13 2047) rfl rfl kR (by decide) (fun K hK => ?_)
  refine Kd.R_append_step (Kd.int .i64) (w0 := w) B (by rfl) (.tmp 22) (.tmp 28) 45 3 (.int .i64 0) 8 rfl Try.underlying45 Xe.info3 rfl (by decide) (by omega) (.slice Av said.length cv) said n [.int .i64 n] (fun _ => True) (fun _ => False) rfl rfl ?aP (fun _ hk => hk.elim) (fun _ _ => trivial) ?aO ?aB ?aS ?aL ?_
  (case aP => exact rfl)
  (case aO => exact lR HO.out)
  (case aB => exact HB.out)
  (case aS => exact HS.out)
  (case aL => have := HL.out; omega)
  intro v6 w6 ho hb hg hat
  have n0_ := Aside0.mk (blk_grown (lK BX.out) hg (Kd.R_ne HO.out BX.out (by decide)))
  have n1_ := Aside0.mk (blk_grown (lK BK.out) hg (Kd.R_ne HO.out BK.out (by decide)))
  clear BX BK
  have BX := n0_
  have BK := n1_
  clear n0_ n1_ HO HB
  have HO := Aside0.mk ho
  have HB := Aside0.mk hb
  clear ho hb hg hat
  obtain ⟨Ap, cp, ep⟩ := Kd.R_slice HO.out
  subst ep
  refine hK.out _ _ ⟨bZ BX.out 0, blk_frozen BX.out 0, bZ BK.out 1⟩ (fun hHeld => ?_)
  clear hK K
  refine norm_ (a' := ?_) ?_ ?_
  rotate_left
  ·show Act.put _ (some 29) _ = _
   simp only [Act.put, List.setIfInBounds_toArray, List.set_cons_zero, List.set_cons_succ, i64_w, i32_w]
   rfl
  refine pur_ 11 30 (bs 13 4095) kR ?_
  refine last_ (i := 12) (N := none) (bs 13 8191) rfl rfl kR (by decide) (fun K hK => ?_)
  have hs0_ := hHeld.1
  have hs1_ := hHeld.2.1
  refine skip_ (w1 := World.setCell _ ⟨gs, 0, none⟩ (.slice Ap (said ++ [n]).length cp)) (by rfl) rfl (by first | (go_simp; done) | (go_simp; rfl)) ?_
  refine hK.out _ _ ?_
  clear hK K
  refine done_ kR ?_
  have n0_ : Aside0 ((w6.setCell ⟨gs, 0, none⟩ (.slice Ap (said ++ [n]).length cp)).heap[gs]? = some (.cells #[.slice Ap (said ++ [n]).length cp] 45 (0, 0))) := ⟨blk_put (cs := #[.slice Av said.length cv]) BX.out 0 _ rfl⟩
  have n1_ := Aside0.mk (Kd.R_set HO.out BX.out (by decide) 0 (.slice Ap (said ++ [n]).length cp))
  have n2_ := Aside0.mk (HB.out.setCell (p := ⟨gs, 0, none⟩) HGS.out (.slice Ap (said ++ [n]).length cp))
  clear BX HO HB hHeld
  generalize w6.setCell ⟨gs, 0, none⟩ (.slice Ap (said ++ [n]).length cp) = w7 at n0_ n1_ n2_ ⊢
  have BX := n0_
  have HO := n1_
  have HB := n2_
  clear n0_ n1_ n2_
  obtain ⟨hbz0, hbf0⟩ := bk1 BX.out
  go_wp2
  repeat (go_quiet (fail); try go_wp2)
  refine bodyPost_ret (results_list (rs := [.tmp 4, .tmp 5]) rfl (by simp) (.tmp (.tmp .nil))) rfl ?_
  exact ⟨_, lE, lK BX.out, lR HO.out, Xe.drewB HB.out _⟩
 ·rw [if_neg k1] at h
  have k1b : (k == 1) = false := beq_eq_false_iff_ne.mpr k1
  by_cases k2 : k = 2
  ·rw [if_pos k2] at h
   subst k2
   obtain rfl := Option.some.inj h
   clear h
   go_enter Try.func63, Try.ntmps63
   go_wp2
   refine bodyPost_ret (results_list (rs := [.tmp 4, .tmp 5]) rfl (by simp) (.tmp (.tmp .nil))) rfl ?_
   exact ⟨_, lE, BX.out, HO.out, HB.out⟩
  ·rw [if_neg k2] at h
   have k2b : (k == 2) = false := beq_eq_false_iff_ne.mpr k2
   split at h
   ·cases h
   rename_i f0 hf0
   obtain ⟨gi0, hh0, eA0, hm0, hc0, hok0⟩ := Xe.kids0 HN.out hf0
   have HOK0 := Aside0.mk hok0
   have HM0 := Aside0.mk hm0
   have HC0 := Aside0.mk hc0
   clear hok0 hc0
   have hm0b : (0 < m) = True := eq_true hm0
   clear hm0
   by_cases k6 : k = 6
   ·rw [if_pos k6] at h
    subst k6
    split at h
    case isFalse => cases h
    rename_i hn1000
    have H := Aside0.mk h
    clear h
    go_enter Try.func63, Try.ntmps63
    go_wp2
    go_loopg [50] (n.toNat + 1) (fun j v50 wr => ∃ (i q : Nat) (s1 : List Int) (v1 : Value), v50 = .int .i64 (i : Int) ∧ j = q + 1 ∧ i + q = n.toNat ∧ Aside0 (Xe.rounds f0 q s1 = some r) ∧ Aside0 (wr.heap[gs]? = some (.cells #[v1] 45 (0, 0))) ∧ Aside0 ((Kd.int .i64).R 3 wr B (fun _ => True) v1 s1) ∧ Aside0 (wr.heap[g]? = some (.cells #[.int .i64 6, .int .i64 n, .slice A m c] 135 (0, 0))) ∧ Aside0 (Below B w wr))
    case atStart => exact ⟨0, n.toNat, said, v, rfl, rfl, by omega, H, BX, HO, BK, HB⟩
    case round =>
     clear BX HO BK HB H hcz0 hfz0 hcz1 hfz1 hcz2 hfz2 hbz0 hbf0
     obtain ⟨i, q, s1, v1, rfl, rfl, hiq, H, BX, HO, BK, HB⟩ := hrel
     obtain ⟨hcz0, hfz0, hcz1, hfz1, hcz2, hfz2⟩ := bk3 BK.out; obtain ⟨hbz0, hbf0⟩ := bk1 BX.out
     have h := H.out
     clear H
     cases q with
     | zero =>
      have hd1 : decide ((i : Int) < n) = false := decide_eq_false (by omega)
      obtain rfl := Option.some.inj h
      clear h
      go_wp2
      refine bodyPost_ret (results_list (rs := [.tmp 4, .tmp 5]) rfl (by simp) (.tmp (.tmp .nil))) rfl ?_
      exact ⟨_, lE, BX.out, HO.out, HB.out⟩
     | succ q =>
      have hd1 : decide ((i : Int) < n) = true := decide_eq_true (by omega)
      have hi1000 : (i : Int) ≤ 1000 := by omega
      simp only [Xe.rounds] at h
      replace h := lO h; obtain ⟨rr, A2, h⟩ := h
      obtain ⟨⟨rc, ro⟩, rs⟩ := rr
      have hk0 := HC0.out _ (HB0.out.trans HB.out)
      subst eA0
      simp only at h
      cases ro with
      | false =>
       rw [if_pos (.inl rfl)] at h
       obtain rfl := Option.some.inj h
       clear h
       go_wp2_with (first | (go_at_call 63; (with_reducible refine (HOK0.out _ _ s1 ((_, _), rs) (HB0.out.trans HB.out) BX.out HO.out A2.out).mono ?_); rintro e w5 ⟨v5, rfl, hbx_, hro_, hb_⟩; have n0_ := Aside0.mk (HB.out.trans hb_); have n1_ := Aside0.mk hbx_; have n2_ := Aside0.mk hro_; have n3_ := Aside0.mk ((hb_.block g HG.out).trans BK.out); clear HB BX HO BK hcz0 hfz0 hcz1 hfz1 hcz2 hfz2 hbz0 hbf0 hb_ hbx_ hro_; have HB := n0_; have BX := n1_; have HO := n2_; have BK := n3_; clear n0_ n1_ n2_ n3_; obtain ⟨hcz0, hfz0, hcz1, hfz1, hcz2, hfz2⟩ := bk3 BK.out; obtain ⟨hbz0, hbf0⟩ := bk1 BX.out))
       refine bodyPost_ret (results_list (rs := [.tmp 4, .tmp 5]) rfl (by simp) (.tmp (.tmp .nil))) rfl ?_
       exact ⟨_, lE, BX.out, HO.out, HB.out⟩
      | true =>
       by_cases h0 : rc = 0
       ·subst h0
        rw [if_neg (by simp)] at h
        have H := Aside0.mk h
        clear h
        go_wp2_with (first | (go_at_call 63; (with_reducible refine (HOK0.out _ _ s1 ((_, _), rs) (HB0.out.trans HB.out) BX.out HO.out A2.out).mono ?_); rintro e w5 ⟨v5, rfl, hbx_, hro_, hb_⟩; have n0_ := Aside0.mk (HB.out.trans hb_); have n1_ := Aside0.mk hbx_; have n2_ := Aside0.mk hro_; have n3_ := Aside0.mk ((hb_.block g HG.out).trans BK.out); clear HB BX HO BK hcz0 hfz0 hcz1 hfz1 hcz2 hfz2 hbz0 hbf0 hb_ hbx_ hro_; have HB := n0_; have BX := n1_; have HO := n2_; have BK := n3_; clear n0_ n1_ n2_ n3_; obtain ⟨hcz0, hfz0, hcz1, hfz1, hcz2, hfz2⟩ := bk3 BK.out; obtain ⟨hbz0, hbf0⟩ := bk1 BX.out))
        go_roundg (q + 1)
        case measure => omega
        case rel => exact ⟨i + 1, q, rs, v5, by go_num, rfl, by omega, H, BX, HO, BK, HB⟩
       ·rw [if_pos (.inr h0)] at h
        obtain rfl := Option.some.inj h
        clear h
        have h0b : (rc != 0) = true := bne_iff_ne.mpr h0
        go_wp2_with (first | (go_at_call 63; (with_reducible refine (HOK0.out _ _ s1 ((_, _), rs) (HB0.out.trans HB.out) BX.out HO.out A2.out).mono ?_); rintro e w5 ⟨v5, rfl, hbx_, hro_, hb_⟩; have n0_ := Aside0.mk (HB.out.trans hb_); have n1_ := Aside0.mk hbx_; have n2_ := Aside0.mk hro_; have n3_ := Aside0.mk ((hb_.block g HG.out).trans BK.out); clear HB BX HO BK hcz0 hfz0 hcz1 hfz1 hcz2 hfz2 hbz0 hbf0 hb_ hbx_ hro_; have HB := n0_; have BX := n1_; have HO := n2_; have BK := n3_; clear n0_ n1_ n2_ n3_; obtain ⟨hcz0, hfz0, hcz1, hfz1, hcz2, hfz2⟩ := bk3 BK.out; obtain ⟨hbz0, hbf0⟩ := bk1 BX.out))
        refine bodyPost_ret (results_list (rs := [.tmp 4, .tmp 5]) rfl (by simp) (.tmp (.tmp .nil))) rfl ?_
        exact ⟨_, lE, BX.out, HO.out, HB.out⟩
   ·rw [if_neg k6] at h
    have k6b : (k == 6) = false := beq_eq_false_iff_ne.mpr k6
    replace h := lO h; obtain ⟨rr, A2, h⟩ := h
    obtain ⟨⟨rc, ro⟩, rs⟩ := rr
    have hk0 := HC0.out _ (HB0.out.trans HB.out)
    subst eA0
    simp only at h
    cases ro with
    | false =>
     rw [if_pos rfl] at h
     obtain rfl := Option.some.inj h
     clear h
     go_enter Try.func63, Try.ntmps63
     go_wp2_with (first | (go_at_call 63; (with_reducible refine (HOK0.out _ _ said ((_, _), rs) (HB0.out.trans HB.out) BX.out HO.out A2.out).mono ?_); rintro e w5 ⟨v5, rfl, hbx_, hro_, hb_⟩; have n0_ := Aside0.mk (HB.out.trans hb_); have n1_ := Aside0.mk hbx_; have n2_ := Aside0.mk hro_; have n3_ := Aside0.mk ((hb_.block g HG.out).trans BK.out); clear HB BX HO BK hcz0 hfz0 hcz1 hfz1 hcz2 hfz2 hbz0 hbf0 hb_ hbx_ hro_; have HB := n0_; have BX := n1_; have HO := n2_; have BK := n3_; clear n0_ n1_ n2_ n3_; obtain ⟨hcz0, hfz0, hcz1, hfz1, hcz2, hfz2⟩ := bk3 BK.out; obtain ⟨hbz0, hbf0⟩ := bk1 BX.out))
     refine bodyPost_ret (results_list (rs := [.tmp 4, .tmp 5]) rfl (by simp) (.tmp (.tmp .nil))) rfl ?_
     exact ⟨_, lE, BX.out, HO.out, HB.out⟩
    | true =>
     rw [if_neg (by decide)] at h
     by_cases k3 : k = 3
     ·rw [if_pos k3] at h
      subst k3
      by_cases h0 : rc = 0
      ·subst h0
       rw [if_pos rfl] at h
       go_enter Try.func63, Try.ntmps63
       go_upto_region 30 with (first | (go_at_call 63; (with_reducible refine (HOK0.out _ _ said ((_, true), rs) (HB0.out.trans HB.out) BX.out HO.out A2.out).mono ?_); rintro e w5 ⟨v5, rfl, hbx_, hro_, hb_⟩; have n0_ := Aside0.mk (HB.out.trans hb_); have n1_ := Aside0.mk hbx_; have n2_ := Aside0.mk hro_; have n3_ := Aside0.mk ((hb_.block g HG.out).trans BK.out); clear HB BX HO BK hcz0 hfz0 hcz1 hfz1 hcz2 hfz2 hbz0 hbf0 hb_ hbx_ hro_; have HB := n0_; have BX := n1_; have HO := n2_; have BK := n3_; clear n0_ n1_ n2_ n3_; obtain ⟨hcz0, hfz0, hcz1, hfz1, hcz2, hfz2⟩ := bk3 BK.out; obtain ⟨hbz0, hbf0⟩ := bk1 BX.out))
       unfold Xe.second at h
       split at h
       ·cases h
       rename_i f1 hf1
       obtain ⟨gi1, hh1, eA1, hm1, hc1, hok1⟩ := Xe.kids0 HN.out hf1
       have HOK1 := Aside0.mk hok1
       have HM1 := Aside0.mk hm1
       have HC1 := Aside0.mk hc1
       clear hok1 hc1
       obtain rfl : hh0 = hh1 := by injection eA1 with eA1; injection eA1
       have hk1 := HC1.out _ (HB0.out.trans HB.out)
       have hm1b : (1 < m) = True := eq_true hm1
       have hm1c : ((1 : Int) < (m : Int)) = True := eq_true (by omega)
       have A3 := Aside0.mk h
       clear h hm1 eA1
       go_wp2_with (first | (go_at_call 63; (with_reducible refine (HOK1.out _ _ rs r (HB0.out.trans HB.out) BX.out HO.out A3.out).mono ?_); rintro e w5 ⟨v5, rfl, hbx_, hro_, hb_⟩; have n0_ := Aside0.mk (HB.out.trans hb_); have n1_ := Aside0.mk hbx_; have n2_ := Aside0.mk hro_; have n3_ := Aside0.mk ((hb_.block g HG.out).trans BK.out); clear HB BX HO BK hcz0 hfz0 hcz1 hfz1 hcz2 hfz2 hbz0 hbf0 hb_ hbx_ hro_; have HB := n0_; have BX := n1_; have HO := n2_; have BK := n3_; clear n0_ n1_ n2_ n3_; obtain ⟨hcz0, hfz0, hcz1, hfz1, hcz2, hfz2⟩ := bk3 BK.out; obtain ⟨hbz0, hbf0⟩ := bk1 BX.out))
       refine bodyPost_ret (results_list (rs := [.tmp 4, .tmp 5]) rfl (by simp) (.tmp (.tmp .nil))) rfl ?_
       exact ⟨_, lE, BX.out, HO.out, HB.out⟩
      ·rw [if_neg h0] at h
       have h0b : (rc != 0) = true := bne_iff_ne.mpr h0
       obtain rfl := Option.some.inj h
       clear h
       go_enter Try.func63, Try.ntmps63
       go_wp2_with (first | (go_at_call 63; (with_reducible refine (HOK0.out _ _ said ((_, _), rs) (HB0.out.trans HB.out) BX.out HO.out A2.out).mono ?_); rintro e w5 ⟨v5, rfl, hbx_, hro_, hb_⟩; have n0_ := Aside0.mk (HB.out.trans hb_); have n1_ := Aside0.mk hbx_; have n2_ := Aside0.mk hro_; have n3_ := Aside0.mk ((hb_.block g HG.out).trans BK.out); clear HB BX HO BK hcz0 hfz0 hcz1 hfz1 hcz2 hfz2 hbz0 hbf0 hb_ hbx_ hro_; have HB := n0_; have BX := n1_; have HO := n2_; have BK := n3_; clear n0_ n1_ n2_ n3_; obtain ⟨hcz0, hfz0, hcz1, hfz1, hcz2, hfz2⟩ := bk3 BK.out; obtain ⟨hbz0, hbf0⟩ := bk1 BX.out))
       refine bodyPost_ret (results_list (rs := [.tmp 4, .tmp 5]) rfl (by simp) (.tmp (.tmp .nil))) rfl ?_
       exact ⟨_, lE, BX.out, HO.out, HB.out⟩
     ·rw [if_neg k3] at h
      have k3b : (k == 3) = false := beq_eq_false_iff_ne.mpr k3
      by_cases k4 : k = 4
      ·rw [if_pos k4] at h
       subst k4
       by_cases h0 : rc = 0
       ·subst h0
        rw [if_pos (.inl rfl)] at h
        obtain rfl := Option.some.inj h
        clear h
        go_enter Try.func63, Try.ntmps63
        go_wp2_with (first | (go_at_call 63; (with_reducible refine (HOK0.out _ _ said ((_, _), rs) (HB0.out.trans HB.out) BX.out HO.out A2.out).mono ?_); rintro e w5 ⟨v5, rfl, hbx_, hro_, hb_⟩; have n0_ := Aside0.mk (HB.out.trans hb_); have n1_ := Aside0.mk hbx_; have n2_ := Aside0.mk hro_; have n3_ := Aside0.mk ((hb_.block g HG.out).trans BK.out); clear HB BX HO BK hcz0 hfz0 hcz1 hfz1 hcz2 hfz2 hbz0 hbf0 hb_ hbx_ hro_; have HB := n0_; have BX := n1_; have HO := n2_; have BK := n3_; clear n0_ n1_ n2_ n3_; obtain ⟨hcz0, hfz0, hcz1, hfz1, hcz2, hfz2⟩ := bk3 BK.out; obtain ⟨hbz0, hbf0⟩ := bk1 BX.out))
        refine bodyPost_ret (results_list (rs := [.tmp 4, .tmp 5]) rfl (by simp) (.tmp (.tmp .nil))) rfl ?_
        exact ⟨_, lE, BX.out, HO.out, HB.out⟩
       ·have h0b : (rc == 0) = false := beq_eq_false_iff_ne.mpr h0
        by_cases hn0 : n = 0
        ·subst hn0
         rw [if_neg (by omega)] at h
         go_enter Try.func63, Try.ntmps63
         go_upto_region 30 with (first | (go_at_call 63; (with_reducible refine (HOK0.out _ _ said ((_, true), rs) (HB0.out.trans HB.out) BX.out HO.out A2.out).mono ?_); rintro e w5 ⟨v5, rfl, hbx_, hro_, hb_⟩; have n0_ := Aside0.mk (HB.out.trans hb_); have n1_ := Aside0.mk hbx_; have n2_ := Aside0.mk hro_; have n3_ := Aside0.mk ((hb_.block g HG.out).trans BK.out); clear HB BX HO BK hcz0 hfz0 hcz1 hfz1 hcz2 hfz2 hbz0 hbf0 hb_ hbx_ hro_; have HB := n0_; have BX := n1_; have HO := n2_; have BK := n3_; clear n0_ n1_ n2_ n3_; obtain ⟨hcz0, hfz0, hcz1, hfz1, hcz2, hfz2⟩ := bk3 BK.out; obtain ⟨hbz0, hbf0⟩ := bk1 BX.out))
         unfold Xe.second at h
         split at h
         ·cases h
         rename_i f1 hf1
         obtain ⟨gi1, hh1, eA1, hm1, hc1, hok1⟩ := Xe.kids0 HN.out hf1
         have HOK1 := Aside0.mk hok1
         have HM1 := Aside0.mk hm1
         have HC1 := Aside0.mk hc1
         clear hok1 hc1
         obtain rfl : hh0 = hh1 := by injection eA1 with eA1; injection eA1
         have hk1 := HC1.out _ (HB0.out.trans HB.out)
         have hm1b : (1 < m) = True := eq_true hm1
         have hm1c : ((1 : Int) < (m : Int)) = True := eq_true (by omega)
         have A3 := Aside0.mk h
         clear h hm1 eA1
         go_wp2_with (first | (go_at_call 63; (with_reducible refine (HOK1.out _ _ rs r (HB0.out.trans HB.out) BX.out HO.out A3.out).mono ?_); rintro e w5 ⟨v5, rfl, hbx_, hro_, hb_⟩; have n0_ := Aside0.mk (HB.out.trans hb_); have n1_ := Aside0.mk hbx_; have n2_ := Aside0.mk hro_; have n3_ := Aside0.mk ((hb_.block g HG.out).trans BK.out); clear HB BX HO BK hcz0 hfz0 hcz1 hfz1 hcz2 hfz2 hbz0 hbf0 hb_ hbx_ hro_; have HB := n0_; have BX := n1_; have HO := n2_; have BK := n3_; clear n0_ n1_ n2_ n3_; obtain ⟨hcz0, hfz0, hcz1, hfz1, hcz2, hfz2⟩ := bk3 BK.out; obtain ⟨hbz0, hbf0⟩ := bk1 BX.out))
         refine bodyPost_ret (results_list (rs := [.tmp 4, .tmp 5]) rfl (by simp) (.tmp (.tmp .nil))) rfl ?_
         exact ⟨_, lE, BX.out, HO.out, HB.out⟩
        ·have hn0b : (n != 0) = true := bne_iff_ne.mpr hn0
         by_cases hnc : n = rc
         ·subst hnc
          rw [if_neg (by omega)] at h
          have hncb : (n != n) = false := bne_self_eq_false n
          go_enter Try.func63, Try.ntmps63
          go_upto_region 30 with (first | (go_at_call 63; (with_reducible refine (HOK0.out _ _ said ((_, true), rs) (HB0.out.trans HB.out) BX.out HO.out A2.out).mono ?_); rintro e w5 ⟨v5, rfl, hbx_, hro_, hb_⟩; have n0_ := Aside0.mk (HB.out.trans hb_); have n1_ := Aside0.mk hbx_; have n2_ := Aside0.mk hro_; have n3_ := Aside0.mk ((hb_.block g HG.out).trans BK.out); clear HB BX HO BK hcz0 hfz0 hcz1 hfz1 hcz2 hfz2 hbz0 hbf0 hb_ hbx_ hro_; have HB := n0_; have BX := n1_; have HO := n2_; have BK := n3_; clear n0_ n1_ n2_ n3_; obtain ⟨hcz0, hfz0, hcz1, hfz1, hcz2, hfz2⟩ := bk3 BK.out; obtain ⟨hbz0, hbf0⟩ := bk1 BX.out))
          unfold Xe.second at h
          split at h
          ·cases h
          rename_i f1 hf1
          obtain ⟨gi1, hh1, eA1, hm1, hc1, hok1⟩ := Xe.kids0 HN.out hf1
          have HOK1 := Aside0.mk hok1
          have HM1 := Aside0.mk hm1
          have HC1 := Aside0.mk hc1
          clear hok1 hc1
          obtain rfl : hh0 = hh1 := by injection eA1 with eA1; injection eA1
          have hk1 := HC1.out _ (HB0.out.trans HB.out)
          have hm1b : (1 < m) = True := eq_true hm1
          have hm1c : ((1 : Int) < (m : Int)) = True := eq_true (by omega)
          have A3 := Aside0.mk h
          clear h hm1 eA1
          go_wp2_with (first | (go_at_call 63; (with_reducible refine (HOK1.out _ _ rs r (HB0.out.trans HB.out) BX.out HO.out A3.out).mono ?_); rintro e w5 ⟨v5, rfl, hbx_, hro_, hb_⟩; have n0_ := Aside0.mk (HB.out.trans hb_); have n1_ := Aside0.mk hbx_; have n2_ := Aside0.mk hro_; have n3_ := Aside0.mk ((hb_.block g HG.out).trans BK.out); clear HB BX HO BK hcz0 hfz0 hcz1 hfz1 hcz2 hfz2 hbz0 hbf0 hb_ hbx_ hro_; have HB := n0_; have BX := n1_; have HO := n2_; have BK := n3_; clear n0_ n1_ n2_ n3_; obtain ⟨hcz0, hfz0, hcz1, hfz1, hcz2, hfz2⟩ := bk3 BK.out; obtain ⟨hbz0, hbf0⟩ := bk1 BX.out))
          refine bodyPost_ret (results_list (rs := [.tmp 4, .tmp 5]) rfl (by simp) (.tmp (.tmp .nil))) rfl ?_
          exact ⟨_, lE, BX.out, HO.out, HB.out⟩
         ·rw [if_pos (.inr ⟨hn0, hnc⟩)] at h
          have hncb : (n != rc) = true := bne_iff_ne.mpr hnc
          obtain rfl := Option.some.inj h
          clear h
          go_enter Try.func63, Try.ntmps63
          go_wp2_with (first | (go_at_call 63; (with_reducible refine (HOK0.out _ _ said ((_, _), rs) (HB0.out.trans HB.out) BX.out HO.out A2.out).mono ?_); rintro e w5 ⟨v5, rfl, hbx_, hro_, hb_⟩; have n0_ := Aside0.mk (HB.out.trans hb_); have n1_ := Aside0.mk hbx_; have n2_ := Aside0.mk hro_; have n3_ := Aside0.mk ((hb_.block g HG.out).trans BK.out); clear HB BX HO BK hcz0 hfz0 hcz1 hfz1 hcz2 hfz2 hbz0 hbf0 hb_ hbx_ hro_; have HB := n0_; have BX := n1_; have HO := n2_; have BK := n3_; clear n0_ n1_ n2_ n3_; obtain ⟨hcz0, hfz0, hcz1, hfz1, hcz2, hfz2⟩ := bk3 BK.out; obtain ⟨hbz0, hbf0⟩ := bk1 BX.out))
          refine bodyPost_ret (results_list (rs := [.tmp 4, .tmp 5]) rfl (by simp) (.tmp (.tmp .nil))) rfl ?_
          exact ⟨_, lE, BX.out, HO.out, HB.out⟩
      ·rw [if_neg k4] at h
       have k4b : (k == 4) = false := beq_eq_false_iff_ne.mpr k4
       by_cases k5 : k = 5
       ·rw [if_pos k5] at h
        subst k5
        replace h := lO h; obtain ⟨q, A4, h⟩ := h
        obtain ⟨⟨qc, qo⟩, qs⟩ := q
        have h5 := A4.out
        unfold Xe.second at h5
        split at h5
        ·cases h5
        rename_i f1 hf1
        obtain ⟨gi1, hh1, eA1, hm1, hc1, hok1⟩ := Xe.kids0 HN.out hf1
        have HOK1 := Aside0.mk hok1
        have HM1 := Aside0.mk hm1
        have HC1 := Aside0.mk hc1
        clear hok1 hc1
        obtain rfl : hh0 = hh1 := by injection eA1 with eA1; injection eA1
        have hm1b : (1 < m) = True := eq_true hm1
        have hm1c : ((1 : Int) < (m : Int)) = True := eq_true (by omega)
        have A3 := Aside0.mk h5
        clear h5 A4 hm1 eA1
        simp only at h
        go_enter Try.func63, Try.ntmps63
        go_upto_region 26 with (first | (go_at_call 63; (with_reducible refine (HOK0.out _ _ said ((_, true), rs) (HB0.out.trans HB.out) BX.out HO.out A2.out).mono ?_); rintro e w5 ⟨v5, rfl, hbx_, hro_, hb_⟩; have n0_ := Aside0.mk (HB.out.trans hb_); have n1_ := Aside0.mk hbx_; have n2_ := Aside0.mk hro_; have n3_ := Aside0.mk ((hb_.block g HG.out).trans BK.out); clear HB BX HO BK hcz0 hfz0 hcz1 hfz1 hcz2 hfz2 hbz0 hbf0 hb_ hbx_ hro_; have HB := n0_; have BX := n1_; have HO := n2_; have BK := n3_; clear n0_ n1_ n2_ n3_; obtain ⟨hcz0, hfz0, hcz1, hfz1, hcz2, hfz2⟩ := bk3 BK.out; obtain ⟨hbz0, hbf0⟩ := bk1 BX.out))
        have hk1 := HC1.out _ (HB0.out.trans HB.out)
        by_cases h0 : qc = 0
        ·subst h0
         cases qo with
         | false =>
          rw [if_pos (.inr rfl)] at h
          obtain rfl := Option.some.inj h
          clear h
          go_wp2_with (first | (go_at_call 63; (with_reducible refine (HOK1.out _ _ rs ((_, _), qs) (HB0.out.trans HB.out) BX.out HO.out A3.out).mono ?_); rintro e w5 ⟨v5, rfl, hbx_, hro_, hb_⟩; have n0_ := Aside0.mk (HB.out.trans hb_); have n1_ := Aside0.mk hbx_; have n2_ := Aside0.mk hro_; have n3_ := Aside0.mk ((hb_.block g HG.out).trans BK.out); clear HB BX HO BK hcz0 hfz0 hcz1 hfz1 hcz2 hfz2 hbz0 hbf0 hb_ hbx_ hro_; have HB := n0_; have BX := n1_; have HO := n2_; have BK := n3_; clear n0_ n1_ n2_ n3_; obtain ⟨hcz0, hfz0, hcz1, hfz1, hcz2, hfz2⟩ := bk3 BK.out; obtain ⟨hbz0, hbf0⟩ := bk1 BX.out))
          refine bodyPost_ret (results_list (rs := [.tmp 4, .tmp 5]) rfl (by simp) (.tmp (.tmp .nil))) rfl ?_
          exact ⟨_, lE, BX.out, HO.out, HB.out⟩
         | true =>
          rw [if_neg (by simp)] at h
          obtain rfl := Option.some.inj h
          clear h
          go_wp2_with (first | (go_at_call 63; (with_reducible refine (HOK1.out _ _ rs ((_, _), qs) (HB0.out.trans HB.out) BX.out HO.out A3.out).mono ?_); rintro e w5 ⟨v5, rfl, hbx_, hro_, hb_⟩; have n0_ := Aside0.mk (HB.out.trans hb_); have n1_ := Aside0.mk hbx_; have n2_ := Aside0.mk hro_; have n3_ := Aside0.mk ((hb_.block g HG.out).trans BK.out); clear HB BX HO BK hcz0 hfz0 hcz1 hfz1 hcz2 hfz2 hbz0 hbf0 hb_ hbx_ hro_; have HB := n0_; have BX := n1_; have HO := n2_; have BK := n3_; clear n0_ n1_ n2_ n3_; obtain ⟨hcz0, hfz0, hcz1, hfz1, hcz2, hfz2⟩ := bk3 BK.out; obtain ⟨hbz0, hbf0⟩ := bk1 BX.out))
          refine bodyPost_ret (results_list (rs := [.tmp 4, .tmp 5]) rfl (by simp) (.tmp (.tmp .nil))) rfl ?_
          exact ⟨_, lE, BX.out, HO.out, HB.out⟩
        ·rw [if_pos (.inl h0)] at h
         have h0b : (qc != 0) = true := bne_iff_ne.mpr h0
         obtain rfl := Option.some.inj h
         clear h
         go_wp2_with (first | (go_at_call 63; (with_reducible refine (HOK1.out _ _ rs ((_, _), qs) (HB0.out.trans HB.out) BX.out HO.out A3.out).mono ?_); rintro e w5 ⟨v5, rfl, hbx_, hro_, hb_⟩; have n0_ := Aside0.mk (HB.out.trans hb_); have n1_ := Aside0.mk hbx_; have n2_ := Aside0.mk hro_; have n3_ := Aside0.mk ((hb_.block g HG.out).trans BK.out); clear HB BX HO BK hcz0 hfz0 hcz1 hfz1 hcz2 hfz2 hbz0 hbf0 hb_ hbx_ hro_; have HB := n0_; have BX := n1_; have HO := n2_; have BK := n3_; clear n0_ n1_ n2_ n3_; obtain ⟨hcz0, hfz0, hcz1, hfz1, hcz2, hfz2⟩ := bk3 BK.out; obtain ⟨hbz0, hbf0⟩ := bk1 BX.out))
         refine bodyPost_ret (results_list (rs := [.tmp 4, .tmp 5]) rfl (by simp) (.tmp (.tmp .nil))) rfl ?_
         exact ⟨_, lE, BX.out, HO.out, HB.out⟩
       ·rw [if_neg k5] at h
        have k5b : (k == 5) = false := beq_eq_false_iff_ne.mpr k5
        go_enter Try.func63, Try.ntmps63
        go_upto_region 30 with (first | (go_at_call 63; (with_reducible refine (HOK0.out _ _ said ((_, true), rs) (HB0.out.trans HB.out) BX.out HO.out A2.out).mono ?_); rintro e w5 ⟨v5, rfl, hbx_, hro_, hb_⟩; have n0_ := Aside0.mk (HB.out.trans hb_); have n1_ := Aside0.mk hbx_; have n2_ := Aside0.mk hro_; have n3_ := Aside0.mk ((hb_.block g HG.out).trans BK.out); clear HB BX HO BK hcz0 hfz0 hcz1 hfz1 hcz2 hfz2 hbz0 hbf0 hb_ hbx_ hro_; have HB := n0_; have BX := n1_; have HO := n2_; have BK := n3_; clear n0_ n1_ n2_ n3_; obtain ⟨hcz0, hfz0, hcz1, hfz1, hcz2, hfz2⟩ := bk3 BK.out; obtain ⟨hbz0, hbf0⟩ := bk1 BX.out))
        unfold Xe.second at h
        split at h
        ·cases h
        rename_i f1 hf1
        obtain ⟨gi1, hh1, eA1, hm1, hc1, hok1⟩ := Xe.kids0 HN.out hf1
        have HOK1 := Aside0.mk hok1
        have HM1 := Aside0.mk hm1
        have HC1 := Aside0.mk hc1
        clear hok1 hc1
        obtain rfl : hh0 = hh1 := by injection eA1 with eA1; injection eA1
        have hk1 := HC1.out _ (HB0.out.trans HB.out)
        have hm1b : (1 < m) = True := eq_true hm1
        have hm1c : ((1 : Int) < (m : Int)) = True := eq_true (by omega)
        have A3 := Aside0.mk h
        clear h hm1 eA1
        go_wp2_with (first | (go_at_call 63; (with_reducible refine (HOK1.out _ _ rs r (HB0.out.trans HB.out) BX.out HO.out A3.out).mono ?_); rintro e w5 ⟨v5, rfl, hbx_, hro_, hb_⟩; have n0_ := Aside0.mk (HB.out.trans hb_); have n1_ := Aside0.mk hbx_; have n2_ := Aside0.mk hro_; have n3_ := Aside0.mk ((hb_.block g HG.out).trans BK.out); clear HB BX HO BK hcz0 hfz0 hcz1 hfz1 hcz2 hfz2 hbz0 hbf0 hb_ hbx_ hro_; have HB := n0_; have BX := n1_; have HO := n2_; have BK := n3_; clear n0_ n1_ n2_ n3_; obtain ⟨hcz0, hfz0, hcz1, hfz1, hcz2, hfz2⟩ := bk3 BK.out; obtain ⟨hbz0, hbf0⟩ := bk1 BX.out))
        refine bodyPost_ret (results_list (rs := [.tmp 4, .tmp 5]) rfl (by simp) (.tmp (.tmp .nil))) rfl ?_
        exact ⟨_, lE, BX.out, HO.out, HB.out⟩
theorem impl_xnode_eval.calls : ∀ (t : S72) (w0 : World) (B gs g : Nat), B ≤ gs → B ≤ w0.heap.size → Xn.In w0 0 (fun k => k < B) t g → Xe.Ok w0 B gs (Xe.ev t) g := by
 intro t
 induction hN : SizeOf.sizeOf t using Nat.strongRecOn generalizing t with
 | _ N ih =>
 subst hN
 intro w0 B gs g h1 h2 h
 obtain ⟨k, n, ks⟩ := t
 unfold Xn.In at h
 obtain ⟨⟨hg, _⟩, v, gl, hc, hR, hI⟩ := h
 obtain ⟨A, c, rfl⟩ := Kd.R_slice hR
 have e : Xe.ev ⟨k, n, ks⟩ = Xe.node k n (Xe.evs ks) := by funext said; unfold Xe.ev; rfl
 rw [e]
 refine Xe.node_ok (A := A) (m := gl.length) (c := c) ⟨hg, h1, h2, hc, fun i f hf => ?_⟩
 obtain ⟨t, ht, rfl⟩ := Xe.evs_at ks i f hf
 obtain ⟨gi, hgi, hin⟩ := hI.at_ i t ht
 have hil : i < gl.length := by
  by_cases hl : i < gl.length
  ·exact hl
  ·rw [List.getElem?_eq_none (by omega)] at hgi; cases hgi
 obtain ⟨hh, cap, he, _, _, hcl⟩ := Kd.R_form hR (by omega)
 injection he with he1 he2 he3
 subst he1
 have hcell := (Kd.R_celln 0 hR (i : Int) (by omega) (by omega)).1
 have hlt : hh < B := hR.1 hh (by simp [Value.ownBlock])
 refine ⟨gi, hh, rfl, hil, hlt, ?_, ih (SizeOf.sizeOf t) ?_ t rfl w0 B gs gi h1 h2 hin⟩
 ·rw [Int.toNat_natCast] at hcell
  rw [hcell]
  have e2 : rdOf 0 gl (i : Int) = gi := by unfold rdOf; rw [Int.toNat_natCast, List.getD, hgi]; rfl
  rw [e2]
  rfl
 ·have hm : t ∈ ks := List.mem_of_getElem? ht
  have := List.sizeOf_lt_of_mem hm
  simp
  omega
def impl_EvalTree.f (l : List S76) : Option (List Int × Int × Bool) := (impl_parseTree.f l).bind fun r => if r.2 = true then (match r.1 with
  | none => none
  | some t => (Xe.ev t []).bind fun q => if q.1.2 = true then some (q.2, q.1.1, true) else some ([], 0, false)) else some ([], 0, false)
set_option maxHeartbeats 8000000 in
set_option maxRecDepth 100000 in
theorem impl_EvalTree.calls (A0 : Option Addr) (c0 : Nat) (l0 : List S76) (r1 : List Int) (r2 : Int) (r3 : Bool) (w : World) (hr0 : Kd.C k76 w A0 l0.length l0) (hc0 : l0.length ≤ c0) (h : impl_EvalTree.f l0 = some (r1, r2, r3)) :
  Calls Try.prog 31 #[.slice A0 l0.length c0] w fun e w' => ∃ v0_ : Value, e = .returned (.tuple #[v0_, .int .i64 r2, .bool r3]) ∧ Kd.R (Kd.int .i64) 3 w' w.heap.size (fun _ => True) v0_ r1 ∧ Below w.heap.size w w' := by
 unfold impl_EvalTree.f at h
 have hu45 := Try.underlying45
 have HR0 := Aside0.mk hr0
 have HC0 := Aside0.mk hc0
 have HB := Aside0.mk (Below.refl w.heap.size w)
 clear hr0 hc0
 replace h := lO h
 obtain ⟨⟨ro, rb⟩, A1, h⟩ := h
 cases rb with
 | false =>
  rw [if_neg (by simp)] at h
  simp only [Option.some.injEq, Prod.mk.injEq] at h
  obtain ⟨rfl, rfl, rfl⟩ := h
  go_enter Try.func31, Try.ntmps31
  go_wp2_with (first | (go_at_call 46; (with_reducible refine (impl_parseTree.calls _ _ l0 (ro, false) _ (lC HR0.out) HC0.out A1.out).mono ?_); rintro e w5 ⟨p, rfl, hopt, hb⟩; clear hopt; have n0_ := Aside0.mk (below_step lB hb); clear HB; have HB := n0_; clear n0_ hb))
  refine bodyPost_ret (results_list (rs := [.tmp 2, .tmp 3, .tmp 4]) rfl (by simp) (.tmp (.tmp (.tmp .nil)))) rfl ?_
  exact ⟨_, lE, Kd.R_nil _ _ _ _ _, lB⟩
 | true =>
  rw [if_pos rfl] at h
  cases ro with
  | none => cases h
  | some t =>
   simp only at h
   replace h := lO h
   obtain ⟨⟨⟨qc, qo⟩, qs⟩, A2, h⟩ := h
   simp only at h
   go_enter Try.func31, Try.ntmps31
   go_upto_region 5 with (first | (go_at_call 46; (with_reducible refine (impl_parseTree.calls _ _ l0 (some t, true) _ (lC HR0.out) HC0.out A1.out).mono ?_); rintro e w5 ⟨p, rfl, ⟨g, rfl, hin1⟩, hb⟩; have n0_ := Aside0.mk (below_step lB hb); have n1_ := Aside0.mk hin1; clear HB; have HB := n0_; have HI := n1_; clear n0_ n1_ hb hin1; have HBB := Aside0.mk (Below.refl w5.heap.size w5)) | ((with_reducible refine gate_dst (N := 16) rfl ?_); refine Kd.R_lit (Kd.int .i64) _ 3 ?hg (N := 16) ?hd (xs := ([] : List Int)) (inner := []) (ok := fun _ => True) (okp := fun _ => True) ?hr ?hp (fun _ hk => hk) trivial (Below.refl _ _) (Nat.le_refl _) (by simp) ?_; (case hd => rfl); (case hg => rfl); (case hr => first | (go_simp; done) | (go_simp; rfl)); (case hp => exact (Reps.none _ _)); intro v6 w6 ho6 hb hg_ hnew_; clear hg_ hnew_; have n0_ := Aside0.mk (Kd.R_lower ho6 (below_size HBB.out)); have n1_ := Aside0.mk (below_step HBB.out hb); clear HBB; have HO := n0_; have HBB := n1_; clear n0_ n1_ hb ho6; obtain ⟨Av, cv, ev⟩ := Kd.R_slice HO.out; subst ev) | ((with_reducible refine gate_dst (N := 7) rfl ?_); refine bxe 7 #[.slice none 0 0] 45 ?_; intro gs hg w7 hbox hb; have n0_ := Aside0.mk (below_step HBB.out hb); have n1_ := Aside0.mk hbox; have n2_ := Aside0.mk (Kd.R_below HO.out hb); have n3_ : Aside0 (w5.heap.size ≤ gs) := ⟨by rw [hg]; exact below_size HBB.out⟩; clear HBB HO; have HBB := n0_; have BX := n1_; have HO := n2_; have HGS := n3_; clear n0_ n1_ n2_ n3_ hg hbox hb; obtain ⟨hbz0, hbf0⟩ := bk1 BX.out) | ((with_reducible refine gate_store (t := 45) (p := 7) rfl ?_); refine store_event (t := 45) (p := 7) (v := ?vo_w8) (w1 := (w7.setCell ⟨gs, 0, none⟩ (.slice Av 0 cv))) ?hg ?ho ?hn ?hr ?_; (case ho => rfl); (case hg => rfl); (case hn => rfl); (case hr => first | (go_simp; done) | (go_simp; rfl)); intro w8 hw; have n0_ : Aside0 (w8.heap[gs]? = some (.cells #[.slice Av 0 cv] 45 (0, 0))) := ⟨by rw [hw]; exact blk_put (cs := #[.slice none 0 0]) BX.out 0 _ rfl⟩; have n1_ : Aside0 ((Kd.int .i64).R 3 w8 w5.heap.size (fun _ => True) (.slice Av 0 cv) []) := ⟨by rw [hw]; exact Kd.R_set HO.out BX.out (by decide) 0 _⟩; have n2_ : Aside0 (Below w5.heap.size w5 w8) := ⟨by rw [hw]; exact HBB.out.setCell (p := ⟨gs, 0, none⟩) HGS.out _⟩; clear hw BX HO HBB hbz0 hbf0; have BX := n0_; have HO := n1_; have HBB := n2_; clear n0_ n1_ n2_))
   have hOk := impl_xnode_eval.calls t w8 w5.heap.size gs g HGS.out HBB.out.size (HI.out.move (S1 := fun k => k < w5.heap.size) (fun k hk _ => HBB.out.block k hk) (fun _ hk _ => hk) (Nat.zero_le _))
   have HOK := Aside0.mk (hOk w8 _ [] _ (Below.refl _ _) BX.out HO.out A2.out)
   clear hOk
   have HB8 := Aside0.mk (below_step HB.out HBB.out)
   have HSZ := Aside0.mk (below_size HB.out)
   have HB85 := HBB
   clear HB HBB
   cases qo with
   | false =>
    rw [if_neg (by simp)] at h
    simp only [Option.some.injEq, Prod.mk.injEq] at h
    obtain ⟨rfl, rfl, rfl⟩ := h
    go_wp2_with (first | (go_at_call 63; (with_reducible refine HOK.out.mono ?_); rintro e w9 ⟨v9, rfl, hbx, hro, hb⟩; have n0_ : Aside0 (Below w.heap.size w w9) := ⟨HB8.out.trans (hb.mono HSZ.out)⟩; clear HB8; have HB := n0_; clear n0_))
    refine bodyPost_ret (results_list (rs := [.tmp 2, .tmp 3, .tmp 4]) rfl (by simp) (.tmp (.tmp (.tmp .nil)))) rfl ?_
    exact ⟨_, lE, Kd.R_nil _ _ _ _ _, lB⟩
   | true =>
    rw [if_pos rfl] at h
    simp only [Option.some.injEq, Prod.mk.injEq] at h
    obtain ⟨rfl, rfl, rfl⟩ := h
    go_wp2_with (first | (go_at_call 63; (with_reducible refine HOK.out.mono ?_); rintro e w9 ⟨v9, rfl, hbx, hro, hb⟩; have n0_ : Aside0 (Below w.heap.size w w9) := ⟨HB8.out.trans (hb.mono HSZ.out)⟩; have n1_ := Aside0.mk (Kd.R_lower hro HSZ.out); obtain ⟨hbz0, hbf0⟩ := bk1 hbx; clear HB8 hbx hro hb; have HB := n0_; have HO9 := n1_; clear n0_ n1_; obtain ⟨A9, c9, e9⟩ := Kd.R_slice HO9.out; subst e9))
    refine bodyPost_ret (results_list (rs := [.tmp 2, .tmp 3, .tmp 4]) rfl (by simp) (.tmp (.tmp (.tmp .nil)))) rfl ?_
    exact ⟨_, lE, HO9.out, lB⟩
def impl_guardAt.f (l0_0 : List (S86)) (l0_1 : List (S63)) (a1 : Int) (a2 : Int) : Option (Int) := (impl_Guard_84_85.f l0_1 a1 a2).bind fun t191 => (some t191)
set_option maxHeartbeats 8000000 in
set_option maxRecDepth 100000 in
theorem impl_guardAt.calls (A0_0 : Option Addr) (c0_0 : Nat) (l0_0 : List (S86)) (A0_1 : Option Addr) (c0_1 : Nat) (l0_1 : List (S63)) (a1 : Int) (a2 : Int) (r : Int) (w : World) (hr0_0 : Kd.C k86 w A0_0 l0_0.length l0_0) (hc0_0 : l0_0.length ≤ c0_0) (hr0_1 : Kd.C k63 w A0_1 l0_1.length l0_1) (hc0_1 : l0_1.length ≤ c0_1) (h : impl_guardAt.f l0_0 l0_1 a1 a2 = some r) :
  Calls Try.prog 59 #[.agg #[.slice A0_0 l0_0.length c0_0, .slice A0_1 l0_1.length c0_1], .int .i64 a1, .int .i64 a2] w fun e w' => e = .returned (.int .i64 r) ∧ Below w.heap.size w w' := by
 have hu38 := Try.underlying38
 have HR0_0 := Aside0.mk hr0_0
 have HC0_0 := Aside0.mk hc0_0
 clear hr0_0 hc0_0
 have HR0_1 := Aside0.mk hr0_1
 have HC0_1 := Aside0.mk hc0_1
 clear hr0_1 hc0_1
 have HB := Aside0.mk (Below.refl w.heap.size w)
 have H : ((impl_Guard_84_85.f l0_1 a1 a2).bind fun t191 => (some t191)) = some r := h
 clear h
 replace H := lO H
 obtain ⟨t191, A4, H⟩ := H
 obtain rfl := Option.some.inj H
 go_enter Try.func59, Try.ntmps59
 go_wp2_with (first | ((with_reducible refine gate_dst (N := 3) rfl ?_); refine bxe 3 #[.slice A0_0 l0_0.length c0_0, .slice A0_1 l0_1.length c0_1] 38 ?_; intro gb188 hg w5 hbox hb; have n0_ := Aside0.mk (below_step lB hb); have n1_ := Aside0.mk (hbox); have n2_ := lG w hg; have n3_ := lG w hg; clear HB; have HB := n0_; have BK188 := n1_; have GW188 := n2_; have GE188 := n3_; clear n0_ n1_ n2_ n3_; clear hb hbox hg) | ((with_reducible refine gate_dst (N := 4) rfl ?_); refine bxe 4 #[.int .i64 a1] 3 ?_; intro gb189 hg w6 hbox hb; have n0_ := Aside0.mk (blk_below (lK BK188.out) hb); have n1_ := Aside0.mk (below_step lB hb); have n2_ := Aside0.mk (hbox); have n3_ := lG w hg; have n4_ := lG w hg; have n5_ := Aside0.mk ((by rw [hg]; exact Nat.ne_of_lt (blk_lt (lK BK188.out)) : gb188 ≠ gb189)); have n6_ := Aside0.mk ((by rw [hg]; exact Nat.ne_of_gt (blk_lt (lK BK188.out)) : gb189 ≠ gb188)); clear BK188; clear HB; have BK188 := n0_; have HB := n1_; have BK189 := n2_; have GW189 := n3_; have GE189 := n4_; have NB188_189 := n5_; have NB189_188 := n6_; clear n0_ n1_ n2_ n3_ n4_ n5_ n6_; clear hb hbox hg) | ((with_reducible refine gate_dst (N := 5) rfl ?_); refine bxe 5 #[.int .i64 a2] 3 ?_; intro gb190 hg w7 hbox hb; have n0_ := Aside0.mk (blk_below (lK BK188.out) hb); have n1_ := Aside0.mk (blk_below (lK BK189.out) hb); have n2_ := Aside0.mk (below_step lB hb); have n3_ := Aside0.mk (hbox); have n4_ := lG w hg; have n5_ := lG w hg; have n6_ := Aside0.mk ((by rw [hg]; exact Nat.ne_of_lt (blk_lt (lK BK188.out)) : gb188 ≠ gb190)); have n7_ := Aside0.mk ((by rw [hg]; exact Nat.ne_of_gt (blk_lt (lK BK188.out)) : gb190 ≠ gb188)); have n8_ := Aside0.mk ((by rw [hg]; exact Nat.ne_of_lt (blk_lt (lK BK189.out)) : gb189 ≠ gb190)); have n9_ := Aside0.mk ((by rw [hg]; exact Nat.ne_of_gt (blk_lt (lK BK189.out)) : gb190 ≠ gb189)); clear BK188; clear BK189; clear HB; have BK188 := n0_; have BK189 := n1_; have HB := n2_; have BK190 := n3_; have GW190 := n4_; have GE190 := n5_; have NB188_190 := n6_; have NB190_188 := n7_; have NB189_190 := n8_; have NB190_189 := n9_; clear n0_ n1_ n2_ n3_ n4_ n5_ n6_ n7_ n8_ n9_; clear hb hbox hg; have hnb8 := NB188_189.out; have hnc8 := NB189_188.out; have hnb9 := NB188_190.out; have hnc9 := NB190_188.out; obtain ⟨hcz10_0, hfz10_0, hcz10_1, hfz10_1⟩ := bk2 BK188.out) | ((with_reducible refine gate_callee (f := 84) rfl ?_); refine gl_ (some 10) (Try.func84) #[.slice A0_1 l0_1.length c0_1, .func (.func 85) #[] #[.pointer (some ⟨gb189, 0, none⟩), .pointer (some ⟨gb190, 0, none⟩)]] ?_; (with_reducible refine (impl_Guard_84_85.calls _ _ l0_1 gb189 a1 gb190 a2 t191 _ ?side1 ?side2 ?side3 ?side4 A4.out).mono ?_); (case side1 => exact lC (Kd.C_below HR0_1.out HB.out)); (case side2 => exact HC0_1.out); (case side3 => exact (lK BK189.out)); (case side4 => exact (lK BK190.out)); rintro e w11 ⟨rfl, hb⟩; refine ⟨_, rfl, ?_⟩; have n0_ := Aside0.mk (blk_below (lK BK188.out) hb); have n1_ := Aside0.mk (blk_below (lK BK189.out) hb); have n2_ := Aside0.mk (blk_below (lK BK190.out) hb); have n3_ := Aside0.mk (below_step lB hb); clear BK188; clear BK189; clear BK190; clear HB; have BK188 := n0_; have BK189 := n1_; have BK190 := n2_; have HB := n3_; clear n0_ n1_ n2_ n3_; (try clear hb); (try clear hb2); (try clear hk); (try clear hi)))
 go_ret
 exact ⟨lE, lB⟩
end Go.Proofs.Ytgjojppbichaiaa.Q
