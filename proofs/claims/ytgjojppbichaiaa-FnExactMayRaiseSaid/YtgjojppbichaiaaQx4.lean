-- Written by the program wip/tools/pr.py of this claim's session, over the kit's print.py.
import Derived.Test.YtgjojppbichaiaaQx0
import Derived.Test.YtgjojppbichaiaaQx3
namespace Go.Proofs.Ytgjojppbichaiaa.Q
open Go.RowKit Go.Proofs.YtgjojppbichaiaaW.PrintWords Go.Proofs.YtgjojppbichaiaaW.PrintLast Go.Proofs.YtgjojppbichaiaaW.PrintMore
attribute [local go_sem] max2_int min2_int max_two min_two max_three min_three max_four min_four   -- for this text's walks alone
set_option linter.unusedVariables false
set_option linter.unusedSimpArgs false

/-! ### impl_parseNode: function 77 -/
/-! trees of pointers: a node lies in a block of its own, its kids' addresses in a row -/
theorem info79 : (Try.prog.info? 79).map (fun i => (i.zero, i.size, i.bytes)) = some (some (.pointer none), 1, 8) := by kernel_rfl
def Xn.ptr (g : Nat) : Value := .pointer (some ⟨g, 0, none⟩)
def Xn.kP : Kd Nat := Kd.scalar Xn.ptr (fun _ => rfl)
mutual
/-- A tree lies at a block: its blocks are from base on, and such as S says. -/
def Xn.In (w : World) (base : Nat) (S : Nat → Prop) : S72 → Nat → Prop
  | ⟨k, n, kids⟩, g => (S g ∧ base ≤ g) ∧ ∃ (v : Value) (gs : List Nat), w.heap[g]? = some (.cells #[.int .i64 k, .int .i64 n, v] 135 (0, 0)) ∧ Xn.kP.R 79 w base S v gs ∧ Xn.Ins w base S kids gs
def Xn.Ins (w : World) (base : Nat) (S : Nat → Prop) : List S72 → List Nat → Prop
  | [], gs => gs = []
  | t :: ts, gs => ∃ g gs', gs = g :: gs' ∧ Xn.In w base S t g ∧ Xn.Ins w base S ts gs'
end
mutual
theorem Xn.In.move {w w1 : World} {base base1 : Nat} {S S1 : Nat → Prop} (hm : ∀ k, S k → base ≤ k → w1.heap[k]? = w.heap[k]?) (hS : ∀ k, S k → base ≤ k → S1 k) (hb : base1 ≤ base) : ∀ {t : S72} {g : Nat}, Xn.In w base S t g → Xn.In w1 base1 S1 t g
  | ⟨k, n, kids⟩, g, h => by
    unfold Xn.In at h ⊢
    obtain ⟨⟨h1, h1b⟩, v, gs, h2, h3, h4⟩ := h
    refine ⟨⟨hS g h1 h1b, by omega⟩, v, gs, (hm g h1 h1b).trans h2, ?_, h4.move hm hS hb⟩
    have h5 := Kd.R_bound h3
    exact Kd.R_lower (Kd.R_mono (Kd.R_move h5 (fun k hk => hm k hk.1 hk.2.1)) (fun k hk => hS k hk.1 hk.2.1)) hb
theorem Xn.Ins.move {w w1 : World} {base base1 : Nat} {S S1 : Nat → Prop} (hm : ∀ k, S k → base ≤ k → w1.heap[k]? = w.heap[k]?) (hS : ∀ k, S k → base ≤ k → S1 k) (hb : base1 ≤ base) : ∀ {ts : List S72} {gs : List Nat}, Xn.Ins w base S ts gs → Xn.Ins w1 base1 S1 ts gs
  | [], gs, h => by
    unfold Xn.Ins at h ⊢
    exact h
  | t :: ts, gs, h => by
    unfold Xn.Ins at h ⊢
    obtain ⟨g, gs', rfl, h1, h2⟩ := h
    exact ⟨g, gs', rfl, h1.move hm hS hb, h2.move hm hS hb⟩
end
theorem Xn.Ins.length {w : World} {base : Nat} {S : Nat → Prop} : ∀ {ts : List S72} {gs : List Nat}, Xn.Ins w base S ts gs → gs.length = ts.length
  | [], gs, h => by unfold Xn.Ins at h; subst h; rfl
  | t :: ts, gs, h => by
    unfold Xn.Ins at h
    obtain ⟨g, gs', rfl, _, h2⟩ := h
    simp [h2.length]
theorem Xn.Ins.snoc {w : World} {base : Nat} {S : Nat → Prop} {t : S72} {g : Nat} (ht : Xn.In w base S t g) : ∀ {ts : List S72} {gs : List Nat}, Xn.Ins w base S ts gs → Xn.Ins w base S (ts ++ [t]) (gs ++ [g])
  | [], gs, h => by
    unfold Xn.Ins at h
    subst h
    simp only [List.nil_append]
    unfold Xn.Ins
    exact ⟨g, [], rfl, ht, by unfold Xn.Ins; rfl⟩
  | t' :: ts, gs, h => by
    unfold Xn.Ins at h
    obtain ⟨g', gs', rfl, h1, h2⟩ := h
    simp only [List.cons_append]
    unfold Xn.Ins
    exact ⟨g', gs' ++ [g], rfl, h1, h2.snoc ht⟩
theorem Xn.Ins.at_ {w : World} {base : Nat} {S : Nat → Prop} : ∀ {ts : List S72} {gs : List Nat} (i : Nat) (t : S72), Xn.Ins w base S ts gs → ts[i]? = some t → ∃ g, gs[i]? = some g ∧ Xn.In w base S t g
  | [], _, i, t, _, ht => by simp at ht
  | t' :: ts, gs, i, t, h, ht => by
    unfold Xn.Ins at h
    obtain ⟨g', gs', rfl, h1, h2⟩ := h
    cases i with
    | zero => simp only [List.getElem?_cons_zero, Option.some.injEq] at ht; subst ht; exact ⟨g', rfl, h1⟩
    | succ i => simp only [List.getElem?_cons_succ] at ht ⊢; exact h2.at_ i t ht
theorem Xn.apart {v v1 : Value} {k n : Nat} (hat : v1.ownBlock = v.ownBlock ∨ ∃ b, v1.ownBlock = some b ∧ n ≤ b) (h : some k ≠ v.ownBlock ∧ k < n) : some k ≠ v1.ownBlock := by
  rcases hat with h1 | ⟨b, h1, h2⟩
  · rw [h1]; exact h.1
  · rw [h1]; intro he; injection he with he; omega
/-- A pointer to a tree, or nil. -/
def Xn.opt (w : World) (base : Nat) : Option S72 → Option Addr → Prop
  | none, p => p = none
  | some t, p => ∃ g, p = some ⟨g, 0, none⟩ ∧ Xn.In w base (fun k => k < w.heap.size) t g
/-- Some trees, one behind another. -/
def Xn.kids (F : Int → Option (Option S72 × Int)) : Nat → Int → List S72 → Option (Option (List S72) × Int)
  | 0, a, acc => some (some acc, a)
  | m + 1, a, acc => (F a).bind fun r => match r.1 with
    | none => some (none, a)
    | some t => Xn.kids F m r.2 (acc ++ [t])
def Xn.rest (F : Int → Int → Option (Option S72 × Int)) (x : S76) (a lo hi : Int) (m : Nat) (q : Int) : Option (Option S72 × Int) :=
  (impl_in.f x.f1 lo hi).bind fun b => if b = true then (if q > 3 then some (none, a) else (Xn.kids (F q) m (wrap64 (a + 1)) []).bind fun r => some (r.1.map fun ks => (⟨x.f0, x.f1, ks⟩ : S72), r.2)) else some (none, a)
def Xn.node (F : Int → Int → Option (Option S72 × Int)) (x : S76) (a q : Int) : Option (Option S72 × Int) :=
  if x.f0 = 1 then Xn.rest F x a 0 99 0 q else if x.f0 = 2 then Xn.rest F x a 1 9 0 q else if x.f0 = 3 then Xn.rest F x a 0 0 2 q else if x.f0 = 5 then Xn.rest F x a 0 0 2 q
  else if x.f0 = 4 then Xn.rest F x a 0 9 2 q else if x.f0 = 6 then Xn.rest F x a 0 5 1 (wrap64 (q + 1)) else some (none, a)
/-- The tree at a place within some loops, and the place behind it. -/
def impl_parseNode.f : Nat → List S76 → Int → Int → Option (Option S72 × Int)
  | 0, _, _, _ => none
  | k + 1, l, a, q => if a ≥ (l.length : Int) then some (none, a) else if 0 ≤ a then Xn.node (fun q a => impl_parseNode.f k l a q) (rd_T76 l a) a q else none
set_option maxHeartbeats 8000000 in
set_option maxRecDepth 100000 in
theorem impl_parseNode.calls (k : Nat) : ∀ (A0 : Option Addr) (c0 : Nat) (l0 : List S76) (a1 a2 : Int) (r : Option S72 × Int) (w : World) (hr0 : Kd.C k76 w A0 l0.length l0) (hc0 : l0.length ≤ c0) (h : impl_parseNode.f k l0 a1 a2 = some r),
  Calls Try.prog 77 #[.slice A0 l0.length c0, .int .i64 a1, .int .i64 a2] w fun e w' => ∃ p, e = .returned (.tuple #[.pointer p, .int .i64 r.2]) ∧ Xn.opt w' w.heap.size r.1 p ∧ Below w.heap.size w w' := by
 induction k using Nat.strongRecOn with
 | _ k ih =>
 intro A0 c0 l0 a1 a2 r w hr0 hc0 h
 cases k with
 | zero => exact absurd h (by simp [impl_parseNode.f])
 | succ k =>
 simp only [impl_parseNode.f] at h
 have hu76 := Try.underlying76
 have hu135 := Try.underlying135
 have HR0 := Aside0.mk hr0
 have HC0 := Aside0.mk hc0
 clear hr0 hc0
 have HB := Aside0.mk (Below.refl w.heap.size w)
 by_cases c1 : a1 ≥ (l0.length : Int)
 ·rw [if_pos c1] at h
  obtain rfl := Option.some.inj h
  have c1b : decide ((l0.length : Int) ≤ a1) = true := decide_eq_true c1
  clear c1 h
  go_enter Try.func77, Try.ntmps77
  go_wp2
  refine bodyPost_ret (results_list (rs := [.tmp 6, .tmp 7]) rfl (by simp) (.tmp (.tmp .nil))) rfl ?_
  exact ⟨none, lE, rfl, lB⟩
 ·rw [if_neg c1] at h
  have c1b : decide ((l0.length : Int) ≤ a1) = false := decide_eq_false c1
  by_cases c2 : 0 ≤ a1
  ·rw [if_pos c2] at h
   have H := Aside0.mk h
   clear h
   have p1 : 0 ≤ (a1 : Int) := c2
   have q1 : a1 < (l0.length : Int) := by omega
   obtain ⟨ad, e1, hx0, hx1⟩ := at_T76 HR0.out a1 p1 q1
   cases e1
   replace p1 := eq_true p1
   replace q1 := eq_true q1
   clear c1 c2
   generalize rd_T76 l0 a1 = x at H hx0 hx1
   obtain ⟨x0, x1⟩ := x
   simp only at hx0 hx1
   go_enter Try.func77, Try.ntmps77
   go_upto_block 0 with (first | ((with_reducible refine gate_dst (N := 24) rfl ?_); refine bxe 24 #[.int .i64 x0, .int .i64 x1, .slice none 0 0] 135 ?_; intro gb hg w4 hbox hb; have n0_ := Aside0.mk (below_step lB hb); have n1_ := Aside0.mk (hbox); have n2_ := lG w hg; clear HB; have HB := n0_; have BK := n1_; have GE := n2_; clear n0_ n1_ n2_; clear hb hbox hg hx0 hx1; obtain ⟨hcz0, hfz0, hcz1, hfz1, hcz2, hfz2⟩ := bk3 BK.out))
   go_cut [2, 9, 10, 11] (fun v2 v9 v10 v11 wc => ∃ (lo hi q : Int) (m : Nat), v2 = .int .i64 q ∧ v9 = .int .i64 lo ∧ v10 = .int .i64 hi ∧ v11 = .int .i64 (m : Int) ∧ Aside0 (m ≤ 2) ∧ Aside0 (Xn.rest (fun q a => impl_parseNode.f k l0 a q) ⟨x0, x1⟩ a1 lo hi m q = some r) ∧ Aside0 (wc.heap[gb]? = some (.cells #[.int .i64 x0, .int .i64 x1, .slice none 0 0] 135 (0, 0))) ∧ Aside0 (Below w.heap.size w wc))
   case first =>
    have h := H.out
    clear H
    unfold Xn.node at h
    simp only at h
    by_cases d1 : x0 = 1
    ·rw [if_pos d1] at h
     subst d1
     have H' := Aside0.mk h
     clear h
     go_wp2
     go_meet
     case rel => exact ⟨0, 99, a2, 0, rfl, rfl, rfl, rfl, ⟨by omega⟩, H', ⟨lK BK.out⟩, ⟨lB⟩⟩
    ·rw [if_neg d1] at h
     have d1b : (x0 == 1) = false := beq_eq_false_iff_ne.mpr d1
     by_cases d2 : x0 = 2
     ·rw [if_pos d2] at h
      subst d2
      have H' := Aside0.mk h
      clear h
      go_wp2
      go_meet
      case rel => exact ⟨1, 9, a2, 0, rfl, rfl, rfl, rfl, ⟨by omega⟩, H', ⟨lK BK.out⟩, ⟨lB⟩⟩
     ·rw [if_neg d2] at h
      have d2b : (x0 == 2) = false := beq_eq_false_iff_ne.mpr d2
      by_cases d3 : x0 = 3
      ·rw [if_pos d3] at h
       subst d3
       have H' := Aside0.mk h
       clear h
       go_wp2
       go_meet
       case rel => exact ⟨0, 0, a2, 2, rfl, rfl, rfl, rfl, ⟨by omega⟩, H', ⟨lK BK.out⟩, ⟨lB⟩⟩
      ·rw [if_neg d3] at h
       have d3b : (x0 == 3) = false := beq_eq_false_iff_ne.mpr d3
       by_cases d5 : x0 = 5
       ·rw [if_pos d5] at h
        subst d5
        have H' := Aside0.mk h
        clear h
        go_wp2
        go_meet
        case rel => exact ⟨0, 0, a2, 2, rfl, rfl, rfl, rfl, ⟨by omega⟩, H', ⟨lK BK.out⟩, ⟨lB⟩⟩
       ·rw [if_neg d5] at h
        have d5b : (x0 == 5) = false := beq_eq_false_iff_ne.mpr d5
        by_cases d4 : x0 = 4
        ·rw [if_pos d4] at h
         subst d4
         have H' := Aside0.mk h
         clear h
         go_wp2
         go_meet
         case rel => exact ⟨0, 9, a2, 2, rfl, rfl, rfl, rfl, ⟨by omega⟩, H', ⟨lK BK.out⟩, ⟨lB⟩⟩
        ·rw [if_neg d4] at h
         have d4b : (x0 == 4) = false := beq_eq_false_iff_ne.mpr d4
         by_cases d6 : x0 = 6
         ·rw [if_pos d6] at h
          subst d6
          have H' := Aside0.mk h
          clear h
          go_wp2
          go_meet
          case rel => exact ⟨0, 5, wrap64 (a2 + 1), 1, rfl, rfl, rfl, rfl, ⟨by omega⟩, H', ⟨lK BK.out⟩, ⟨lB⟩⟩
         ·rw [if_neg d6] at h
          have d6b : (x0 == 6) = false := beq_eq_false_iff_ne.mpr d6
          obtain rfl := Option.some.inj h
          clear h
          go_wp2
          refine bodyPost_ret (results_list (rs := [.tmp 6, .tmp 7]) rfl (by simp) (.tmp (.tmp .nil))) rfl ?_
          exact ⟨none, lE, rfl, lB⟩
   case rest =>
    clear H
    try clear hcz0 hfz0 hcz1 hfz1 hcz2 hfz2
    clear BK HB
    obtain ⟨lo, hi, q, m, rfl, rfl, rfl, rfl, HM, HA, BK, HB⟩ := hcut
    have h := HA.out
    clear HA
    unfold Xn.rest at h
    simp only at h
    obtain ⟨b, A1, h⟩ := lO h
    obtain ⟨hcz0, hfz0, hcz1, hfz1, hcz2, hfz2⟩ := bk3 BK.out
    cases b with
    | false =>
     rw [if_neg (by decide)] at h
     obtain rfl := Option.some.inj h
     clear h
     go_wp2_with (first | (go_at_call 58; (with_reducible refine (impl_in.calls x1 lo hi false _ A1.out).mono ?_); rintro e w' ⟨rfl, ⟨nd, rfl⟩⟩))
     refine bodyPost_ret (results_list (rs := [.tmp 6, .tmp 7]) rfl (by simp) (.tmp (.tmp .nil))) rfl ?_
     exact ⟨none, lE, rfl, lB⟩
    | true =>
     rw [if_pos rfl] at h
     by_cases c3 : q > 3
     ·rw [if_pos c3] at h
      obtain rfl := Option.some.inj h
      clear h
      have c3b : decide (3 < q) = true := decide_eq_true c3
      clear c3
      go_wp2_with (first | (go_at_call 58; (with_reducible refine (impl_in.calls x1 lo hi true _ A1.out).mono ?_); rintro e w' ⟨rfl, ⟨nd, rfl⟩⟩))
      refine bodyPost_ret (results_list (rs := [.tmp 6, .tmp 7]) rfl (by simp) (.tmp (.tmp .nil))) rfl ?_
      exact ⟨none, lE, rfl, lB⟩
     ·rw [if_neg c3] at h
      have c3b : decide (3 < q) = false := decide_eq_false c3
      clear c3
      have H := Aside0.mk h
      clear h
      go_wp2_with (first | (go_at_call 58; (with_reducible refine (impl_in.calls x1 lo hi true _ A1.out).mono ?_); rintro e w' ⟨rfl, ⟨nd, rfl⟩⟩))
      clear hcz0 hfz0 hcz1 hfz1 hcz2 hfz2
      go_loopg [1, 61] (m + 1) (fun j v1 v61 wr => ∃ (i n : Nat) (a : Int) (ks : List S72) (v : Value) (gs : List Nat), v1 = .int .i64 a ∧ v61 = .int .i64 (i : Int) ∧ i + n = m ∧ j = n + 1 ∧ Aside0 (((Xn.kids (fun a => impl_parseNode.f k l0 a q) n a ks).bind fun r => some (r.1.map fun ks => (⟨x0, x1, ks⟩ : S72), r.2)) = some r) ∧ Aside0 (ks.length + n = m) ∧ Aside0 (wr.heap[gb]? = some (.cells #[.int .i64 x0, .int .i64 x1, v] 135 (0, 0))) ∧ Aside0 (Xn.kP.R 79 wr w.heap.size (fun k => k ≠ gb) v gs) ∧ Aside0 (Xn.Ins wr w.heap.size (fun k => k ≠ gb ∧ some k ≠ v.ownBlock ∧ k < wr.heap.size) ks gs) ∧ Aside0 (Below w.heap.size w wr))
      case atStart => exact ⟨0, m, wrap64 (a1 + 1), [], .slice none 0 0, [], rfl, rfl, by omega, rfl, H, ⟨by simp⟩, ⟨lK BK.out⟩, ⟨Kd.R_nil _ _ _ _ _⟩, ⟨by unfold Xn.Ins; rfl⟩, ⟨lB⟩⟩
      case round =>
       clear BK HB H
       obtain ⟨i, n, a, ks, v, gs, rfl, rfl, hin, hj, H, HL, BK, HO, HI, HB⟩ := hrel
       have hm2 := HM.out
       cases n with
       | zero =>
        have hlt : ¬ (i < m) := by omega
        have hd0 : decide (i < m) = false := decide_eq_false hlt
        have hd1 : decide ((i : Int) < (m : Int)) = false := decide_eq_false (by omega)
        have h := H.out
        clear H hlt
        simp only [Xn.kids, Option.bind_some, Option.some.injEq, Option.map_some] at h
        obtain rfl := h
        go_wp2
        refine bodyPost_ret (results_list (rs := [.tmp 6, .tmp 7]) rfl (by simp) (.tmp (.tmp .nil))) rfl ?_
        refine ⟨some ⟨gb, 0, none⟩, lE, ⟨gb, rfl, ?_⟩, lB⟩
        unfold Xn.In
        exact ⟨⟨blk_lt BK.out, GE.out⟩, v, gs, BK.out, Kd.R_mono (Kd.R_bound HO.out) (fun k hk => hk.2.2.1), HI.out.move (fun _ _ _ => rfl) (fun k hk _ => hk.2.2) (Nat.le_refl _)⟩
       | succ n =>
        have hlt : i < m := by omega
        have hd0 : decide (i < m) = true := decide_eq_true hlt
        have hd1 : decide ((i : Int) < (m : Int)) = true := decide_eq_true (by omega)
        have h := H.out
        clear H hlt
        simp only [Xn.kids] at h
        rw [Option.bind_assoc] at h
        obtain ⟨rr, A2, h⟩ := lO h
        obtain ⟨ro, rn⟩ := rr
        cases ro with
        | none =>
         simp only [Option.bind_some, Option.some.injEq, Option.map_none] at h
         obtain rfl := h
         go_wp2_with (first | (go_at_call 77; (with_reducible refine (ih k (by omega) _ _ l0 a q (none, rn) _ (Kd.C_below HR0.out HB.out) HC0.out A2.out).mono ?_); rintro e w5 ⟨p, rfl, hopt, hb⟩; obtain rfl := hopt; have n0_ := Aside0.mk (below_step lB hb); clear HB; have HB := n0_; clear n0_ hb))
         refine bodyPost_ret (results_list (rs := [.tmp 6, .tmp 7]) rfl (by simp) (.tmp (.tmp .nil))) rfl ?_
         exact ⟨none, lE, rfl, lB⟩
        | some t =>
         have H := Aside0.mk h
         clear h
         simp only at H
         go_wp2_with (first | (go_at_call 77; (with_reducible refine (ih k (by omega) _ _ l0 a q (some t, rn) _ (Kd.C_below HR0.out HB.out) HC0.out A2.out).mono ?_); rintro e w5 ⟨p, rfl, ⟨g, rfl, hin1⟩, hb⟩; have n0_ := Aside0.mk (below_step lB hb); have n1_ := Aside0.mk (blk_below BK.out hb); have n2_ := Aside0.mk (Kd.R_below HO.out hb); have n3_ := Aside0.mk (HI.out.move (S1 := fun k => k ≠ gb ∧ some k ≠ v.ownBlock ∧ k < w5.heap.size) (fun k hk _ => hb.block k hk.2.2) (fun k hk _ => ⟨hk.1, hk.2.1, Nat.lt_of_lt_of_le hk.2.2 hb.size⟩) (Nat.le_refl _)); have n4_ := Aside0.mk (hin1.move (base1 := w.heap.size) (S1 := fun k => k ≠ gb ∧ some k ≠ v.ownBlock ∧ k < w5.heap.size) (fun _ _ _ => rfl) (fun k hk hk2 => ⟨by have := blk_lt BK.out; omega, fun he => by have := Kd.R_lt HO.out k he.symm; omega, hk⟩) (below_size HB.out)); clear HB BK HO HI; have HB := n0_; have BK := n1_; have HO := n2_; have HI := n3_; have HN := n4_; clear n0_ n1_ n2_ n3_ n4_ hb hin1; obtain ⟨hcz0, hfz0, hcz1, hfz1, hcz2, hfz2⟩ := bk3 BK.out; obtain ⟨Ao, co, eo⟩ := Kd.R_slice HO.out; subst eo) | ((with_reducible refine gate_builtin (b := .append) (xs := #[.tmp 77, .tmp 79]) rfl ?_); at_builtin; refine Kd.R_append Xn.kP (w0 := w) w.heap.size rfl (.tmp 77) (.tmp 79) 133 79 (.pointer none) 8 rfl Try.underlying133 info79 rfl (by decide) (by omega) (.slice Ao gs.length co) gs g [Xn.ptr g] (fun k => k ≠ gb) (fun _ => False) rfl (by first | (go_simp; done) | (go_simp; rfl)) ?aP (fun _ hk => hk.elim) ?aF ?aO ?aB ?aS ?aL ?_; (case aP => exact rfl); (case aF => intro k_ hk_; have := blk_lt BK.out; omega); (case aO => exact HO.out); (case aB => exact HB.out); (case aS => exact below_size HB.out); (case aL => have := HI.out.length; have := HL.out; omega); intro v1 w6 ho hb hg hat; have hS : ∀ k, k ≠ gb ∧ some k ≠ (.slice Ao gs.length co : Value).ownBlock ∧ k < w5.heap.size → k ≠ gb ∧ some k ≠ v1.ownBlock ∧ k < w6.heap.size := (fun k hk => ⟨hk.1, Xn.apart hat hk.2, Nat.lt_of_lt_of_le hk.2.2 hg.size⟩); have n0_ := Aside0.mk (blk_grown BK.out hg (Kd.R_ne HO.out BK.out (by decide))); have n1_ := Aside0.mk (Xn.Ins.snoc (HN.out.move (fun k hk _ => hg.block k hk.2.2 hk.2.1) (fun k hk _ => hS k hk) (Nat.le_refl _)) (HI.out.move (fun k hk _ => hg.block k hk.2.2 hk.2.1) (fun k hk _ => hS k hk) (Nat.le_refl _))); have n2_ := Aside0.mk ho; have n3_ := Aside0.mk hb; clear hS hg hat ho hb BK HI HN HO HB hcz0 hfz0 hcz1 hfz1 hcz2 hfz2; have BK := n0_; have HI := n1_; have HO := n2_; have HB := n3_; clear n0_ n1_ n2_ n3_; obtain ⟨hcz0, hfz0, hcz1, hfz1, hcz2, hfz2⟩ := bk3 BK.out; obtain ⟨Ap, cp, ep⟩ := Kd.R_slice HO.out; subst ep) | ((with_reducible refine gate_store (t := 133) (p := 82) rfl ?_); refine store_event (t := 133) (p := 82) (v := ?vo_w7) (w1 := (w6.setCell ⟨gb, 2, none⟩ (.slice Ap (gs ++ [g]).length cp))) ?hg ?ho ?hn ?hr ?_; (case ho => rfl); (case hg => rfl); (case hn => rfl); (case hr => first | (go_simp; done) | (go_simp; rfl)); intro w7 hw; have n0_ : Aside0 (w7.heap[gb]? = some (.cells #[.int .i64 x0, .int .i64 x1, .slice Ap (gs ++ [g]).length cp] 135 (0, 0))) := ⟨by rw [hw]; exact blk_put (cs := #[.int .i64 x0, .int .i64 x1, .slice Ao gs.length co]) BK.out 2 _ rfl⟩; have n1_ : Aside0 (Xn.kP.R 79 w7 w.heap.size (fun k => k ≠ gb) (.slice Ap (gs ++ [g]).length cp) (gs ++ [g])) := ⟨by rw [hw]; exact Kd.R_far (p := ⟨gb, 2, none⟩) HO.out (fun _ hk => hk) _⟩; have n2_ : Aside0 (Xn.Ins w7 w.heap.size (fun k => k ≠ gb ∧ some k ≠ (.slice Ap (gs ++ [g]).length cp : Value).ownBlock ∧ k < w7.heap.size) (ks ++ [t]) (gs ++ [g])) := ⟨by rw [hw]; exact HI.out.move (fun k hk _ => Below.heap_setCell w6 ⟨gb, 2, none⟩ _ k hk.1) (fun k hk _ => ⟨hk.1, hk.2.1, by simpa [World.setCell] using hk.2.2⟩) (Nat.le_refl _)⟩; have n3_ : Aside0 (Below w.heap.size w w7) := ⟨by rw [hw]; exact below_set HB.out GE.out⟩; clear hw BK HO HI HB hcz0 hfz0 hcz1 hfz1 hcz2 hfz2; have BK := n0_; have HO := n1_; have HI := n2_; have HB := n3_; clear n0_ n1_ n2_ n3_))
         go_roundg (n + 1)
         case measure => omega
         case rel => exact ⟨i + 1, n, rn, ks ++ [t], _, gs ++ [g], rfl, by go_num, by omega, rfl, H, ⟨by have := HL.out; simp; omega⟩, ⟨BK.out⟩, ⟨HO.out⟩, ⟨HI.out⟩, ⟨HB.out⟩⟩
  ·rw [if_neg c2] at h
   exact absurd h (by simp)


/-! ### impl_parseTree: function 46 -/
/-- The tree of cells, if it is good. -/
def impl_parseTree.f (l : List S76) : Option (Option S72 × Bool) := (impl_in.f (l.length : Int) 1 30).bind fun b => if b = true then (impl_parseNode.f 40 l 0 0).bind fun r => some (r.1, r.1.isSome && (r.2 == (l.length : Int))) else some (none, false)
set_option maxHeartbeats 8000000 in
set_option maxRecDepth 100000 in
theorem impl_parseTree.calls (A0 : Option Addr) (c0 : Nat) (l0 : List S76) (r : Option S72 × Bool) (w : World) (hr0 : Kd.C k76 w A0 l0.length l0) (hc0 : l0.length ≤ c0) (h : impl_parseTree.f l0 = some r) :
  Calls Try.prog 46 #[.slice A0 l0.length c0] w fun e w' => ∃ p, e = .returned (.tuple #[.pointer p, .bool r.2]) ∧ Xn.opt w' w.heap.size r.1 p ∧ Below w.heap.size w w' := by
 unfold impl_parseTree.f at h
 have HR0 := Aside0.mk hr0
 have HC0 := Aside0.mk hc0
 have HB := Aside0.mk (Below.refl w.heap.size w)
 clear hr0 hc0
 obtain ⟨b, A1, h⟩ := lO h
 cases b with
 | false =>
  rw [if_neg (by decide)] at h
  obtain rfl := Option.some.inj h
  clear h
  go_enter Try.func46, Try.ntmps46
  go_wp2_with (first | (go_at_call 58; (with_reducible refine (impl_in.calls l0.length 1 30 false _ A1.out).mono ?_); rintro e w' ⟨rfl, ⟨nd, rfl⟩⟩))
  refine bodyPost_ret (results_list (rs := [.tmp 2, .tmp 3]) rfl (by simp) (.tmp (.tmp .nil))) rfl ?_
  exact ⟨none, lE, rfl, lB⟩
 | true =>
  rw [if_pos rfl] at h
  obtain ⟨rr, A2, h⟩ := lO h
  obtain rfl := Option.some.inj h
  clear h
  obtain ⟨ro, rn⟩ := rr
  cases ro with
  | none =>
   go_enter Try.func46, Try.ntmps46
   go_wp2_with (first | (go_at_call 58; (with_reducible refine (impl_in.calls l0.length 1 30 true _ A1.out).mono ?_); rintro e w' ⟨rfl, ⟨nd, rfl⟩⟩) | (go_at_call 77; (with_reducible refine (impl_parseNode.calls 40 _ _ l0 0 0 (none, rn) _ (lC HR0.out) HC0.out A2.out).mono ?_); rintro e w5 ⟨p, rfl, hopt, hb⟩; obtain rfl := hopt; have n0_ := Aside0.mk (below_step lB hb); clear HB; have HB := n0_; clear n0_ hb))
   refine bodyPost_ret (results_list (rs := [.tmp 2, .tmp 3]) rfl (by simp) (.tmp (.tmp .nil))) rfl ?_
   exact ⟨none, lE, rfl, lB⟩
  | some t =>
   cases hn : (rn == (l0.length : Int)) with
   | false =>
    go_enter Try.func46, Try.ntmps46
    go_wp2_with (first | (go_at_call 58; (with_reducible refine (impl_in.calls l0.length 1 30 true _ A1.out).mono ?_); rintro e w' ⟨rfl, ⟨nd, rfl⟩⟩) | (go_at_call 77; (with_reducible refine (impl_parseNode.calls 40 _ _ l0 0 0 (some t, rn) _ (lC HR0.out) HC0.out A2.out).mono ?_); rintro e w5 ⟨p, rfl, ⟨g, rfl, hin1⟩, hb⟩; have n0_ := Aside0.mk (below_step lB hb); have n1_ := Aside0.mk hin1; clear HB; have HB := n0_; have HI := n1_; clear n0_ n1_ hb hin1))
    refine bodyPost_ret (results_list (rs := [.tmp 2, .tmp 3]) rfl (by simp) (.tmp (.tmp .nil))) rfl ?_
    exact ⟨_, lE, ⟨g, rfl, HI.out.move (fun _ _ _ => rfl) (fun _ hk _ => hk) (Nat.le_refl _)⟩, lB⟩
   | true =>
    go_enter Try.func46, Try.ntmps46
    go_wp2_with (first | (go_at_call 58; (with_reducible refine (impl_in.calls l0.length 1 30 true _ A1.out).mono ?_); rintro e w' ⟨rfl, ⟨nd, rfl⟩⟩) | (go_at_call 77; (with_reducible refine (impl_parseNode.calls 40 _ _ l0 0 0 (some t, rn) _ (lC HR0.out) HC0.out A2.out).mono ?_); rintro e w5 ⟨p, rfl, ⟨g, rfl, hin1⟩, hb⟩; have n0_ := Aside0.mk (below_step lB hb); have n1_ := Aside0.mk hin1; clear HB; have HB := n0_; have HI := n1_; clear n0_ n1_ hb hin1))
    refine bodyPost_ret (results_list (rs := [.tmp 2, .tmp 3]) rfl (by simp) (.tmp (.tmp .nil))) rfl ?_
    exact ⟨_, lE, ⟨g, rfl, HI.out.move (fun _ _ _ => rfl) (fun _ hk _ => hk) (Nat.le_refl _)⟩, lB⟩


end Go.Proofs.Ytgjojppbichaiaa.Q
