-- Written by the program wip/tools/pr.py of this claim's session, over the kit's print.py.
import Derived.Test.YtgjojppbichaiaaQx0
import Derived.Test.YtgjojppbichaiaaQx1
import Derived.Test.YtgjojppbichaiaaQx2
namespace Go.Proofs.Ytgjojppbichaiaa.Q
open Go.RowKit Go.Proofs.YtgjojppbichaiaaW.PrintWords Go.Proofs.YtgjojppbichaiaaW.PrintLast Go.Proofs.YtgjojppbichaiaaW.PrintMore
attribute [local go_sem] max2_int min2_int max_two min_two max_three min_three max_four min_four   -- for this text's walks alone
set_option linter.unusedVariables false
set_option linter.unusedSimpArgs false

/-! ### impl_parseNode: function 77 -/
/-! trees of pointers: a node lies in a block of its own, its kids' addresses in a row -/
theorem info79 : (Try.prog.info? 79).map (fun i => (i.zero, i.size, i.bytes)) = some (some (.pointer none), 1, 8) := by kernel_rfl
def Xn.ptr (g : Nat) : Value := .pointer (some ⟨g, 0, none⟩)
def Xn.kP : Kd Nat := Kd.scalar Xn.ptr (fun _ => rfl)
mutual
/-- A tree lies at a block: its blocks are from base on, and such as S says. -/
def Xn.In (w : World) (base : Nat) (S : Nat → Prop) : S72 → Nat → Prop
  | ⟨k, n, kids⟩, g => (S g ∧ base ≤ g) ∧ ∃ (v : Value) (gs : List Nat), w.heap[g]? = some (.cells #[.int .i64 k, .int .i64 n, v] 135 (0, 0)) ∧ Xn.kP.R 79 w base S v gs ∧ Xn.Ins w base S kids gs
def Xn.Ins (w : World) (base : Nat) (S : Nat → Prop) : List S72 → List Nat → Prop
  | [], gs => gs = []
  | t :: ts, gs => ∃ g gs', gs = g :: gs' ∧ Xn.In w base S t g ∧ Xn.Ins w base S ts gs'
end
mutual
theorem Xn.In.move {w w1 : World} {base base1 : Nat} {S S1 : Nat → Prop} (hm : ∀ k, S k → base ≤ k → w1.heap[k]? = w.heap[k]?) (hS : ∀ k, S k → base ≤ k → S1 k) (hb : base1 ≤ base) : ∀ {t : S72} {g : Nat}, Xn.In w base S t g → Xn.In w1 base1 S1 t g
  | ⟨k, n, kids⟩, g, h => by
    unfold Xn.In at h ⊢
    obtain ⟨⟨h1, h1b⟩, v, gs, h2, h3, h4⟩ := h
    refine ⟨⟨hS g h1 h1b, by omega⟩, v, gs, (hm g h1 h1b).trans h2, ?_, h4.move hm hS hb⟩
    have h5 := Kd.R_bound h3
    exact Kd.R_lower (Kd.R_mono (Kd.R_move h5 (fun k hk => hm k hk.1 hk.2.1)) (fun k hk => hS k hk.1 hk.2.1)) hb
theorem Xn.Ins.move {w w1 : World} {base base1 : Nat} {S S1 : Nat → Prop} (hm : ∀ k, S k → base ≤ k → w1.heap[k]? = w.heap[k]?) (hS : ∀ k, S k → base ≤ k → S1 k) (hb : base1 ≤ base) : ∀ {ts : List S72} {gs : List Nat}, Xn.Ins w base S ts gs → Xn.Ins w1 base1 S1 ts gs
  | [], gs, h => by
    unfold Xn.Ins at h ⊢
    exact h
  | t :: ts, gs, h => by
    unfold Xn.Ins at h ⊢
    obtain ⟨g, gs', rfl, h1, h2⟩ := h
    exact ⟨g, gs', rfl, h1.move hm hS hb, h2.move hm hS hb⟩
end
theorem Xn.Ins.length {w : World} {base : Nat} {S : Nat → Prop} : ∀ {ts : List S72} {gs : List Nat}, Xn.Ins w base S ts gs → gs.length = ts.length
  | [], gs, h => by unfold Xn.Ins at h; subst h; rfl
  | t :: ts, gs, h => by
    unfold Xn.Ins at h
    obtain ⟨g, gs', rfl, _, h2⟩ := h
    simp [h2.length]
theorem Xn.Ins.snoc {w : World} {base : Nat} {S : Nat → Prop} {t : S72} {g : Nat} (ht : Xn.In w base S t g) : ∀ {ts : List S72} {gs : List Nat}, Xn.Ins w base S ts gs → Xn.Ins w base S (ts ++ [t]) (gs ++ [g])
  | [], gs, h => by
    unfold Xn.Ins at h
    subst h
    simp only [List.nil_append]
    unfold Xn.Ins
    exact ⟨g, [], rfl, ht, by unfold Xn.Ins; rfl⟩
  | t' :: ts, gs, h => by
    unfold Xn.Ins at h
    obtain ⟨g', gs', rfl, h1, h2⟩ := h
    simp only [List.cons_append]
    unfold Xn.Ins
    exact ⟨g', gs' ++ [g], rfl, h1, h2.snoc ht⟩
theorem Xn.Ins.at_ {w : World} {base : Nat} {S : Nat → Prop} : ∀ {ts : List S72} {gs : List Nat} (i : Nat) (t : S72), Xn.Ins w base S ts gs → ts[i]? = some t → ∃ g, gs[i]? = some g ∧ Xn.In w base S t g
  | [], _, i, t, _, ht => by simp at ht
  | t' :: ts, gs, i, t, h, ht => by
    unfold Xn.Ins at h
    obtain ⟨g', gs', rfl, h1, h2⟩ := h
    cases i with
    | zero => simp only [List.getElem?_cons_zero, Option.some.injEq] at ht; subst ht; exact ⟨g', rfl, h1⟩
    | succ i => simp only [List.getElem?_cons_succ] at ht ⊢; exact h2.at_ i t ht
theorem Xn.apart {v v1 : Value} {k n : Nat} (hat : v1.ownBlock = v.ownBlock ∨ ∃ b, v1.ownBlock = some b ∧ n ≤ b) (h : some k ≠ v.ownBlock ∧ k < n) : some k ≠ v1.ownBlock := by
  rcases hat with h1 | ⟨b, h1, h2⟩
  · rw [h1]; exact h.1
  · rw [h1]; intro he; injection he with he; omega
/-- A pointer to a tree, or nil. -/
def Xn.opt (w : World) (base : Nat) : Option S72 → Option Addr → Prop
  | none, p => p = none
  | some t, p => ∃ g, p = some ⟨g, 0, none⟩ ∧ Xn.In w base (fun k => k < w.heap.size) t g
/-- Some trees, one behind another. -/
def Xn.kids (F : Int → Option (Option S72 × Int)) : Nat → Int → List S72 → Option (Option (List S72) × Int)
  | 0, a, acc => some (some acc, a)
  | m + 1, a, acc => (F a).bind fun r => match r.1 with
    | none => some (none, a)
    | some t => Xn.kids F m r.2 (acc ++ [t])
def Xn.rest (F : Int → Int → Option (Option S72 × Int)) (x : S76) (a lo hi : Int) (m : Nat) (q : Int) : Option (Option S72 × Int) :=
  (impl_in.f x.f1 lo hi).bind fun b => if b = true then (if q > 3 then some (none, a) else (Xn.kids (F q) m (wrap64 (a + 1)) []).bind fun r => some (r.1.map fun ks => (⟨x.f0, x.f1, ks⟩ : S72), r.2)) else some (none, a)
def Xn.node (F : Int → Int → Option (Option S72 × Int)) (x : S76) (a q : Int) : Option (Option S72 × Int) :=
  if x.f0 = 1 then Xn.rest F x a 0 99 0 q else if x.f0 = 2 then Xn.rest F x a 1 9 0 q else if x.f0 = 3 then Xn.rest F x a 0 0 2 q else if x.f0 = 5 then Xn.rest F x a 0 0 2 q
  else if x.f0 = 4 then Xn.rest F x a 0 9 2 q else if x.f0 = 6 then Xn.rest F x a 0 5 1 (wrap64 (q + 1)) else some (none, a)
/-- The tree at a place within some loops, and the place behind it. -/
def impl_parseNode.f : Nat → List S76 → Int → Int → Option (Option S72 × Int)
  | 0, _, _, _ => none
  | k + 1, l, a, q => if a ≥ (l.length : Int) then some (none, a) else if 0 ≤ a then Xn.node (fun q a => impl_parseNode.f k l a q) (rd_T76 l a) a q else none
set_option maxHeartbeats 8000000 in
set_option maxRecDepth 100000 in
theorem impl_parseNode.calls (k : Nat) : ∀ (A0 : Option Addr) (c0 : Nat) (l0 : List S76) (a1 a2 : Int) (r : Option S72 × Int) (w : World) (hr0 : Kd.C k76 w A0 l0.length l0) (hc0 : l0.length ≤ c0) (h : impl_parseNode.f k l0 a1 a2 = some r),
  Calls Try.prog 77 #[.slice A0 l0.length c0, .int .i64 a1, .int .i64 a2] w fun e w' => ∃ p, e = .returned (.tuple #[.pointer p, .int .i64 r.2]) ∧ Xn.opt w' w.heap.size r.1 p ∧ Below w.heap.size w w' := by
 induction k using Nat.strongRecOn with
 | _ k ih =>
 intro A0 c0 l0 a1 a2 r w hr0 hc0 h
 cases k with
 | zero => exact absurd h (by simp [impl_parseNode.f])
 | succ k =>
 simp only [impl_parseNode.f] at h
 have hu76 := Try.underlying76
 have hu135 := Try.underlying135
 have HR0 := Aside0.mk hr0
 have HC0 := Aside0.mk hc0
 clear hr0 hc0
 have HB := Aside0.mk (Below.refl w.heap.size w)
 by_cases c1 : a1 ≥ (l0.length : Int)
 ·rw [if_pos c1] at h
  obtain rfl := Option.some.inj h
  have c1b : decide ((l0.length : Int) ≤ a1) = true := decide_eq_true c1
  clear c1 h
  go_enter Try.func77, Try.ntmps77
  go_wp2
  refine bodyPost_ret (results_list (rs := [.tmp 6, .tmp 7]) rfl (by simp) (.tmp (.tmp .nil))) rfl ?_
  exact ⟨none, lE, rfl, lB⟩
 ·rw [if_neg c1] at h
  have c1b : decide ((l0.length : Int) ≤ a1) = false := decide_eq_false c1
  by_cases c2 : 0 ≤ a1
  ·rw [if_pos c2] at h
   have H := Aside0.mk h
   clear h
   have p1 : 0 ≤ (a1 : Int) := c2
   have q1 : a1 < (l0.length : Int) := by omega
   obtain ⟨ad, e1, hx0, hx1⟩ := at_T76 HR0.out a1 p1 q1
   cases e1
   replace p1 := eq_true p1
   replace q1 := eq_true q1
   clear c1 c2
   generalize rd_T76 l0 a1 = x at H hx0 hx1
   obtain ⟨x0, x1⟩ := x
   simp only at hx0 hx1
   go_enter Try.func77, Try.ntmps77
   go_upto_block 0 with (first | ((with_reducible refine gate_dst (N := 24) rfl ?_); refine bxe 24 #[.int .i64 x0, .int .i64 x1, .slice none 0 0] 135 ?_; intro gb hg w4 hbox hb; have n0_ := Aside0.mk (below_step lB hb); have n1_ := Aside0.mk (hbox); have n2_ := lG w hg; clear HB; have HB := n0_; have BK := n1_; have GE := n2_; clear n0_ n1_ n2_; clear hb hbox hg hx0 hx1; obtain ⟨hcz0, hfz0, hcz1, hfz1, hcz2, hfz2⟩ := bk3 BK.out))
   go_cut [2, 9, 10, 11] (fun v2 v9 v10 v11 wc => ∃ (lo hi q : Int) (m : Nat), v2 = .int .i64 q ∧ v9 = .int .i64 lo ∧ v10 = .int .i64 hi ∧ v11 = .int .i64 (m : Int) ∧ Aside0 (m ≤ 2) ∧ Aside0 (Xn.rest (fun q a => impl_parseNode.f k l0 a q) ⟨x0, x1⟩ a1 lo hi m q = some r) ∧ Aside0 (wc.heap[gb]? = some (.cells #[.int .i64 x0, .int .i64 x1, .slice none 0 0] 135 (0, 0))) ∧ Aside0 (Below w.heap.size w wc))
   case first =>
    have h := H.out
    clear H
    unfold Xn.node at h
    simp only at h
    by_cases d1 : x0 = 1
    ·rw [if_pos d1] at h
     subst d1
     have H' := Aside0.mk h
     clear h
     go_wp2
     go_meet
     case rel => exact ⟨0, 99, a2, 0, rfl, rfl, rfl, rfl, ⟨by omega⟩, H', ⟨lK BK.out⟩, ⟨lB⟩⟩
    ·rw [if_neg d1] at h
     have d1b : (x0 == 1) = false := beq_eq_false_iff_ne.mpr d1
     by_cases d2 : x0 = 2
     ·rw [if_pos d2] at h
      subst d2
      have H' := Aside0.mk h
      clear h
      go_wp2
      go_meet
      case rel => exact ⟨1, 9, a2, 0, rfl, rfl, rfl, rfl, ⟨by omega⟩, H', ⟨lK BK.out⟩, ⟨lB⟩⟩
     ·rw [if_neg d2] at h
      have d2b : (x0 == 2) = false := beq_eq_false_iff_ne.mpr d2
      by_cases d3 : x0 = 3
      ·rw [if_pos d3] at h
       subst d3
       have H' := Aside0.mk h
       clear h
       go_wp2
       go_meet
       case rel => exact ⟨0, 0, a2, 2, rfl, rfl, rfl, rfl, ⟨by omega⟩, H', ⟨lK BK.out⟩, ⟨lB⟩⟩
      ·rw [if_neg d3] at h
       have d3b : (x0 == 3) = false := beq_eq_false_iff_ne.mpr d3
       by_cases d5 : x0 = 5
       ·rw [if_pos d5] at h
        subst d5
        have H' := Aside0.mk h
        clear h
        go_wp2
        go_meet
        case rel => exact ⟨0, 0, a2, 2, rfl, rfl, rfl, rfl, ⟨by omega⟩, H', ⟨lK BK.out⟩, ⟨lB⟩⟩
       ·rw [if_neg d5] at h
        have d5b : (x0 == 5) = false := beq_eq_false_iff_ne.mpr d5
        by_cases d4 : x0 = 4
        ·rw [if_pos d4] at h
         subst d4
         have H' := Aside0.mk h
         clear h
         go_wp2
         go_meet
         case rel => exact ⟨0, 9, a2, 2, rfl, rfl, rfl, rfl, ⟨by omega⟩, H', ⟨lK BK.out⟩, ⟨lB⟩⟩
        ·rw [if_neg d4] at h
         have d4b : (x0 == 4) = false := beq_eq_false_iff_ne.mpr d4
         by_cases d6 : x0 = 6
         ·rw [if_pos d6] at h
          subst d6
          have H' := Aside0.mk h
          clear h
          go_wp2
          go_meet
          case rel => exact ⟨0, 5, wrap64 (a2 + 1), 1, rfl, rfl, rfl, rfl, ⟨by omega⟩, H', ⟨lK BK.out⟩, ⟨lB⟩⟩
         ·rw [if_neg d6] at h
          have d6b : (x0 == 6) = false := beq_eq_false_iff_ne.mpr d6
          obtain rfl := Option.some.inj h
          clear h
          go_wp2
          refine bodyPost_ret (results_list (rs := [.tmp 6, .tmp 7]) rfl (by simp) (.tmp (.tmp .nil))) rfl ?_
          exact ⟨none, lE, rfl, lB⟩
   case rest =>
    clear H
    try clear hcz0 hfz0 hcz1 hfz1 hcz2 hfz2
    clear BK HB
    obtain ⟨lo, hi, q, m, rfl, rfl, rfl, rfl, HM, HA, BK, HB⟩ := hcut
    have h := HA.out
    clear HA
    unfold Xn.rest at h
    simp only at h
    obtain ⟨b, A1, h⟩ := lO h
    obtain ⟨hcz0, hfz0, hcz1, hfz1, hcz2, hfz2⟩ := bk3 BK.out
    cases b with
    | false =>
     rw [if_neg (by decide)] at h
     obtain rfl := Option.some.inj h
     clear h
     go_wp2_with (first | (go_at_call 58; (with_reducible refine (impl_in.calls x1 lo hi false _ A1.out).mono ?_); rintro e w' ⟨rfl, ⟨nd, rfl⟩⟩))
     refine bodyPost_ret (results_list (rs := [.tmp 6, .tmp 7]) rfl (by simp) (.tmp (.tmp .nil))) rfl ?_
     exact ⟨none, lE, rfl, lB⟩
    | true =>
     rw [if_pos rfl] at h
     by_cases c3 : q > 3
     ·rw [if_pos c3] at h
      obtain rfl := Option.some.inj h
      clear h
      have c3b : decide (3 < q) = true := decide_eq_true c3
      clear c3
      go_wp2_with (first | (go_at_call 58; (with_reducible refine (impl_in.calls x1 lo hi true _ A1.out).mono ?_); rintro e w' ⟨rfl, ⟨nd, rfl⟩⟩))
      refine bodyPost_ret (results_list (rs := [.tmp 6, .tmp 7]) rfl (by simp) (.tmp (.tmp .nil))) rfl ?_
      exact ⟨none, lE, rfl, lB⟩
     ·rw [if_neg c3] at h
      have c3b : decide (3 < q) = false := decide_eq_false c3
      clear c3
      have H := Aside0.mk h
      clear h
      go_wp2_with (first | (go_at_call 58; (with_reducible refine (impl_in.calls x1 lo hi true _ A1.out).mono ?_); rintro e w' ⟨rfl, ⟨nd, rfl⟩⟩))
      clear hcz0 hfz0 hcz1 hfz1 hcz2 hfz2
      go_loopg [1, 61] (m + 1) (fun j v1 v61 wr => ∃ (i n : Nat) (a : Int) (ks : List S72) (v : Value) (gs : List Nat), v1 = .int .i64 a ∧ v61 = .int .i64 (i : Int) ∧ i + n = m ∧ j = n + 1 ∧ Aside0 (((Xn.kids (fun a => impl_parseNode.f k l0 a q) n a ks).bind fun r => some (r.1.map fun ks => (⟨x0, x1, ks⟩ : S72), r.2)) = some r) ∧ Aside0 (ks.length + n = m) ∧ Aside0 (wr.heap[gb]? = some (.cells #[.int .i64 x0, .int .i64 x1, v] 135 (0, 0))) ∧ Aside0 (Xn.kP.R 79 wr w.heap.size (fun k => k ≠ gb) v gs) ∧ Aside0 (Xn.Ins wr w.heap.size (fun k => k ≠ gb ∧ some k ≠ v.ownBlock ∧ k < wr.heap.size) ks gs) ∧ Aside0 (Below w.heap.size w wr))
      case atStart => exact ⟨0, m, wrap64 (a1 + 1), [], .slice none 0 0, [], rfl, rfl, by omega, rfl, H, ⟨by simp⟩, ⟨lK BK.out⟩, ⟨Kd.R_nil _ _ _ _ _⟩, ⟨by unfold Xn.Ins; rfl⟩, ⟨lB⟩⟩
      case round =>
       clear BK HB H
       obtain ⟨i, n, a, ks, v, gs, rfl, rfl, hin, hj, H, HL, BK, HO, HI, HB⟩ := hrel
       have hm2 := HM.out
       cases n with
       | zero =>
        have hlt : ¬ (i < m) := by omega
        have hd0 : decide (i < m) = false := decide_eq_false hlt
        have hd1 : decide ((i : Int) < (m : Int)) = false := decide_eq_false (by omega)
        have h := H.out
        clear H hlt
        simp only [Xn.kids, Option.bind_some, Option.some.injEq, Option.map_some] at h
        obtain rfl := h
        go_wp2
        refine bodyPost_ret (results_list (rs := [.tmp 6, .tmp 7]) rfl (by simp) (.tmp (.tmp .nil))) rfl ?_
        refine ⟨some ⟨gb, 0, none⟩, lE, ⟨gb, rfl, ?_⟩, lB⟩
        unfold Xn.In
        exact ⟨⟨blk_lt BK.out, GE.out⟩, v, gs, BK.out, Kd.R_mono (Kd.R_bound HO.out) (fun k hk => hk.2.2.1), HI.out.move (fun _ _ _ => rfl) (fun k hk _ => hk.2.2) (Nat.le_refl _)⟩
       | succ n =>
        have hlt : i < m := by omega
        have hd0 : decide (i < m) = true := decide_eq_true hlt
        have hd1 : decide ((i : Int) < (m : Int)) = true := decide_eq_true (by omega)
        have h := H.out
        clear H hlt
        simp only [Xn.kids] at h
        rw [Option.bind_assoc] at h
        obtain ⟨rr, A2, h⟩ := lO h
        obtain ⟨ro, rn⟩ := rr
        cases ro with
        | none =>
         simp only [Option.bind_some, Option.some.injEq, Option.map_none] at h
         obtain rfl := h
         go_wp2_with (first | (go_at_call 77; (with_reducible refine (ih k (by omega) _ _ l0 a q (none, rn) _ (Kd.C_below HR0.out HB.out) HC0.out A2.out).mono ?_); rintro e w5 ⟨p, rfl, hopt, hb⟩; obtain rfl := hopt; have n0_ := Aside0.mk (below_step lB hb); clear HB; have HB := n0_; clear n0_ hb))
         refine bodyPost_ret (results_list (rs := [.tmp 6, .tmp 7]) rfl (by simp) (.tmp (.tmp .nil))) rfl ?_
         exact ⟨none, lE, rfl, lB⟩
        | some t =>
         have H := Aside0.mk h
         clear h
         simp only at H
         go_wp2_with (first | (go_at_call 77; (with_reducible refine (ih k (by omega) _ _ l0 a q (some t, rn) _ (Kd.C_below HR0.out HB.out) HC0.out A2.out).mono ?_); rintro e w5 ⟨p, rfl, ⟨g, rfl, hin1⟩, hb⟩; have n0_ := Aside0.mk (below_step lB hb); have n1_ := Aside0.mk (blk_below BK.out hb); have n2_ := Aside0.mk (Kd.R_below HO.out hb); have n3_ := Aside0.mk (HI.out.move (S1 := fun k => k ≠ gb ∧ some k ≠ v.ownBlock ∧ k < w5.heap.size) (fun k hk _ => hb.block k hk.2.2) (fun k hk _ => ⟨hk.1, hk.2.1, Nat.lt_of_lt_of_le hk.2.2 hb.size⟩) (Nat.le_refl _)); have n4_ := Aside0.mk (hin1.move (base1 := w.heap.size) (S1 := fun k => k ≠ gb ∧ some k ≠ v.ownBlock ∧ k < w5.heap.size) (fun _ _ _ => rfl) (fun k hk hk2 => ⟨by have := blk_lt BK.out; omega, fun he => by have := Kd.R_lt HO.out k he.symm; omega, hk⟩) (below_size HB.out)); clear HB BK HO HI; have HB := n0_; have BK := n1_; have HO := n2_; have HI := n3_; have HN := n4_; clear n0_ n1_ n2_ n3_ n4_ hb hin1; obtain ⟨hcz0, hfz0, hcz1, hfz1, hcz2, hfz2⟩ := bk3 BK.out; obtain ⟨Ao, co, eo⟩ := Kd.R_slice HO.out; subst eo) | ((with_reducible refine gate_builtin (b := .append) (xs := #[.tmp 77, .tmp 79]) rfl ?_); at_builtin; refine Kd.R_append Xn.kP (w0 := w) w.heap.size rfl (.tmp 77) (.tmp 79) 133 79 (.pointer none) 8 rfl Try.underlying133 info79 rfl (by decide) (by omega) (.slice Ao gs.length co) gs g [Xn.ptr g] (fun k => k ≠ gb) (fun _ => False) rfl (by first | (go_simp; done) | (go_simp; rfl)) ?aP (fun _ hk => hk.elim) ?aF ?aO ?aB ?aS ?aL ?_; (case aP => exact rfl); (case aF => intro k_ hk_; have := blk_lt BK.out; omega); (case aO => exact HO.out); (case aB => exact HB.out); (case aS => exact below_size HB.out); (case aL => have := HI.out.length; have := HL.out; omega); intro v1 w6 ho hb hg hat; have hS : ∀ k, k ≠ gb ∧ some k ≠ (.slice Ao gs.length co : Value).ownBlock ∧ k < w5.heap.size → k ≠ gb ∧ some k ≠ v1.ownBlock ∧ k < w6.heap.size := (fun k hk => ⟨hk.1, Xn.apart hat hk.2, Nat.lt_of_lt_of_le hk.2.2 hg.size⟩); have n0_ := Aside0.mk (blk_grown BK.out hg (Kd.R_ne HO.out BK.out (by decide))); have n1_ := Aside0.mk (Xn.Ins.snoc (HN.out.move (fun k hk _ => hg.block k hk.2.2 hk.2.1) (fun k hk _ => hS k hk) (Nat.le_refl _)) (HI.out.move (fun k hk _ => hg.block k hk.2.2 hk.2.1) (fun k hk _ => hS k hk) (Nat.le_refl _))); have n2_ := Aside0.mk ho; have n3_ := Aside0.mk hb; clear hS hg hat ho hb BK HI HN HO HB hcz0 hfz0 hcz1 hfz1 hcz2 hfz2; have BK := n0_; have HI := n1_; have HO := n2_; have HB := n3_; clear n0_ n1_ n2_ n3_; obtain ⟨hcz0, hfz0, hcz1, hfz1, hcz2, hfz2⟩ := bk3 BK.out; obtain ⟨Ap, cp, ep⟩ := Kd.R_slice HO.out; subst ep) | ((with_reducible refine gate_store (t := 133) (p := 82) rfl ?_); refine store_event (t := 133) (p := 82) (v := ?vo_w7) (w1 := (w6.setCell ⟨gb, 2, none⟩ (.slice Ap (gs ++ [g]).length cp))) ?hg ?ho ?hn ?hr ?_; (case ho => rfl); (case hg => rfl); (case hn => rfl); (case hr => first | (go_simp; done) | (go_simp; rfl)); intro w7 hw; have n0_ : Aside0 (w7.heap[gb]? = some (.cells #[.int .i64 x0, .int .i64 x1, .slice Ap (gs ++ [g]).length cp] 135 (0, 0))) := ⟨by rw [hw]; exact blk_put (cs := #[.int .i64 x0, .int .i64 x1, .slice Ao gs.length co]) BK.out 2 _ rfl⟩; have n1_ : Aside0 (Xn.kP.R 79 w7 w.heap.size (fun k => k ≠ gb) (.slice Ap (gs ++ [g]).length cp) (gs ++ [g])) := ⟨by rw [hw]; exact Kd.R_far (p := ⟨gb, 2, none⟩) HO.out (fun _ hk => hk) _⟩; have n2_ : Aside0 (Xn.Ins w7 w.heap.size (fun k => k ≠ gb ∧ some k ≠ (.slice Ap (gs ++ [g]).length cp : Value).ownBlock ∧ k < w7.heap.size) (ks ++ [t]) (gs ++ [g])) := ⟨by rw [hw]; exact HI.out.move (fun k hk _ => Below.heap_setCell w6 ⟨gb, 2, none⟩ _ k hk.1) (fun k hk _ => ⟨hk.1, hk.2.1, by simpa [World.setCell] using hk.2.2⟩) (Nat.le_refl _)⟩; have n3_ : Aside0 (Below w.heap.size w w7) := ⟨by rw [hw]; exact below_set HB.out GE.out⟩; clear hw BK HO HI HB hcz0 hfz0 hcz1 hfz1 hcz2 hfz2; have BK := n0_; have HO := n1_; have HI := n2_; have HB := n3_; clear n0_ n1_ n2_ n3_))
         go_roundg (n + 1)
         case measure => omega
         case rel => exact ⟨i + 1, n, rn, ks ++ [t], _, gs ++ [g], rfl, by go_num, by omega, rfl, H, ⟨by have := HL.out; simp; omega⟩, ⟨BK.out⟩, ⟨HO.out⟩, ⟨HI.out⟩, ⟨HB.out⟩⟩
  ·rw [if_neg c2] at h
   exact absurd h (by simp)


/-! ### impl_parseTree: function 46 -/
/-- The tree of cells, if it is good. -/
def impl_parseTree.f (l : List S76) : Option (Option S72 × Bool) := (impl_in.f (l.length : Int) 1 30).bind fun b => if b = true then (impl_parseNode.f 40 l 0 0).bind fun r => some (r.1, r.1.isSome && (r.2 == (l.length : Int))) else some (none, false)
set_option maxHeartbeats 8000000 in
set_option maxRecDepth 100000 in
theorem impl_parseTree.calls (A0 : Option Addr) (c0 : Nat) (l0 : List S76) (r : Option S72 × Bool) (w : World) (hr0 : Kd.C k76 w A0 l0.length l0) (hc0 : l0.length ≤ c0) (h : impl_parseTree.f l0 = some r) :
  Calls Try.prog 46 #[.slice A0 l0.length c0] w fun e w' => ∃ p, e = .returned (.tuple #[.pointer p, .bool r.2]) ∧ Xn.opt w' w.heap.size r.1 p ∧ Below w.heap.size w w' := by
 unfold impl_parseTree.f at h
 have HR0 := Aside0.mk hr0
 have HC0 := Aside0.mk hc0
 have HB := Aside0.mk (Below.refl w.heap.size w)
 clear hr0 hc0
 obtain ⟨b, A1, h⟩ := lO h
 cases b with
 | false =>
  rw [if_neg (by decide)] at h
  obtain rfl := Option.some.inj h
  clear h
  go_enter Try.func46, Try.ntmps46
  go_wp2_with (first | (go_at_call 58; (with_reducible refine (impl_in.calls l0.length 1 30 false _ A1.out).mono ?_); rintro e w' ⟨rfl, ⟨nd, rfl⟩⟩))
  refine bodyPost_ret (results_list (rs := [.tmp 2, .tmp 3]) rfl (by simp) (.tmp (.tmp .nil))) rfl ?_
  exact ⟨none, lE, rfl, lB⟩
 | true =>
  rw [if_pos rfl] at h
  obtain ⟨rr, A2, h⟩ := lO h
  obtain rfl := Option.some.inj h
  clear h
  obtain ⟨ro, rn⟩ := rr
  cases ro with
  | none =>
   go_enter Try.func46, Try.ntmps46
   go_wp2_with (first | (go_at_call 58; (with_reducible refine (impl_in.calls l0.length 1 30 true _ A1.out).mono ?_); rintro e w' ⟨rfl, ⟨nd, rfl⟩⟩) | (go_at_call 77; (with_reducible refine (impl_parseNode.calls 40 _ _ l0 0 0 (none, rn) _ (lC HR0.out) HC0.out A2.out).mono ?_); rintro e w5 ⟨p, rfl, hopt, hb⟩; obtain rfl := hopt; have n0_ := Aside0.mk (below_step lB hb); clear HB; have HB := n0_; clear n0_ hb))
   refine bodyPost_ret (results_list (rs := [.tmp 2, .tmp 3]) rfl (by simp) (.tmp (.tmp .nil))) rfl ?_
   exact ⟨none, lE, rfl, lB⟩
  | some t =>
   cases hn : (rn == (l0.length : Int)) with
   | false =>
    go_enter Try.func46, Try.ntmps46
    go_wp2_with (first | (go_at_call 58; (with_reducible refine (impl_in.calls l0.length 1 30 true _ A1.out).mono ?_); rintro e w' ⟨rfl, ⟨nd, rfl⟩⟩) | (go_at_call 77; (with_reducible refine (impl_parseNode.calls 40 _ _ l0 0 0 (some t, rn) _ (lC HR0.out) HC0.out A2.out).mono ?_); rintro e w5 ⟨p, rfl, ⟨g, rfl, hin1⟩, hb⟩; have n0_ := Aside0.mk (below_step lB hb); have n1_ := Aside0.mk hin1; clear HB; have HB := n0_; have HI := n1_; clear n0_ n1_ hb hin1))
    refine bodyPost_ret (results_list (rs := [.tmp 2, .tmp 3]) rfl (by simp) (.tmp (.tmp .nil))) rfl ?_
    exact ⟨_, lE, ⟨g, rfl, HI.out.move (fun _ _ _ => rfl) (fun _ hk _ => hk) (Nat.le_refl _)⟩, lB⟩
   | true =>
    go_enter Try.func46, Try.ntmps46
    go_wp2_with (first | (go_at_call 58; (with_reducible refine (impl_in.calls l0.length 1 30 true _ A1.out).mono ?_); rintro e w' ⟨rfl, ⟨nd, rfl⟩⟩) | (go_at_call 77; (with_reducible refine (impl_parseNode.calls 40 _ _ l0 0 0 (some t, rn) _ (lC HR0.out) HC0.out A2.out).mono ?_); rintro e w5 ⟨p, rfl, ⟨g, rfl, hin1⟩, hb⟩; have n0_ := Aside0.mk (below_step lB hb); have n1_ := Aside0.mk hin1; clear HB; have HB := n0_; have HI := n1_; clear n0_ n1_ hb hin1))
    refine bodyPost_ret (results_list (rs := [.tmp 2, .tmp 3]) rfl (by simp) (.tmp (.tmp .nil))) rfl ?_
    exact ⟨_, lE, ⟨g, rfl, HI.out.move (fun _ _ _ => rfl) (fun _ hk _ => hk) (Nat.le_refl _)⟩, lB⟩


/-! ### impl_GoodTree2: function 15 -/
/-- Is that a tree? -/
def impl_GoodTree2.f (l : List S76) : Option Bool := (impl_parseTree.f l).bind fun r => some r.2
set_option maxHeartbeats 8000000 in
set_option maxRecDepth 100000 in
theorem impl_GoodTree2.calls (A0 : Option Addr) (c0 : Nat) (l0 : List S76) (r : Bool) (w : World) (hr0 : Kd.C k76 w A0 l0.length l0) (hc0 : l0.length ≤ c0) (h : impl_GoodTree2.f l0 = some r) :
  Calls Try.prog 15 #[.slice A0 l0.length c0] w fun e w' => e = .returned (.bool r) ∧ Below w.heap.size w w' := by
 unfold impl_GoodTree2.f at h
 have HR0 := Aside0.mk hr0
 have HC0 := Aside0.mk hc0
 have HB := Aside0.mk (Below.refl w.heap.size w)
 clear hr0 hc0
 obtain ⟨rr, A1, h⟩ := lO h
 obtain rfl := Option.some.inj h
 clear h
 go_enter Try.func15, Try.ntmps15
 go_wp2_with (first | (go_at_call 46; (with_reducible refine (impl_parseTree.calls _ _ l0 rr _ (lC HR0.out) HC0.out A1.out).mono ?_); rintro e w5 ⟨p, rfl, hopt, hb⟩; clear hopt; have n0_ := Aside0.mk (below_step lB hb); clear HB; have HB := n0_; clear n0_ hb))
 go_ret
 exact ⟨rfl, lB⟩


/-! ### laws_eqXCell: function 47 -/
def laws_eqXCell.f (a0_0 : Int) (a0_1 : Int) (a1_0 : Int) (a1_1 : Int) : Option (Bool) := if a0_0 = a1_0 then (if a0_1 = a1_1 then (some true) else (some false)) else (some false)
set_option maxHeartbeats 8000000 in
set_option maxRecDepth 100000 in
theorem laws_eqXCell.calls (a0_0 : Int) (a0_1 : Int) (a1_0 : Int) (a1_1 : Int) (r : Bool) (w : World) (h : laws_eqXCell.f a0_0 a0_1 a1_0 a1_1 = some r) :
  Calls Try.prog 47 #[.agg #[.int .i64 a0_0, .int .i64 a0_1], .agg #[.int .i64 a1_0, .int .i64 a1_1]] w fun e w' => e = .returned (.bool r) ∧ Below w.heap.size w w' := by
 have hu76 := Try.underlying76
 have HB := Aside0.mk (Below.refl w.heap.size w)
 have H : (if a0_0 = a1_0 then (if a0_1 = a1_1 then (some true) else (some false)) else (some false)) = some r := h
 clear h
 by_cases c3 : a0_0 = a1_0
 ·rw [if_pos c3] at H
  have c3b0 : (a0_0 == a1_0) = true := beq_iff_eq.mpr c3
  have c3b1 : (a0_0 != a1_0) = false := bne_eq_false_iff_eq.mpr c3
  clear c3
  by_cases c4 : a0_1 = a1_1
  ·rw [if_pos c4] at H
   have c4b0 : (a0_1 == a1_1) = true := beq_iff_eq.mpr c4
   have c4b1 : (a0_1 != a1_1) = false := bne_eq_false_iff_eq.mpr c4
   clear c4
   obtain rfl := Option.some.inj H
   go_enter Try.func47, Try.ntmps47
   go_wp2_with (first | ((with_reducible refine gate_dst (N := 2) rfl ?_); refine bxe 2 #[.int .i64 a0_0, .int .i64 a0_1] 76 ?_; intro gb154 hg w5 hbox hb; have n0_ := Aside0.mk (below_step lB hb); have n1_ := Aside0.mk (hbox); have n2_ := lG w hg; have n3_ := lG w hg; clear HB; have HB := n0_; have BK154 := n1_; have GW154 := n2_; have GE154 := n3_; clear n0_ n1_ n2_ n3_; clear hb hbox hg) | ((with_reducible refine gate_dst (N := 3) rfl ?_); refine bxe 3 #[.int .i64 a1_0, .int .i64 a1_1] 76 ?_; intro gb155 hg w6 hbox hb; have n0_ := Aside0.mk (blk_below (lK BK154.out) hb); have n1_ := Aside0.mk (below_step lB hb); have n2_ := Aside0.mk (hbox); have n3_ := lG w hg; have n4_ := lG w hg; have n5_ := Aside0.mk ((by rw [hg]; exact Nat.ne_of_lt (blk_lt (lK BK154.out)) : gb154 ≠ gb155)); have n6_ := Aside0.mk ((by rw [hg]; exact Nat.ne_of_gt (blk_lt (lK BK154.out)) : gb155 ≠ gb154)); clear BK154; clear HB; have BK154 := n0_; have HB := n1_; have BK155 := n2_; have GW155 := n3_; have GE155 := n4_; have NB154_155 := n5_; have NB155_154 := n6_; clear n0_ n1_ n2_ n3_ n4_ n5_ n6_; clear hb hbox hg; have hnb7 := NB154_155.out; have hnc7 := NB155_154.out; obtain ⟨hcz8_0, hfz8_0, hcz8_1, hfz8_1⟩ := bk2 BK154.out; obtain ⟨hcz9_0, hfz9_0, hcz9_1, hfz9_1⟩ := bk2 BK155.out))
   go_ret
   exact ⟨lE, lB⟩
  ·rw [if_neg c4] at H
   have c4b0 : (a0_1 == a1_1) = false := beq_eq_false_iff_ne.mpr c4
   have c4b1 : (a0_1 != a1_1) = true := bne_iff_ne.mpr c4
   obtain rfl := Option.some.inj H
   go_enter Try.func47, Try.ntmps47
   go_wp2_with (first | ((with_reducible refine gate_dst (N := 2) rfl ?_); refine bxe 2 #[.int .i64 a0_0, .int .i64 a0_1] 76 ?_; intro gb154 hg w10 hbox hb; have n0_ := Aside0.mk (below_step lB hb); have n1_ := Aside0.mk (hbox); have n2_ := lG w hg; have n3_ := lG w hg; clear HB; have HB := n0_; have BK154 := n1_; have GW154 := n2_; have GE154 := n3_; clear n0_ n1_ n2_ n3_; clear hb hbox hg) | ((with_reducible refine gate_dst (N := 3) rfl ?_); refine bxe 3 #[.int .i64 a1_0, .int .i64 a1_1] 76 ?_; intro gb155 hg w11 hbox hb; have n0_ := Aside0.mk (blk_below (lK BK154.out) hb); have n1_ := Aside0.mk (below_step lB hb); have n2_ := Aside0.mk (hbox); have n3_ := lG w hg; have n4_ := lG w hg; have n5_ := Aside0.mk ((by rw [hg]; exact Nat.ne_of_lt (blk_lt (lK BK154.out)) : gb154 ≠ gb155)); have n6_ := Aside0.mk ((by rw [hg]; exact Nat.ne_of_gt (blk_lt (lK BK154.out)) : gb155 ≠ gb154)); clear BK154; clear HB; have BK154 := n0_; have HB := n1_; have BK155 := n2_; have GW155 := n3_; have GE155 := n4_; have NB154_155 := n5_; have NB155_154 := n6_; clear n0_ n1_ n2_ n3_ n4_ n5_ n6_; clear hb hbox hg; have hnb12 := NB154_155.out; have hnc12 := NB155_154.out; obtain ⟨hcz13_0, hfz13_0, hcz13_1, hfz13_1⟩ := bk2 BK154.out; obtain ⟨hcz14_0, hfz14_0, hcz14_1, hfz14_1⟩ := bk2 BK155.out))
   go_ret
   exact ⟨lE, lB⟩
 ·rw [if_neg c3] at H
  have c3b0 : (a0_0 == a1_0) = false := beq_eq_false_iff_ne.mpr c3
  have c3b1 : (a0_0 != a1_0) = true := bne_iff_ne.mpr c3
  obtain rfl := Option.some.inj H
  go_enter Try.func47, Try.ntmps47
  go_wp2_with (first | ((with_reducible refine gate_dst (N := 2) rfl ?_); refine bxe 2 #[.int .i64 a0_0, .int .i64 a0_1] 76 ?_; intro gb154 hg w15 hbox hb; have n0_ := Aside0.mk (below_step lB hb); have n1_ := Aside0.mk (hbox); have n2_ := lG w hg; have n3_ := lG w hg; clear HB; have HB := n0_; have BK154 := n1_; have GW154 := n2_; have GE154 := n3_; clear n0_ n1_ n2_ n3_; clear hb hbox hg) | ((with_reducible refine gate_dst (N := 3) rfl ?_); refine bxe 3 #[.int .i64 a1_0, .int .i64 a1_1] 76 ?_; intro gb155 hg w16 hbox hb; have n0_ := Aside0.mk (blk_below (lK BK154.out) hb); have n1_ := Aside0.mk (below_step lB hb); have n2_ := Aside0.mk (hbox); have n3_ := lG w hg; have n4_ := lG w hg; have n5_ := Aside0.mk ((by rw [hg]; exact Nat.ne_of_lt (blk_lt (lK BK154.out)) : gb154 ≠ gb155)); have n6_ := Aside0.mk ((by rw [hg]; exact Nat.ne_of_gt (blk_lt (lK BK154.out)) : gb155 ≠ gb154)); clear BK154; clear HB; have BK154 := n0_; have HB := n1_; have BK155 := n2_; have GW155 := n3_; have GE155 := n4_; have NB154_155 := n5_; have NB155_154 := n6_; clear n0_ n1_ n2_ n3_ n4_ n5_ n6_; clear hb hbox hg; have hnb17 := NB154_155.out; have hnc17 := NB155_154.out; obtain ⟨hcz18_0, hfz18_0, hcz18_1, hfz18_1⟩ := bk2 BK154.out; obtain ⟨hcz19_0, hfz19_0, hcz19_1, hfz19_1⟩ := bk2 BK155.out))
  go_ret
  exact ⟨lE, lB⟩

/-! ### laws_eqXCellS: function 16 -/
def laws_eqXCellS.l0 : Nat → List (S76) → List (S76) → Int → Option (Bool)
 | 0, _, _, _ => none
 | k + 1, x0, x1, x5 => if x5 < (x0.length : Int) then (if 0 ≤ x5 then (if x5 < (x1.length : Int) then ((laws_eqXCell.f ((rd_T76 x0 x5).f0) ((rd_T76 x0 x5).f1) ((rd_T76 x1 x5).f0) ((rd_T76 x1 x5).f1)).bind fun t158 => (if t158 = true then (laws_eqXCellS.l0 k x0 x1 (wrap64 (x5 + 1))) else (some false))) else (none)) else (none)) else (some true)
def laws_eqXCellS.f (k : Nat) (l0 : List (S76)) (l1 : List (S76)) : Option (Bool) := if (l0.length : Int) = (l1.length : Int) then (laws_eqXCellS.l0 k l0 l1 0) else (some false)
theorem laws_eqXCellS.mono_l : ∀ k, (∀ y0 y1 y2, LeO (laws_eqXCellS.l0 k y0 y1 y2) (laws_eqXCellS.l0 (k + 1) y0 y1 y2))
 | 0 => fun _ _ _ r h => by simp [laws_eqXCellS.l0] at h
 | k + 1 => by
  have ih0 := laws_eqXCellS.mono_l k
  ·intro y0 y1 y2
   unfold laws_eqXCellS.l0
   repeat' first
   | with_reducible apply ih0
   | (with_reducible exact LeO.refl _)
   | (with_reducible exact LeO.none _)
   | (with_reducible refine LeO.ite ?_ ?_)
   | (with_reducible refine LeO.bind ?_ (fun _ => ?_))
   | apply ih0
   | exact LeO.none _
   | refine LeO.ite ?_ ?_
   | refine LeO.bind ?_ (fun _ => ?_)
theorem laws_eqXCellS.mono : ∀ a0 a1 k, LeO (laws_eqXCellS.f k a0 a1) (laws_eqXCellS.f (k + 1) a0 a1) := by
 intro a0 a1 k
 have ih0 := laws_eqXCellS.mono_l k
 unfold laws_eqXCellS.f
 repeat' first
   | with_reducible apply ih0
   | (with_reducible exact LeO.refl _)
   | (with_reducible exact LeO.none _)
   | (with_reducible refine LeO.ite ?_ ?_)
   | (with_reducible refine LeO.bind ?_ (fun _ => ?_))
   | apply ih0
   | exact LeO.none _
   | refine LeO.ite ?_ ?_
   | refine LeO.bind ?_ (fun _ => ?_)
def laws_eqXCellS.T6 : Bool × List (List Nat × List Nat) := (true, [([], []), ([], []), ([0, 1], [0, 1]), ([2], [2]), ([], []), ([], []), ([4, 5], [4, 5]), ([6], [6]), ([3, 7], [3, 7]), ([8], [8])])
def laws_eqXCellS.B6 : List Nat := [0, 0, 3, 7, 0, 0, 48, 112, 255, 511]
theorem laws_eqXCellS.tab6 : rtab .any (opsOf Try.f16 6) = laws_eqXCellS.T6 := by kernel_rfl
theorem laws_eqXCellS.bits6 : waitsOk laws_eqXCellS.T6.2 laws_eqXCellS.B6 = true := by kernel_rfl
set_option maxHeartbeats 8000000 in
set_option maxRecDepth 100000 in
theorem laws_eqXCellS.calls (k : Nat) (A0 : Option Addr) (c0 : Nat) (l0 : List (S76)) (A1 : Option Addr) (c1 : Nat) (l1 : List (S76)) (r : Bool) (w : World) (hr0 : Kd.C k76 w A0 l0.length l0) (hc0 : l0.length ≤ c0) (hr1 : Kd.C k76 w A1 l1.length l1) (hc1 : l1.length ≤ c1) (h : laws_eqXCellS.f k l0 l1 = some r) :
  Calls Try.prog 16 #[.slice A0 l0.length c0, .slice A1 l1.length c1] w fun e w' => e = .returned (.bool r) ∧ Below w.heap.size w w' := by
 have hu76 := Try.underlying76
 have HR0 := Aside0.mk hr0
 have HC0 := Aside0.mk hc0
 clear hr0 hc0
 have HR1 := Aside0.mk hr1
 have HC1 := Aside0.mk hc1
 clear hr1 hc1
 have HB := Aside0.mk (Below.refl w.heap.size w)
 have H : (if (l0.length : Int) = (l1.length : Int) then (laws_eqXCellS.l0 k l0 l1 0) else (some false)) = some r := h
 clear h
 by_cases c3 : (l0.length : Int) = (l1.length : Int)
 ·rw [if_pos c3] at H
  have c3b0 : ((l0.length : Int) == (l1.length : Int)) = true := beq_iff_eq.mpr c3
  have c3b1 : ((l0.length : Int) != (l1.length : Int)) = false := bne_eq_false_iff_eq.mpr c3
  have c3b2 : (l0.length == l1.length) = true := by first | simpa using c3 | (simp at c3 ⊢; omega)
  clear c3
  have H' := Aside0.mk H
  clear H
  go_enter Try.func16, Try.ntmps16
  go_wp2
  go_loopg [5] k (fun kq v5 w' => ∃ (x5_1 : Int), v5 = .int .i64 x5_1 ∧ Aside0 (laws_eqXCellS.l0 kq l0 l1 x5_1 = some r) ∧ Aside0 (kq ≤ k) ∧ Aside0 (Below w.heap.size w w'))
  case atStart => exact ⟨(0), lF, H', ⟨Nat.le_refl _⟩, ⟨lB⟩⟩
  case round =>
   clear H'
   try clear c1
   try clear p2
   try clear c3
   try clear c3b0
   try clear c3b1
   try clear c3b2
   obtain ⟨x5_1, rfl, HA, HK1, HB⟩ := hrel
   cases gk with
   | zero => exact absurd HA.out (by simp [laws_eqXCellS.l0])
   | succ k1 =>
    have H := HA.out
    clear HA
    simp only [laws_eqXCellS.l0] at H
    by_cases c4 : x5_1 < (l0.length : Int)
    ·rw [if_pos c4] at H
     have c4b0 : decide (x5_1 < (l0.length : Int)) = true := decide_eq_true c4
     clear c4
     by_cases c5 : 0 ≤ x5_1
     ·rw [if_pos c5] at H
      have c5b0 : decide (0 ≤ x5_1) = true := decide_eq_true c5
      clear c5
      by_cases c6 : x5_1 < (l1.length : Int)
      ·rw [if_pos c6] at H
       have c6b0 : decide (x5_1 < (l1.length : Int)) = true := decide_eq_true c6
       clear c6
       replace H := lO H
       obtain ⟨t158, A7, H⟩ := H
       by_cases c8 : t158 = true
       ·subst c8
        rw [if_pos rfl] at H
        have H' := Aside0.mk H
        clear H
        try go_wp2
        have n0_ := Aside0.mk (below_drew1 HB.out)
        clear HB
        have HB := n0_
        clear n0_
        have p156 : 0 ≤ (x5_1 : Int) := lD
        have q156 : x5_1 < (l0.length : Int) := lD
        obtain ⟨ad156, e156, hx156_0, hx156_1⟩ := at_T76 HR0.out x5_1 p156 q156
        have hw156_1 := hx156_1
        have hw156_0 := hx156_0
        cases e156
        replace hx156_0 := pw_cell_below HB.out hx156_0
        replace hx156_1 := pw_cell_below HB.out hx156_1
        replace p156 := eq_true p156
        replace q156 := eq_true q156
        have p157 : 0 ≤ (x5_1 : Int) := lD
        have q157 : x5_1 < (l1.length : Int) := lD
        obtain ⟨ad157, e157, hx157_0, hx157_1⟩ := at_T76 HR1.out x5_1 p157 q157
        have hw157_1 := hx157_1
        have hw157_0 := hx157_0
        cases e157
        replace hx157_0 := pw_cell_below HB.out hx157_0
        replace hx157_1 := pw_cell_below HB.out hx157_1
        replace p157 := eq_true p157
        replace q157 := eq_true q157
        refine start_ (n := 10) (S := fun w' => w'.cell? (ad156.add ((x5_1).toNat * 2)) = some (.int .i64 ((rd_T76 l0 x5_1).f0)) ∧ w'.cell? ⟨(ad156.add ((x5_1).toNat * 2)).block, (ad156.add ((x5_1).toNat * 2)).off + 1, none⟩ = some (.int .i64 ((rd_T76 l0 x5_1).f1)) ∧ w'.cell? (ad157.add ((x5_1).toNat * 2)) = some (.int .i64 ((rd_T76 l1 x5_1).f0)) ∧ w'.cell? ⟨(ad157.add ((x5_1).toNat * 2)).block, (ad157.add ((x5_1).toNat * 2)).off + 1, none⟩ = some (.int .i64 ((rd_T76 l1 x5_1).f1))) (ds := []) (bs 10 0) kR rfl kR ⟨((HB.out.cell (World.block_lt_of_cell? w _ hw156_0)).trans hw156_0), ((HB.out.cell (World.block_lt_of_cell? w _ hw156_1)).trans hw156_1), ((HB.out.cell (World.block_lt_of_cell? w _ hw157_0)).trans hw157_0), ((HB.out.cell (World.block_lt_of_cell? w _ hw157_1)).trans hw157_1)⟩ (fun hHeld => ?_); refine with_tabW laws_eqXCellS.tab6 laws_eqXCellS.bits6 (fun HT_ HW_ => ?_)
        generalize wr.drew = w9 at HB hx156_0 hx156_1 hx157_0 hx157_1 hHeld ⊢
        refine pur_ 0 17 (bs 10 1) (any_of HT_.out kR) ?_
        refine pur_ 1 18 (bs 10 3) (any_of HT_.out kR) ?_
        refine pur_ 2 19 (bs 10 7) (any_of HT_.out kR) ?_
        refine pur_ 4 21 (bs 10 23) (any_of HT_.out kR) ?_
        refine pur_ 5 22 (bs 10 55) (any_of HT_.out kR) ?_
        refine pur_ 6 23 (bs 10 119) (any_of HT_.out kR) ?_
        refine tak_ 3 20 (bs 10 127) (take_ofW HT_.out HW_.out kR) hHeld ?_
        refine tak_ 7 24 (bs 10 255) (take_ofW HT_.out HW_.out kR) hHeld ?_
        refine one_ (i := 8) (N := some 25) (bs 10 511) rfl rfl (one_of HT_.out (by kernel_rfl)) (by decide) (fun K hK => ?_)
        refine goes_ Try.func47 (by kernel_rfl) rfl #[.agg #[.int .i64 ((rd_T76 l0 x5_1).f0), .int .i64 ((rd_T76 l0 x5_1).f1)], .agg #[.int .i64 ((rd_T76 l1 x5_1).f0), .int .i64 ((rd_T76 l1 x5_1).f1)]] (by rfl) rfl rfl (by (try simp only [List.map_toArray, List.map_cons, List.map_nil]); first | done | rfl | (simp only [List.length_drop, List.length_take]; rfl)) ?_
        with_reducible refine (laws_eqXCell.calls ((rd_T76 l0 x5_1).f0) ((rd_T76 l0 x5_1).f1) ((rd_T76 l1 x5_1).f0) ((rd_T76 l1 x5_1).f1) true _ A7.out).mono ?_
        rintro e w10 ⟨rfl, hb⟩
        refine ⟨_, rfl, ?_⟩
        have n0_ := Aside0.mk (below_step lB hb)
        clear HB
        have HB := n0_
        clear n0_
        (try clear hb)
        (try clear hb2)
        (try clear hk)
        (try clear hi)
        refine hK.out _ _ ⟨((HB.out.cell (World.block_lt_of_cell? w _ hw156_0)).trans hw156_0), ((HB.out.cell (World.block_lt_of_cell? w _ hw156_1)).trans hw156_1), ((HB.out.cell (World.block_lt_of_cell? w _ hw157_0)).trans hw157_0), ((HB.out.cell (World.block_lt_of_cell? w _ hw157_1)).trans hw157_1)⟩ (fun hHeld => ?_)
        clear hK K
        refine norm_ (a' := ?_) ?_ ?_
        rotate_left
        ·show Act.put _ (some 25) _ = _
         simp only [Act.put, List.setIfInBounds_toArray, List.set_cons_zero, List.set_cons_succ, i64_w, i32_w]
         rfl
        refine pur_ 9 26 (bs 10 1023) (any_of HT_.out kR) ?_
        refine done_ (done_of HT_.out (by kernel_rfl)) ?_
        try go_wp2
        go_roundg k1
        case measure => have := HK1.out; omega
        case rel => exact ⟨(wrap64 (x5_1 + 1)), lF, H', ⟨by have := HK1.out; omega⟩, ⟨lB⟩⟩
       ·replace c8 := Bool.eq_false_iff.mpr c8
        subst c8
        rw [if_neg (show ¬ (false = true) by decide)] at H
        obtain rfl := Option.some.inj H
        try go_wp2
        have n0_ := Aside0.mk (below_drew1 HB.out)
        clear HB
        have HB := n0_
        clear n0_
        have p156 : 0 ≤ (x5_1 : Int) := lD
        have q156 : x5_1 < (l0.length : Int) := lD
        obtain ⟨ad156, e156, hx156_0, hx156_1⟩ := at_T76 HR0.out x5_1 p156 q156
        have hw156_1 := hx156_1
        have hw156_0 := hx156_0
        cases e156
        replace hx156_0 := pw_cell_below HB.out hx156_0
        replace hx156_1 := pw_cell_below HB.out hx156_1
        replace p156 := eq_true p156
        replace q156 := eq_true q156
        have p157 : 0 ≤ (x5_1 : Int) := lD
        have q157 : x5_1 < (l1.length : Int) := lD
        obtain ⟨ad157, e157, hx157_0, hx157_1⟩ := at_T76 HR1.out x5_1 p157 q157
        have hw157_1 := hx157_1
        have hw157_0 := hx157_0
        cases e157
        replace hx157_0 := pw_cell_below HB.out hx157_0
        replace hx157_1 := pw_cell_below HB.out hx157_1
        replace p157 := eq_true p157
        replace q157 := eq_true q157
        refine start_ (n := 10) (S := fun w' => w'.cell? (ad156.add ((x5_1).toNat * 2)) = some (.int .i64 ((rd_T76 l0 x5_1).f0)) ∧ w'.cell? ⟨(ad156.add ((x5_1).toNat * 2)).block, (ad156.add ((x5_1).toNat * 2)).off + 1, none⟩ = some (.int .i64 ((rd_T76 l0 x5_1).f1)) ∧ w'.cell? (ad157.add ((x5_1).toNat * 2)) = some (.int .i64 ((rd_T76 l1 x5_1).f0)) ∧ w'.cell? ⟨(ad157.add ((x5_1).toNat * 2)).block, (ad157.add ((x5_1).toNat * 2)).off + 1, none⟩ = some (.int .i64 ((rd_T76 l1 x5_1).f1))) (ds := []) (bs 10 0) kR rfl kR ⟨((HB.out.cell (World.block_lt_of_cell? w _ hw156_0)).trans hw156_0), ((HB.out.cell (World.block_lt_of_cell? w _ hw156_1)).trans hw156_1), ((HB.out.cell (World.block_lt_of_cell? w _ hw157_0)).trans hw157_0), ((HB.out.cell (World.block_lt_of_cell? w _ hw157_1)).trans hw157_1)⟩ (fun hHeld => ?_); refine with_tabW laws_eqXCellS.tab6 laws_eqXCellS.bits6 (fun HT_ HW_ => ?_)
        generalize wr.drew = w11 at HB hx156_0 hx156_1 hx157_0 hx157_1 hHeld ⊢
        refine pur_ 0 17 (bs 10 1) (any_of HT_.out kR) ?_
        refine pur_ 1 18 (bs 10 3) (any_of HT_.out kR) ?_
        refine pur_ 2 19 (bs 10 7) (any_of HT_.out kR) ?_
        refine pur_ 4 21 (bs 10 23) (any_of HT_.out kR) ?_
        refine pur_ 5 22 (bs 10 55) (any_of HT_.out kR) ?_
        refine pur_ 6 23 (bs 10 119) (any_of HT_.out kR) ?_
        refine tak_ 3 20 (bs 10 127) (take_ofW HT_.out HW_.out kR) hHeld ?_
        refine tak_ 7 24 (bs 10 255) (take_ofW HT_.out HW_.out kR) hHeld ?_
        refine one_ (i := 8) (N := some 25) (bs 10 511) rfl rfl (one_of HT_.out (by kernel_rfl)) (by decide) (fun K hK => ?_)
        refine goes_ Try.func47 (by kernel_rfl) rfl #[.agg #[.int .i64 ((rd_T76 l0 x5_1).f0), .int .i64 ((rd_T76 l0 x5_1).f1)], .agg #[.int .i64 ((rd_T76 l1 x5_1).f0), .int .i64 ((rd_T76 l1 x5_1).f1)]] (by rfl) rfl rfl (by (try simp only [List.map_toArray, List.map_cons, List.map_nil]); first | done | rfl | (simp only [List.length_drop, List.length_take]; rfl)) ?_
        with_reducible refine (laws_eqXCell.calls ((rd_T76 l0 x5_1).f0) ((rd_T76 l0 x5_1).f1) ((rd_T76 l1 x5_1).f0) ((rd_T76 l1 x5_1).f1) false _ A7.out).mono ?_
        rintro e w12 ⟨rfl, hb⟩
        refine ⟨_, rfl, ?_⟩
        have n0_ := Aside0.mk (below_step lB hb)
        clear HB
        have HB := n0_
        clear n0_
        (try clear hb)
        (try clear hb2)
        (try clear hk)
        (try clear hi)
        refine hK.out _ _ ⟨((HB.out.cell (World.block_lt_of_cell? w _ hw156_0)).trans hw156_0), ((HB.out.cell (World.block_lt_of_cell? w _ hw156_1)).trans hw156_1), ((HB.out.cell (World.block_lt_of_cell? w _ hw157_0)).trans hw157_0), ((HB.out.cell (World.block_lt_of_cell? w _ hw157_1)).trans hw157_1)⟩ (fun hHeld => ?_)
        clear hK K
        refine norm_ (a' := ?_) ?_ ?_
        rotate_left
        ·show Act.put _ (some 25) _ = _
         simp only [Act.put, List.setIfInBounds_toArray, List.set_cons_zero, List.set_cons_succ, i64_w, i32_w]
         rfl
        refine pur_ 9 26 (bs 10 1023) (any_of HT_.out kR) ?_
        refine done_ (done_of HT_.out (by kernel_rfl)) ?_
        try go_wp2
        go_ret
        exact ⟨lE, lB⟩
      ·rw [if_neg c6] at H
       exact absurd H (by simp)
     ·rw [if_neg c5] at H
      exact absurd H (by simp)
    ·rw [if_neg c4] at H
     have c4b0 : decide (x5_1 < (l0.length : Int)) = false := decide_eq_false c4
     clear c4
     obtain rfl := Option.some.inj H
     first | (go_wp2; go_ret; exact ⟨lE, lB⟩) | (exfalso; simp only [decide_eq_false_iff_not, decide_eq_true_eq] at *; omega)
 ·rw [if_neg c3] at H
  have c3b0 : ((l0.length : Int) == (l1.length : Int)) = false := beq_eq_false_iff_ne.mpr c3
  have c3b1 : ((l0.length : Int) != (l1.length : Int)) = true := bne_iff_ne.mpr c3
  have c3b2 : (l0.length == l1.length) = false := by first | simpa using c3 | (simp at c3 ⊢; omega)
  obtain rfl := Option.some.inj H
  go_enter Try.func16, Try.ntmps16
  first | (go_wp2; go_ret; exact ⟨lE, lB⟩) | (exfalso; simp only [decide_eq_false_iff_not, decide_eq_true_eq] at *; omega)

/-! ### laws_FnExactGoodTree2: function 3 -/
def laws_FnExactGoodTree2.f (k : Nat) (l0 : List (S78)) : Option (Bool) := (laws_szXCellS.f l0 1048576).bind fun t159 => (if t159 < 0 then (some true) else ((laws_toXCellS.f k l0).bind fun t160 => ((spec_GoodTree2.f k t160).bind fun t163 => ((laws_toXCellS.f k l0).bind fun t164 => ((impl_GoodTree2.f t164).bind fun t167 => (if (t167 != t163) = true then (some false) else ((laws_toXCellS.f k l0).bind fun t168 => ((laws_eqXCellS.f k t164 t168).bind fun t171 => (if t171 = true then (some true) else (some false))))))))))
theorem laws_FnExactGoodTree2.mono : ∀ a0 k, LeO (laws_FnExactGoodTree2.f k a0) (laws_FnExactGoodTree2.f (k + 1) a0) := by
 intro a0 k
 unfold laws_FnExactGoodTree2.f
 repeat' first
   | with_reducible apply laws_eqXCellS.mono
   | with_reducible apply laws_toXCellS.mono
   | with_reducible apply spec_GoodTree2.mono
   | (with_reducible exact LeO.refl _)
   | (with_reducible exact LeO.none _)
   | (with_reducible refine LeO.ite ?_ ?_)
   | (with_reducible refine LeO.bind ?_ (fun _ => ?_))
   | apply laws_eqXCellS.mono
   | apply laws_toXCellS.mono
   | apply spec_GoodTree2.mono
   | exact LeO.none _
   | refine LeO.ite ?_ ?_
   | refine LeO.bind ?_ (fun _ => ?_)
set_option maxHeartbeats 8000000 in
set_option maxRecDepth 100000 in
theorem laws_FnExactGoodTree2.calls (k : Nat) (A0 : Option Addr) (c0 : Nat) (l0 : List (S78)) (r : Bool) (w : World) (hr0 : Kd.C k78 w A0 l0.length l0) (hc0 : l0.length ≤ c0) (h : laws_FnExactGoodTree2.f k l0 = some r) :
  Calls Try.prog 3 #[.slice A0 l0.length c0] w fun e w' => e = .returned (.bool r) ∧ Below w.heap.size w w' := by
 have HR0 := Aside0.mk hr0
 have HC0 := Aside0.mk hc0
 clear hr0 hc0
 have HB := Aside0.mk (Below.refl w.heap.size w)
 have H : ((laws_szXCellS.f l0 1048576).bind fun t159 => (if t159 < 0 then (some true) else ((laws_toXCellS.f k l0).bind fun t160 => ((spec_GoodTree2.f k t160).bind fun t163 => ((laws_toXCellS.f k l0).bind fun t164 => ((impl_GoodTree2.f t164).bind fun t167 => (if (t167 != t163) = true then (some false) else ((laws_toXCellS.f k l0).bind fun t168 => ((laws_eqXCellS.f k t164 t168).bind fun t171 => (if t171 = true then (some true) else (some false))))))))))) = some r := h
 clear h
 replace H := lO H
 obtain ⟨t159, A2, H⟩ := H
 by_cases c3 : t159 < 0
 ·rw [if_pos c3] at H
  have c3b0 : decide (t159 < 0) = true := decide_eq_true c3
  clear c3
  obtain rfl := Option.some.inj H
  go_enter Try.func3, Try.ntmps3
  go_wp2_with (first | ((with_reducible refine gate_callee (f := 12) rfl ?_); refine gl_ (some 9) (Try.func12) #[.slice A0 l0.length c0, .int .i64 1048576] ?_; (with_reducible refine (laws_szXCellS.calls _ _ l0 1048576 t159 _ ?side1 ?side2 A2.out).mono ?_); (case side1 => repeat (first | exact HR0.out | (with_reducible refine Kd.C_alloc ?_ _) | (with_reducible refine Kd.C_drewN ?_ _) | (with_reducible refine Kd.C_drew ?_))); (case side2 => exact HC0.out); rintro e w' ⟨rfl, ⟨nd, rfl⟩⟩; refine ⟨_, rfl, ?_⟩))
  go_ret
  exact ⟨lE, lB⟩
 ·rw [if_neg c3] at H
  have c3b0 : decide (t159 < 0) = false := decide_eq_false c3
  clear c3
  replace H := lO H
  obtain ⟨t160, A4, H⟩ := H
  replace H := lO H
  obtain ⟨t163, A5, H⟩ := H
  replace H := lO H
  obtain ⟨t164, A6, H⟩ := H
  replace H := lO H
  obtain ⟨t167, A7, H⟩ := H
  by_cases c8 : (t167 != t163) = true
  ·rw [if_pos c8] at H
   have c8b0 : (t167 != t163) = true := c8
   (try (have c8b1 : decide (t167 = t163) = false := by simpa using c8))
   (try (have c8b2 : (t167 == t163) = false := by simpa using c8))
   (try (have c8b3 : ¬ (t167 = t163) := by simpa using c8))
   clear c8
   obtain rfl := Option.some.inj H
   go_enter Try.func3, Try.ntmps3
   go_wp2_with (first | ((with_reducible refine gate_callee (f := 12) rfl ?_); refine gl_ (some 9) (Try.func12) #[.slice A0 l0.length c0, .int .i64 1048576] ?_; (with_reducible refine (laws_szXCellS.calls _ _ l0 1048576 t159 _ ?side1 ?side2 A2.out).mono ?_); (case side1 => repeat (first | exact HR0.out | (with_reducible refine Kd.C_alloc ?_ _) | (with_reducible refine Kd.C_drewN ?_ _) | (with_reducible refine Kd.C_drew ?_))); (case side2 => exact HC0.out); rintro e w' ⟨rfl, ⟨nd, rfl⟩⟩; refine ⟨_, rfl, ?_⟩) | ((with_reducible refine gate_callee (f := 14) rfl ?_); refine gl_ (some 13) (Try.func14) #[.slice A0 l0.length c0] ?_; (with_reducible refine (laws_toXCellS.calls k _ _ l0 t160 _ ?side1 ?side2 A4.out).mono ?_); (case side1 => repeat (first | exact HR0.out | (with_reducible refine Kd.C_alloc ?_ _) | (with_reducible refine Kd.C_drewN ?_ _) | (with_reducible refine Kd.C_drew ?_))); (case side2 => exact HC0.out); rintro e w9 ⟨v161, rfl, ho0, hb⟩; refine ⟨_, rfl, ?_⟩; have n0_ := Aside0.mk (Kd.R_lower ho0 (below_size lB)); have n1_ := Aside0.mk (below_step lB hb); clear HB; have HO162 := n0_; have HB := n1_; clear n0_ n1_; (try clear hb); (try clear hb2); (try clear hk); (try clear hi); (try clear ho0); obtain ⟨Ao10, co10, eo10⟩ := Kd.R_slice HO162.out; subst eo10) | ((with_reducible refine gate_callee (f := 13) rfl ?_); refine gl_ (some 14) (Try.func13) #[.slice Ao10 t160.length co10] ?_; (with_reducible refine (spec_GoodTree2.calls k _ _ t160 t163 _ ?side1 ?side2 A5.out).mono ?_); (case side1 => repeat (first | exact (Kd.R_reads' HO162.out).2.2 | (with_reducible refine Kd.C_alloc ?_ _) | (with_reducible refine Kd.C_drewN ?_ _) | (with_reducible refine Kd.C_drew ?_))); (case side2 => exact (Kd.R_reads' HO162.out).2.1); rintro e w11 ⟨rfl, hb⟩; refine ⟨_, rfl, ?_⟩; have n0_ := Aside0.mk (Kd.R_below (lR HO162.out) hb); have n1_ := Aside0.mk (below_step lB hb); clear HO162; clear HB; have HO162 := n0_; have HB := n1_; clear n0_ n1_; (try clear hb); (try clear hb2); (try clear hk); (try clear hi)) | ((with_reducible refine gate_callee (f := 14) rfl ?_); refine gl_ (some 16) (Try.func14) #[.slice A0 l0.length c0] ?_; (with_reducible refine (laws_toXCellS.calls k _ _ l0 t164 _ ?side1 ?side2 A6.out).mono ?_); (case side1 => exact lC (Kd.C_below HR0.out HB.out)); (case side2 => exact HC0.out); rintro e w12 ⟨v165, rfl, ho0, hb⟩; refine ⟨_, rfl, ?_⟩; have n0_ := Aside0.mk (Kd.R_elder' (lR HO162.out) (Kd.R_base ho0) hb); have n1_ := Aside0.mk (Kd.R_lower (Kd.R_new' ho0 (Kd.R_lt (lR HO162.out))) (below_size lB)); have n2_ := Aside0.mk (below_step lB hb); clear HO162; clear HB; have HO162 := n0_; have HO166 := n1_; have HB := n2_; clear n0_ n1_ n2_; (try clear hb); (try clear hb2); (try clear hk); (try clear hi); (try clear ho0); obtain ⟨Ao13, co13, eo13⟩ := Kd.R_slice HO166.out; subst eo13) | ((with_reducible refine gate_callee (f := 15) rfl ?_); refine gl_ (some 18) (Try.func15) #[.slice Ao13 t164.length co13] ?_; (with_reducible refine (impl_GoodTree2.calls _ _ t164 t167 _ ?side1 ?side2 A7.out).mono ?_); (case side1 => repeat (first | exact (Kd.R_reads' HO166.out).2.2 | (with_reducible refine Kd.C_alloc ?_ _) | (with_reducible refine Kd.C_drewN ?_ _) | (with_reducible refine Kd.C_drew ?_))); (case side2 => exact (Kd.R_reads' HO166.out).2.1); rintro e w14 ⟨rfl, hb⟩; refine ⟨_, rfl, ?_⟩; have n0_ := Aside0.mk (Kd.R_below (lR HO162.out) hb); have n1_ := Aside0.mk (Kd.R_below (lR HO166.out) hb); have n2_ := Aside0.mk (below_step lB hb); clear HO162; clear HO166; clear HB; have HO162 := n0_; have HO166 := n1_; have HB := n2_; clear n0_ n1_ n2_; (try clear hb); (try clear hb2); (try clear hk); (try clear hi)))
   go_ret
   exact ⟨lE, lB⟩
  ·rw [if_neg c8] at H
   have c8b0 : (t167 != t163) = false := by simpa using c8
   (try (have c8b1 : decide (t167 = t163) = true := by simpa using c8))
   (try (have c8b2 : (t167 == t163) = true := by simpa using c8))
   clear c8
   replace H := lO H
   obtain ⟨t168, A15, H⟩ := H
   replace H := lO H
   obtain ⟨t171, A16, H⟩ := H
   by_cases c17 : t171 = true
   ·subst c17
    rw [if_pos rfl] at H
    obtain rfl := Option.some.inj H
    go_enter Try.func3, Try.ntmps3
    go_wp2_with (first | ((with_reducible refine gate_callee (f := 12) rfl ?_); refine gl_ (some 9) (Try.func12) #[.slice A0 l0.length c0, .int .i64 1048576] ?_; (with_reducible refine (laws_szXCellS.calls _ _ l0 1048576 t159 _ ?side1 ?side2 A2.out).mono ?_); (case side1 => repeat (first | exact HR0.out | (with_reducible refine Kd.C_alloc ?_ _) | (with_reducible refine Kd.C_drewN ?_ _) | (with_reducible refine Kd.C_drew ?_))); (case side2 => exact HC0.out); rintro e w' ⟨rfl, ⟨nd, rfl⟩⟩; refine ⟨_, rfl, ?_⟩) | ((with_reducible refine gate_callee (f := 14) rfl ?_); refine gl_ (some 13) (Try.func14) #[.slice A0 l0.length c0] ?_; (with_reducible refine (laws_toXCellS.calls k _ _ l0 t160 _ ?side1 ?side2 A4.out).mono ?_); (case side1 => repeat (first | exact HR0.out | (with_reducible refine Kd.C_alloc ?_ _) | (with_reducible refine Kd.C_drewN ?_ _) | (with_reducible refine Kd.C_drew ?_))); (case side2 => exact HC0.out); rintro e w18 ⟨v161, rfl, ho0, hb⟩; refine ⟨_, rfl, ?_⟩; have n0_ := Aside0.mk (Kd.R_lower ho0 (below_size lB)); have n1_ := Aside0.mk (below_step lB hb); clear HB; have HO162 := n0_; have HB := n1_; clear n0_ n1_; (try clear hb); (try clear hb2); (try clear hk); (try clear hi); (try clear ho0); obtain ⟨Ao19, co19, eo19⟩ := Kd.R_slice HO162.out; subst eo19) | ((with_reducible refine gate_callee (f := 13) rfl ?_); refine gl_ (some 14) (Try.func13) #[.slice Ao19 t160.length co19] ?_; (with_reducible refine (spec_GoodTree2.calls k _ _ t160 t163 _ ?side1 ?side2 A5.out).mono ?_); (case side1 => repeat (first | exact (Kd.R_reads' HO162.out).2.2 | (with_reducible refine Kd.C_alloc ?_ _) | (with_reducible refine Kd.C_drewN ?_ _) | (with_reducible refine Kd.C_drew ?_))); (case side2 => exact (Kd.R_reads' HO162.out).2.1); rintro e w20 ⟨rfl, hb⟩; refine ⟨_, rfl, ?_⟩; have n0_ := Aside0.mk (Kd.R_below (lR HO162.out) hb); have n1_ := Aside0.mk (below_step lB hb); clear HO162; clear HB; have HO162 := n0_; have HB := n1_; clear n0_ n1_; (try clear hb); (try clear hb2); (try clear hk); (try clear hi)) | ((with_reducible refine gate_callee (f := 14) rfl ?_); refine gl_ (some 16) (Try.func14) #[.slice A0 l0.length c0] ?_; (with_reducible refine (laws_toXCellS.calls k _ _ l0 t164 _ ?side1 ?side2 A6.out).mono ?_); (case side1 => exact lC (Kd.C_below HR0.out HB.out)); (case side2 => exact HC0.out); rintro e w21 ⟨v165, rfl, ho0, hb⟩; refine ⟨_, rfl, ?_⟩; have n0_ := Aside0.mk (Kd.R_elder' (lR HO162.out) (Kd.R_base ho0) hb); have n1_ := Aside0.mk (Kd.R_lower (Kd.R_new' ho0 (Kd.R_lt (lR HO162.out))) (below_size lB)); have n2_ := Aside0.mk (below_step lB hb); clear HO162; clear HB; have HO162 := n0_; have HO166 := n1_; have HB := n2_; clear n0_ n1_ n2_; (try clear hb); (try clear hb2); (try clear hk); (try clear hi); (try clear ho0); obtain ⟨Ao22, co22, eo22⟩ := Kd.R_slice HO166.out; subst eo22) | ((with_reducible refine gate_callee (f := 15) rfl ?_); refine gl_ (some 18) (Try.func15) #[.slice Ao22 t164.length co22] ?_; (with_reducible refine (impl_GoodTree2.calls _ _ t164 t167 _ ?side1 ?side2 A7.out).mono ?_); (case side1 => repeat (first | exact (Kd.R_reads' HO166.out).2.2 | (with_reducible refine Kd.C_alloc ?_ _) | (with_reducible refine Kd.C_drewN ?_ _) | (with_reducible refine Kd.C_drew ?_))); (case side2 => exact (Kd.R_reads' HO166.out).2.1); rintro e w23 ⟨rfl, hb⟩; refine ⟨_, rfl, ?_⟩; have n0_ := Aside0.mk (Kd.R_below (lR HO162.out) hb); have n1_ := Aside0.mk (Kd.R_below (lR HO166.out) hb); have n2_ := Aside0.mk (below_step lB hb); clear HO162; clear HO166; clear HB; have HO162 := n0_; have HO166 := n1_; have HB := n2_; clear n0_ n1_ n2_; (try clear hb); (try clear hb2); (try clear hk); (try clear hi)) | ((with_reducible refine gate_callee (f := 14) rfl ?_); refine gl_ (some 24) (Try.func14) #[.slice A0 l0.length c0] ?_; (with_reducible refine (laws_toXCellS.calls k _ _ l0 t168 _ ?side1 ?side2 A15.out).mono ?_); (case side1 => exact lC (Kd.C_below HR0.out HB.out)); (case side2 => exact HC0.out); rintro e w24 ⟨v169, rfl, ho0, hb⟩; refine ⟨_, rfl, ?_⟩; have n0_ := Aside0.mk (Kd.R_elder' (lR HO162.out) (Kd.R_base ho0) hb); have n1_ := Aside0.mk (Kd.R_elder' (lR HO166.out) (Kd.R_base ho0) hb); have n2_ := Aside0.mk (Kd.R_lower (Kd.R_new' (Kd.R_new' ho0 (Kd.R_lt (lR HO162.out))) (Kd.R_lt (lR HO166.out))) (below_size lB)); have n3_ := Aside0.mk (below_step lB hb); clear HO162; clear HO166; clear HB; have HO162 := n0_; have HO166 := n1_; have HO170 := n2_; have HB := n3_; clear n0_ n1_ n2_ n3_; (try clear hb); (try clear hb2); (try clear hk); (try clear hi); (try clear ho0); obtain ⟨Ao25, co25, eo25⟩ := Kd.R_slice HO170.out; subst eo25) | ((with_reducible refine gate_callee (f := 16) rfl ?_); refine gl_ (some 25) (Try.func16) #[.slice Ao22 t164.length co22, .slice Ao25 t168.length co25] ?_; (with_reducible refine (laws_eqXCellS.calls k _ _ t164 _ _ t168 true _ ?side1 ?side2 ?side3 ?side4 A16.out).mono ?_); (case side1 => repeat (first | exact (Kd.R_reads' HO166.out).2.2 | (with_reducible refine Kd.C_alloc ?_ _) | (with_reducible refine Kd.C_drewN ?_ _) | (with_reducible refine Kd.C_drew ?_))); (case side2 => exact (Kd.R_reads' HO166.out).2.1); (case side3 => repeat (first | exact (Kd.R_reads' HO170.out).2.2 | (with_reducible refine Kd.C_alloc ?_ _) | (with_reducible refine Kd.C_drewN ?_ _) | (with_reducible refine Kd.C_drew ?_))); (case side4 => exact (Kd.R_reads' HO170.out).2.1); rintro e w26 ⟨rfl, hb⟩; refine ⟨_, rfl, ?_⟩; have n0_ := Aside0.mk (Kd.R_below (lR HO162.out) hb); have n1_ := Aside0.mk (Kd.R_below (lR HO166.out) hb); have n2_ := Aside0.mk (Kd.R_below (lR HO170.out) hb); have n3_ := Aside0.mk (below_step lB hb); clear HO162; clear HO166; clear HO170; clear HB; have HO162 := n0_; have HO166 := n1_; have HO170 := n2_; have HB := n3_; clear n0_ n1_ n2_ n3_; (try clear hb); (try clear hb2); (try clear hk); (try clear hi)))
    go_ret
    exact ⟨lE, lB⟩
   ·replace c17 := Bool.eq_false_iff.mpr c17
    subst c17
    rw [if_neg (show ¬ (false = true) by decide)] at H
    obtain rfl := Option.some.inj H
    go_enter Try.func3, Try.ntmps3
    go_wp2_with (first | ((with_reducible refine gate_callee (f := 12) rfl ?_); refine gl_ (some 9) (Try.func12) #[.slice A0 l0.length c0, .int .i64 1048576] ?_; (with_reducible refine (laws_szXCellS.calls _ _ l0 1048576 t159 _ ?side1 ?side2 A2.out).mono ?_); (case side1 => repeat (first | exact HR0.out | (with_reducible refine Kd.C_alloc ?_ _) | (with_reducible refine Kd.C_drewN ?_ _) | (with_reducible refine Kd.C_drew ?_))); (case side2 => exact HC0.out); rintro e w' ⟨rfl, ⟨nd, rfl⟩⟩; refine ⟨_, rfl, ?_⟩) | ((with_reducible refine gate_callee (f := 14) rfl ?_); refine gl_ (some 13) (Try.func14) #[.slice A0 l0.length c0] ?_; (with_reducible refine (laws_toXCellS.calls k _ _ l0 t160 _ ?side1 ?side2 A4.out).mono ?_); (case side1 => repeat (first | exact HR0.out | (with_reducible refine Kd.C_alloc ?_ _) | (with_reducible refine Kd.C_drewN ?_ _) | (with_reducible refine Kd.C_drew ?_))); (case side2 => exact HC0.out); rintro e w27 ⟨v161, rfl, ho0, hb⟩; refine ⟨_, rfl, ?_⟩; have n0_ := Aside0.mk (Kd.R_lower ho0 (below_size lB)); have n1_ := Aside0.mk (below_step lB hb); clear HB; have HO162 := n0_; have HB := n1_; clear n0_ n1_; (try clear hb); (try clear hb2); (try clear hk); (try clear hi); (try clear ho0); obtain ⟨Ao28, co28, eo28⟩ := Kd.R_slice HO162.out; subst eo28) | ((with_reducible refine gate_callee (f := 13) rfl ?_); refine gl_ (some 14) (Try.func13) #[.slice Ao28 t160.length co28] ?_; (with_reducible refine (spec_GoodTree2.calls k _ _ t160 t163 _ ?side1 ?side2 A5.out).mono ?_); (case side1 => repeat (first | exact (Kd.R_reads' HO162.out).2.2 | (with_reducible refine Kd.C_alloc ?_ _) | (with_reducible refine Kd.C_drewN ?_ _) | (with_reducible refine Kd.C_drew ?_))); (case side2 => exact (Kd.R_reads' HO162.out).2.1); rintro e w29 ⟨rfl, hb⟩; refine ⟨_, rfl, ?_⟩; have n0_ := Aside0.mk (Kd.R_below (lR HO162.out) hb); have n1_ := Aside0.mk (below_step lB hb); clear HO162; clear HB; have HO162 := n0_; have HB := n1_; clear n0_ n1_; (try clear hb); (try clear hb2); (try clear hk); (try clear hi)) | ((with_reducible refine gate_callee (f := 14) rfl ?_); refine gl_ (some 16) (Try.func14) #[.slice A0 l0.length c0] ?_; (with_reducible refine (laws_toXCellS.calls k _ _ l0 t164 _ ?side1 ?side2 A6.out).mono ?_); (case side1 => exact lC (Kd.C_below HR0.out HB.out)); (case side2 => exact HC0.out); rintro e w30 ⟨v165, rfl, ho0, hb⟩; refine ⟨_, rfl, ?_⟩; have n0_ := Aside0.mk (Kd.R_elder' (lR HO162.out) (Kd.R_base ho0) hb); have n1_ := Aside0.mk (Kd.R_lower (Kd.R_new' ho0 (Kd.R_lt (lR HO162.out))) (below_size lB)); have n2_ := Aside0.mk (below_step lB hb); clear HO162; clear HB; have HO162 := n0_; have HO166 := n1_; have HB := n2_; clear n0_ n1_ n2_; (try clear hb); (try clear hb2); (try clear hk); (try clear hi); (try clear ho0); obtain ⟨Ao31, co31, eo31⟩ := Kd.R_slice HO166.out; subst eo31) | ((with_reducible refine gate_callee (f := 15) rfl ?_); refine gl_ (some 18) (Try.func15) #[.slice Ao31 t164.length co31] ?_; (with_reducible refine (impl_GoodTree2.calls _ _ t164 t167 _ ?side1 ?side2 A7.out).mono ?_); (case side1 => repeat (first | exact (Kd.R_reads' HO166.out).2.2 | (with_reducible refine Kd.C_alloc ?_ _) | (with_reducible refine Kd.C_drewN ?_ _) | (with_reducible refine Kd.C_drew ?_))); (case side2 => exact (Kd.R_reads' HO166.out).2.1); rintro e w32 ⟨rfl, hb⟩; refine ⟨_, rfl, ?_⟩; have n0_ := Aside0.mk (Kd.R_below (lR HO162.out) hb); have n1_ := Aside0.mk (Kd.R_below (lR HO166.out) hb); have n2_ := Aside0.mk (below_step lB hb); clear HO162; clear HO166; clear HB; have HO162 := n0_; have HO166 := n1_; have HB := n2_; clear n0_ n1_ n2_; (try clear hb); (try clear hb2); (try clear hk); (try clear hi)) | ((with_reducible refine gate_callee (f := 14) rfl ?_); refine gl_ (some 24) (Try.func14) #[.slice A0 l0.length c0] ?_; (with_reducible refine (laws_toXCellS.calls k _ _ l0 t168 _ ?side1 ?side2 A15.out).mono ?_); (case side1 => exact lC (Kd.C_below HR0.out HB.out)); (case side2 => exact HC0.out); rintro e w33 ⟨v169, rfl, ho0, hb⟩; refine ⟨_, rfl, ?_⟩; have n0_ := Aside0.mk (Kd.R_elder' (lR HO162.out) (Kd.R_base ho0) hb); have n1_ := Aside0.mk (Kd.R_elder' (lR HO166.out) (Kd.R_base ho0) hb); have n2_ := Aside0.mk (Kd.R_lower (Kd.R_new' (Kd.R_new' ho0 (Kd.R_lt (lR HO162.out))) (Kd.R_lt (lR HO166.out))) (below_size lB)); have n3_ := Aside0.mk (below_step lB hb); clear HO162; clear HO166; clear HB; have HO162 := n0_; have HO166 := n1_; have HO170 := n2_; have HB := n3_; clear n0_ n1_ n2_ n3_; (try clear hb); (try clear hb2); (try clear hk); (try clear hi); (try clear ho0); obtain ⟨Ao34, co34, eo34⟩ := Kd.R_slice HO170.out; subst eo34) | ((with_reducible refine gate_callee (f := 16) rfl ?_); refine gl_ (some 25) (Try.func16) #[.slice Ao31 t164.length co31, .slice Ao34 t168.length co34] ?_; (with_reducible refine (laws_eqXCellS.calls k _ _ t164 _ _ t168 false _ ?side1 ?side2 ?side3 ?side4 A16.out).mono ?_); (case side1 => repeat (first | exact (Kd.R_reads' HO166.out).2.2 | (with_reducible refine Kd.C_alloc ?_ _) | (with_reducible refine Kd.C_drewN ?_ _) | (with_reducible refine Kd.C_drew ?_))); (case side2 => exact (Kd.R_reads' HO166.out).2.1); (case side3 => repeat (first | exact (Kd.R_reads' HO170.out).2.2 | (with_reducible refine Kd.C_alloc ?_ _) | (with_reducible refine Kd.C_drewN ?_ _) | (with_reducible refine Kd.C_drew ?_))); (case side4 => exact (Kd.R_reads' HO170.out).2.1); rintro e w35 ⟨rfl, hb⟩; refine ⟨_, rfl, ?_⟩; have n0_ := Aside0.mk (Kd.R_below (lR HO162.out) hb); have n1_ := Aside0.mk (Kd.R_below (lR HO166.out) hb); have n2_ := Aside0.mk (Kd.R_below (lR HO170.out) hb); have n3_ := Aside0.mk (below_step lB hb); clear HO162; clear HO166; clear HO170; clear HB; have HO162 := n0_; have HO166 := n1_; have HO170 := n2_; have HB := n3_; clear n0_ n1_ n2_ n3_; (try clear hb); (try clear hb2); (try clear hk); (try clear hi)))
    go_ret
    exact ⟨lE, lB⟩

end Go.Proofs.Ytgjojppbichaiaa.Q
