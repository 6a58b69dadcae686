-- Written by the program wip/tools/pr.py of this claim's session, over the kit's print.py.
import Derived.Test.YtgjojppbichaiaaQx0
namespace Go.Proofs.Ytgjojppbichaiaa.Q
open Go.RowKit Go.Proofs.YtgjojppbichaiaaW.PrintWords Go.Proofs.YtgjojppbichaiaaW.PrintLast Go.Proofs.YtgjojppbichaiaaW.PrintMore
attribute [local go_sem] max2_int min2_int max_two min_two max_three min_three max_four min_four   -- for this text's walks alone
set_option linter.unusedVariables false
set_option linter.unusedSimpArgs false
def impl_in.f (a0 : Int) (a1 : Int) (a2 : Int) : Option (Bool) := if a0 ≥ a1 then (some (decide (a0 ≤ a2))) else (some false)
set_option maxHeartbeats 8000000 in
set_option maxRecDepth 100000 in
theorem impl_in.calls (a0 : Int) (a1 : Int) (a2 : Int) (r : Bool) (w : World) (h : impl_in.f a0 a1 a2 = some r) :
  Calls Try.prog 58 #[.int .i64 a0, .int .i64 a1, .int .i64 a2] w fun e w' => e = .returned (.bool r) ∧ Drawn0 w w' := by
 have H : (if a0 ≥ a1 then (some (decide (a0 ≤ a2))) else (some false)) = some r := h
 clear h
 by_cases c4 : a0 ≥ a1
 ·rw [if_pos c4] at H
  have c4b0 : decide (a1 ≤ a0) = true := decide_eq_true c4
  clear c4
  obtain rfl := Option.some.inj H
  go_enter Try.func58, Try.ntmps58
  first | (go_wp2; go_ret; exact ⟨by first | rfl | (simp; done) | (simp [*]; done), by repeat (first | exact Drawn0.refl _ | apply Drawn0.step)⟩) | (exfalso; simp only [decide_eq_false_iff_not, decide_eq_true_eq] at *; omega)
 ·rw [if_neg c4] at H
  have c4b0 : decide (a1 ≤ a0) = false := decide_eq_false c4
  clear c4
  obtain rfl := Option.some.inj H
  go_enter Try.func58, Try.ntmps58
  first | (go_wp2; go_ret; exact ⟨by first | rfl | (simp; done) | (simp [*]; done), by repeat (first | exact Drawn0.refl _ | apply Drawn0.step)⟩) | (exfalso; simp only [decide_eq_false_iff_not, decide_eq_true_eq] at *; omega)
theorem info79 : (Try.prog.info? 79).map (fun i => (i.zero, i.size, i.bytes)) = some (some (.pointer none), 1, 8) := by kernel_rfl
def Xn.ptr (g : Nat) : Value := .pointer (some ⟨g, 0, none⟩)
def Xn.kP : Kd Nat := Kd.scalar Xn.ptr (fun _ => rfl)
mutual
/-- A tree lies at a block: its blocks are from base on, and such as S says. -/
def Xn.In (w : World) (base : Nat) (S : Nat → Prop) : S72 → Nat → Prop
  | ⟨k, n, kids⟩, g => (S g ∧ base ≤ g) ∧ ∃ (v : Value) (gs : List Nat), w.heap[g]? = some (.cells #[.int .i64 k, .int .i64 n, v] 135 (0, 0)) ∧ Xn.kP.R 79 w base S v gs ∧ Xn.Ins w base S kids gs
def Xn.Ins (w : World) (base : Nat) (S : Nat → Prop) : List S72 → List Nat → Prop
  | [], gs => gs = []
  | t :: ts, gs => ∃ g gs', gs = g :: gs' ∧ Xn.In w base S t g ∧ Xn.Ins w base S ts gs'
end
mutual
theorem Xn.In.move {w w1 : World} {base base1 : Nat} {S S1 : Nat → Prop} (hm : ∀ k, S k → base ≤ k → w1.heap[k]? = w.heap[k]?) (hS : ∀ k, S k → base ≤ k → S1 k) (hb : base1 ≤ base) : ∀ {t : S72} {g : Nat}, Xn.In w base S t g → Xn.In w1 base1 S1 t g
  | ⟨k, n, kids⟩, g, h => by
    unfold Xn.In at h ⊢
    obtain ⟨⟨h1, h1b⟩, v, gs, h2, h3, h4⟩ := h
    refine ⟨⟨hS g h1 h1b, by omega⟩, v, gs, (hm g h1 h1b).trans h2, ?_, h4.move hm hS hb⟩
    have h5 := Kd.R_bound h3
    exact Kd.R_lower (Kd.R_mono (Kd.R_move h5 (fun k hk => hm k hk.1 hk.2.1)) (fun k hk => hS k hk.1 hk.2.1)) hb
theorem Xn.Ins.move {w w1 : World} {base base1 : Nat} {S S1 : Nat → Prop} (hm : ∀ k, S k → base ≤ k → w1.heap[k]? = w.heap[k]?) (hS : ∀ k, S k → base ≤ k → S1 k) (hb : base1 ≤ base) : ∀ {ts : List S72} {gs : List Nat}, Xn.Ins w base S ts gs → Xn.Ins w1 base1 S1 ts gs
  | [], gs, h => by
    unfold Xn.Ins at h ⊢
    exact h
  | t :: ts, gs, h => by
    unfold Xn.Ins at h ⊢
    obtain ⟨g, gs', rfl, h1, h2⟩ := h
    exact ⟨g, gs', rfl, h1.move hm hS hb, h2.move hm hS hb⟩
end
theorem Xn.Ins.length {w : World} {base : Nat} {S : Nat → Prop} : ∀ {ts : List S72} {gs : List Nat}, Xn.Ins w base S ts gs → gs.length = ts.length
  | [], gs, h => by unfold Xn.Ins at h; subst h; rfl
  | t :: ts, gs, h => by
    unfold Xn.Ins at h
    obtain ⟨g, gs', rfl, _, h2⟩ := h
    simp [h2.length]
theorem Xn.Ins.snoc {w : World} {base : Nat} {S : Nat → Prop} {t : S72} {g : Nat} (ht : Xn.In w base S t g) : ∀ {ts : List S72} {gs : List Nat}, Xn.Ins w base S ts gs → Xn.Ins w base S (ts ++ [t]) (gs ++ [g])
  | [], gs, h => by
    unfold Xn.Ins at h
    subst h
    simp only [List.nil_append]
    unfold Xn.Ins
    exact ⟨g, [], rfl, ht, by unfold Xn.Ins; rfl⟩
  | t' :: ts, gs, h => by
    unfold Xn.Ins at h
    obtain ⟨g', gs', rfl, h1, h2⟩ := h
    simp only [List.cons_append]
    unfold Xn.Ins
    exact ⟨g', gs' ++ [g], rfl, h1, h2.snoc ht⟩
theorem Xn.Ins.at_ {w : World} {base : Nat} {S : Nat → Prop} : ∀ {ts : List S72} {gs : List Nat} (i : Nat) (t : S72), Xn.Ins w base S ts gs → ts[i]? = some t → ∃ g, gs[i]? = some g ∧ Xn.In w base S t g
  | [], _, i, t, _, ht => by simp at ht
  | t' :: ts, gs, i, t, h, ht => by
    unfold Xn.Ins at h
    obtain ⟨g', gs', rfl, h1, h2⟩ := h
    cases i with
    | zero => simp only [List.getElem?_cons_zero, Option.some.injEq] at ht; subst ht; exact ⟨g', rfl, h1⟩
    | succ i => simp only [List.getElem?_cons_succ] at ht ⊢; exact h2.at_ i t ht
theorem Xn.apart {v v1 : Value} {k n : Nat} (hat : v1.ownBlock = v.ownBlock ∨ ∃ b, v1.ownBlock = some b ∧ n ≤ b) (h : some k ≠ v.ownBlock ∧ k < n) : some k ≠ v1.ownBlock := by
  rcases hat with h1 | ⟨b, h1, h2⟩
  · rw [h1]; exact h.1
  · rw [h1]; intro he; injection he with he; omega
def Xn.opt (w : World) (base : Nat) : Option S72 → Option Addr → Prop
  | none, p => p = none
  | some t, p => ∃ g, p = some ⟨g, 0, none⟩ ∧ Xn.In w base (fun k => k < w.heap.size) t g
def Xn.kids (F : Int → Option (Option S72 × Int)) : Nat → Int → List S72 → Option (Option (List S72) × Int)
  | 0, a, acc => some (some acc, a)
  | m + 1, a, acc => (F a).bind fun r => match r.1 with
    | none => some (none, a)
    | some t => Xn.kids F m r.2 (acc ++ [t])
def Xn.rest (F : Int → Int → Option (Option S72 × Int)) (x : S76) (a lo hi : Int) (m : Nat) (q : Int) : Option (Option S72 × Int) :=
  (impl_in.f x.f1 lo hi).bind fun b => if b = true then (if q > 3 then some (none, a) else (Xn.kids (F q) m (wrap64 (a + 1)) []).bind fun r => some (r.1.map fun ks => (⟨x.f0, x.f1, ks⟩ : S72), r.2)) else some (none, a)
def Xn.node (F : Int → Int → Option (Option S72 × Int)) (x : S76) (a q : Int) : Option (Option S72 × Int) :=
  if x.f0 = 1 then Xn.rest F x a 0 99 0 q else if x.f0 = 2 then Xn.rest F x a 1 9 0 q else if x.f0 = 3 then Xn.rest F x a 0 0 2 q else if x.f0 = 5 then Xn.rest F x a 0 0 2 q
  else if x.f0 = 4 then Xn.rest F x a 0 9 2 q else if x.f0 = 6 then Xn.rest F x a 0 5 1 (wrap64 (q + 1)) else some (none, a)
def impl_parseNode.f : Nat → List S76 → Int → Int → Option (Option S72 × Int)
  | 0, _, _, _ => none
  | k + 1, l, a, q => if a ≥ (l.length : Int) then some (none, a) else if 0 ≤ a then Xn.node (fun q a => impl_parseNode.f k l a q) (rd_T76 l a) a q else none
set_option maxHeartbeats 8000000 in
set_option maxRecDepth 100000 in
theorem impl_parseNode.calls (k : Nat) : ∀ (A0 : Option Addr) (c0 : Nat) (l0 : List S76) (a1 a2 : Int) (r : Option S72 × Int) (w : World) (hr0 : Kd.C k76 w A0 l0.length l0) (hc0 : l0.length ≤ c0) (h : impl_parseNode.f k l0 a1 a2 = some r),
  Calls Try.prog 77 #[.slice A0 l0.length c0, .int .i64 a1, .int .i64 a2] w fun e w' => ∃ p, e = .returned (.tuple #[.pointer p, .int .i64 r.2]) ∧ Xn.opt w' w.heap.size r.1 p ∧ Below w.heap.size w w' := by
 induction k using Nat.strongRecOn with
 | _ k ih =>
 intro A0 c0 l0 a1 a2 r w hr0 hc0 h
 cases k with
 | zero => exact absurd h (by simp [impl_parseNode.f])
 | succ k =>
 simp only [impl_parseNode.f] at h
 have hu76 := Try.underlying76
 have hu135 := Try.underlying135
 have HR0 := Aside0.mk hr0
 have HC0 := Aside0.mk hc0
 clear hr0 hc0
 have HB := Aside0.mk (Below.refl w.heap.size w)
 by_cases c1 : a1 ≥ (l0.length : Int)
 ·rw [if_pos c1] at h
  obtain rfl := Option.some.inj h
  have c1b : decide ((l0.length : Int) ≤ a1) = true := decide_eq_true c1
  clear c1 h
  go_enter Try.func77, Try.ntmps77
  go_wp2
  refine bodyPost_ret (results_list (rs := [.tmp 6, .tmp 7]) rfl (by simp) (.tmp (.tmp .nil))) rfl ?_
  exact ⟨none, lE, rfl, lB⟩
 ·rw [if_neg c1] at h
  have c1b : decide ((l0.length : Int) ≤ a1) = false := decide_eq_false c1
  by_cases c2 : 0 ≤ a1
  ·rw [if_pos c2] at h
   have H := Aside0.mk h
   clear h
   have p1 : 0 ≤ (a1 : Int) := c2
   have q1 : a1 < (l0.length : Int) := by omega
   obtain ⟨ad, e1, hx0, hx1⟩ := at_T76 HR0.out a1 p1 q1
   cases e1
   replace p1 := eq_true p1
   replace q1 := eq_true q1
   clear c1 c2
   generalize rd_T76 l0 a1 = x at H hx0 hx1
   obtain ⟨x0, x1⟩ := x
   simp only at hx0 hx1
   go_enter Try.func77, Try.ntmps77
   go_upto_block 0 with (first | ((with_reducible refine gate_dst (N := 24) rfl ?_); refine bxe 24 #[.int .i64 x0, .int .i64 x1, .slice none 0 0] 135 ?_; intro gb hg w4 hbox hb; have n0_ := Aside0.mk (below_step lB hb); have n1_ := Aside0.mk (hbox); have n2_ := lG w hg; clear HB; have HB := n0_; have BK := n1_; have GE := n2_; clear n0_ n1_ n2_; clear hb hbox hg hx0 hx1; obtain ⟨hcz0, hfz0, hcz1, hfz1, hcz2, hfz2⟩ := bk3 BK.out))
   go_cut [2, 9, 10, 11] (fun v2 v9 v10 v11 wc => ∃ (lo hi q : Int) (m : Nat), v2 = .int .i64 q ∧ v9 = .int .i64 lo ∧ v10 = .int .i64 hi ∧ v11 = .int .i64 (m : Int) ∧ Aside0 (m ≤ 2) ∧ Aside0 (Xn.rest (fun q a => impl_parseNode.f k l0 a q) ⟨x0, x1⟩ a1 lo hi m q = some r) ∧ Aside0 (wc.heap[gb]? = some (.cells #[.int .i64 x0, .int .i64 x1, .slice none 0 0] 135 (0, 0))) ∧ Aside0 (Below w.heap.size w wc))
   case first =>
    have h := H.out
    clear H
    unfold Xn.node at h
    simp only at h
    by_cases d1 : x0 = 1
    ·rw [if_pos d1] at h
     subst d1
     have H' := Aside0.mk h
     clear h
     go_wp2
     go_meet
     case rel => exact ⟨0, 99, a2, 0, rfl, rfl, rfl, rfl, ⟨by omega⟩, H', ⟨lK BK.out⟩, ⟨lB⟩⟩
    ·rw [if_neg d1] at h
     have d1b : (x0 == 1) = false := beq_eq_false_iff_ne.mpr d1
     by_cases d2 : x0 = 2
     ·rw [if_pos d2] at h
      subst d2
      have H' := Aside0.mk h
      clear h
      go_wp2
      go_meet
      case rel => exact ⟨1, 9, a2, 0, rfl, rfl, rfl, rfl, ⟨by omega⟩, H', ⟨lK BK.out⟩, ⟨lB⟩⟩
     ·rw [if_neg d2] at h
      have d2b : (x0 == 2) = false := beq_eq_false_iff_ne.mpr d2
      by_cases d3 : x0 = 3
      ·rw [if_pos d3] at h
       subst d3
       have H' := Aside0.mk h
       clear h
       go_wp2
       go_meet
       case rel => exact ⟨0, 0, a2, 2, rfl, rfl, rfl, rfl, ⟨by omega⟩, H', ⟨lK BK.out⟩, ⟨lB⟩⟩
      ·rw [if_neg d3] at h
       have d3b : (x0 == 3) = false := beq_eq_false_iff_ne.mpr d3
       by_cases d5 : x0 = 5
       ·rw [if_pos d5] at h
        subst d5
        have H' := Aside0.mk h
        clear h
        go_wp2
        go_meet
        case rel => exact ⟨0, 0, a2, 2, rfl, rfl, rfl, rfl, ⟨by omega⟩, H', ⟨lK BK.out⟩, ⟨lB⟩⟩
       ·rw [if_neg d5] at h
        have d5b : (x0 == 5) = false := beq_eq_false_iff_ne.mpr d5
        by_cases d4 : x0 = 4
        ·rw [if_pos d4] at h
         subst d4
         have H' := Aside0.mk h
         clear h
         go_wp2
         go_meet
         case rel => exact ⟨0, 9, a2, 2, rfl, rfl, rfl, rfl, ⟨by omega⟩, H', ⟨lK BK.out⟩, ⟨lB⟩⟩
        ·rw [if_neg d4] at h
         have d4b : (x0 == 4) = false := beq_eq_false_iff_ne.mpr d4
         by_cases d6 : x0 = 6
         ·rw [if_pos d6] at h
          subst d6
          have H' := Aside0.mk h
          clear h
          go_wp2
          go_meet
          case rel => exact ⟨0, 5, wrap64 (a2 + 1), 1, rfl, rfl, rfl, rfl, ⟨by omega⟩, H', ⟨lK BK.out⟩, ⟨lB⟩⟩
         ·rw [if_neg d6] at h
          have d6b : (x0 == 6) = false := beq_eq_false_iff_ne.mpr d6
          obtain rfl := Option.some.inj h
          clear h
          go_wp2
          refine bodyPost_ret (results_list (rs := [.tmp 6, .tmp 7]) rfl (by simp) (.tmp (.tmp .nil))) rfl ?_
          exact ⟨none, lE, rfl, lB⟩
   case rest =>
    clear H
    try clear hcz0 hfz0 hcz1 hfz1 hcz2 hfz2
    clear BK HB
    obtain ⟨lo, hi, q, m, rfl, rfl, rfl, rfl, HM, HA, BK, HB⟩ := hcut
    have h := HA.out
    clear HA
    unfold Xn.rest at h
    simp only at h
    obtain ⟨b, A1, h⟩ := lO h
    obtain ⟨hcz0, hfz0, hcz1, hfz1, hcz2, hfz2⟩ := bk3 BK.out
    cases b with
    | false =>
     rw [if_neg (by decide)] at h
     obtain rfl := Option.some.inj h
     clear h
     go_wp2_with (first | (go_at_call 58; (with_reducible refine (impl_in.calls x1 lo hi false _ A1.out).mono ?_); rintro e w' ⟨rfl, ⟨nd, rfl⟩⟩))
     refine bodyPost_ret (results_list (rs := [.tmp 6, .tmp 7]) rfl (by simp) (.tmp (.tmp .nil))) rfl ?_
     exact ⟨none, lE, rfl, lB⟩
    | true =>
     rw [if_pos rfl] at h
     by_cases c3 : q > 3
     ·rw [if_pos c3] at h
      obtain rfl := Option.some.inj h
      clear h
      have c3b : decide (3 < q) = true := decide_eq_true c3
      clear c3
      go_wp2_with (first | (go_at_call 58; (with_reducible refine (impl_in.calls x1 lo hi true _ A1.out).mono ?_); rintro e w' ⟨rfl, ⟨nd, rfl⟩⟩))
      refine bodyPost_ret (results_list (rs := [.tmp 6, .tmp 7]) rfl (by simp) (.tmp (.tmp .nil))) rfl ?_
      exact ⟨none, lE, rfl, lB⟩
     ·rw [if_neg c3] at h
      have c3b : decide (3 < q) = false := decide_eq_false c3
      clear c3
      have H := Aside0.mk h
      clear h
      go_wp2_with (first | (go_at_call 58; (with_reducible refine (impl_in.calls x1 lo hi true _ A1.out).mono ?_); rintro e w' ⟨rfl, ⟨nd, rfl⟩⟩))
      clear hcz0 hfz0 hcz1 hfz1 hcz2 hfz2
      go_loopg [1, 61] (m + 1) (fun j v1 v61 wr => ∃ (i n : Nat) (a : Int) (ks : List S72) (v : Value) (gs : List Nat), v1 = .int .i64 a ∧ v61 = .int .i64 (i : Int) ∧ i + n = m ∧ j = n + 1 ∧ Aside0 (((Xn.kids (fun a => impl_parseNode.f k l0 a q) n a ks).bind fun r => some (r.1.map fun ks => (⟨x0, x1, ks⟩ : S72), r.2)) = some r) ∧ Aside0 (ks.length + n = m) ∧ Aside0 (wr.heap[gb]? = some (.cells #[.int .i64 x0, .int .i64 x1, v] 135 (0, 0))) ∧ Aside0 (Xn.kP.R 79 wr w.heap.size (fun k => k ≠ gb) v gs) ∧ Aside0 (Xn.Ins wr w.heap.size (fun k => k ≠ gb ∧ some k ≠ v.ownBlock ∧ k < wr.heap.size) ks gs) ∧ Aside0 (Below w.heap.size w wr))
      case atStart => exact ⟨0, m, wrap64 (a1 + 1), [], .slice none 0 0, [], rfl, rfl, by omega, rfl, H, ⟨by simp⟩, ⟨lK BK.out⟩, ⟨Kd.R_nil _ _ _ _ _⟩, ⟨by unfold Xn.Ins; rfl⟩, ⟨lB⟩⟩
      case round =>
       clear BK HB H
       obtain ⟨i, n, a, ks, v, gs, rfl, rfl, hin, hj, H, HL, BK, HO, HI, HB⟩ := hrel
       have hm2 := HM.out
       cases n with
       | zero =>
        have hlt : ¬ (i < m) := by omega
        have hd0 : decide (i < m) = false := decide_eq_false hlt
        have hd1 : decide ((i : Int) < (m : Int)) = false := decide_eq_false (by omega)
        have h := H.out
        clear H hlt
        simp only [Xn.kids, Option.bind_some, Option.some.injEq, Option.map_some] at h
        obtain rfl := h
        go_wp2
        refine bodyPost_ret (results_list (rs := [.tmp 6, .tmp 7]) rfl (by simp) (.tmp (.tmp .nil))) rfl ?_
        refine ⟨some ⟨gb, 0, none⟩, lE, ⟨gb, rfl, ?_⟩, lB⟩
        unfold Xn.In
        exact ⟨⟨blk_lt BK.out, GE.out⟩, v, gs, BK.out, Kd.R_mono (Kd.R_bound HO.out) (fun k hk => hk.2.2.1), HI.out.move (fun _ _ _ => rfl) (fun k hk _ => hk.2.2) (Nat.le_refl _)⟩
       | succ n =>
        have hlt : i < m := by omega
        have hd0 : decide (i < m) = true := decide_eq_true hlt
        have hd1 : decide ((i : Int) < (m : Int)) = true := decide_eq_true (by omega)
        have h := H.out
        clear H hlt
        simp only [Xn.kids] at h
        rw [Option.bind_assoc] at h
        obtain ⟨rr, A2, h⟩ := lO h
        obtain ⟨ro, rn⟩ := rr
        cases ro with
        | none =>
         simp only [Option.bind_some, Option.some.injEq, Option.map_none] at h
         obtain rfl := h
         go_wp2_with (first | (go_at_call 77; (with_reducible refine (ih k (by omega) _ _ l0 a q (none, rn) _ (Kd.C_below HR0.out HB.out) HC0.out A2.out).mono ?_); rintro e w5 ⟨p, rfl, hopt, hb⟩; obtain rfl := hopt; have n0_ := Aside0.mk (below_step lB hb); clear HB; have HB := n0_; clear n0_ hb))
         refine bodyPost_ret (results_list (rs := [.tmp 6, .tmp 7]) rfl (by simp) (.tmp (.tmp .nil))) rfl ?_
         exact ⟨none, lE, rfl, lB⟩
        | some t =>
         have H := Aside0.mk h
         clear h
         simp only at H
         go_wp2_with (first | (go_at_call 77; (with_reducible refine (ih k (by omega) _ _ l0 a q (some t, rn) _ (Kd.C_below HR0.out HB.out) HC0.out A2.out).mono ?_); rintro e w5 ⟨p, rfl, ⟨g, rfl, hin1⟩, hb⟩; have n0_ := Aside0.mk (below_step lB hb); have n1_ := Aside0.mk (blk_below BK.out hb); have n2_ := Aside0.mk (Kd.R_below HO.out hb); have n3_ := Aside0.mk (HI.out.move (S1 := fun k => k ≠ gb ∧ some k ≠ v.ownBlock ∧ k < w5.heap.size) (fun k hk _ => hb.block k hk.2.2) (fun k hk _ => ⟨hk.1, hk.2.1, Nat.lt_of_lt_of_le hk.2.2 hb.size⟩) (Nat.le_refl _)); have n4_ := Aside0.mk (hin1.move (base1 := w.heap.size) (S1 := fun k => k ≠ gb ∧ some k ≠ v.ownBlock ∧ k < w5.heap.size) (fun _ _ _ => rfl) (fun k hk hk2 => ⟨by have := blk_lt BK.out; omega, fun he => by have := Kd.R_lt HO.out k he.symm; omega, hk⟩) (below_size HB.out)); clear HB BK HO HI; have HB := n0_; have BK := n1_; have HO := n2_; have HI := n3_; have HN := n4_; clear n0_ n1_ n2_ n3_ n4_ hb hin1; obtain ⟨hcz0, hfz0, hcz1, hfz1, hcz2, hfz2⟩ := bk3 BK.out; obtain ⟨Ao, co, eo⟩ := Kd.R_slice HO.out; subst eo) | ((with_reducible refine gate_builtin (b := .append) (xs := #[.tmp 77, .tmp 79]) rfl ?_); at_builtin; refine Kd.R_append Xn.kP (w0 := w) w.heap.size rfl (.tmp 77) (.tmp 79) 133 79 (.pointer none) 8 rfl Try.underlying133 info79 rfl (by decide) (by omega) (.slice Ao gs.length co) gs g [Xn.ptr g] (fun k => k ≠ gb) (fun _ => False) rfl (by first | (go_simp; done) | (go_simp; rfl)) ?aP (fun _ hk => hk.elim) ?aF ?aO ?aB ?aS ?aL ?_; (case aP => exact rfl); (case aF => intro k_ hk_; have := blk_lt BK.out; omega); (case aO => exact HO.out); (case aB => exact HB.out); (case aS => exact below_size HB.out); (case aL => have := HI.out.length; have := HL.out; omega); intro v1 w6 ho hb hg hat; have hS : ∀ k, k ≠ gb ∧ some k ≠ (.slice Ao gs.length co : Value).ownBlock ∧ k < w5.heap.size → k ≠ gb ∧ some k ≠ v1.ownBlock ∧ k < w6.heap.size := (fun k hk => ⟨hk.1, Xn.apart hat hk.2, Nat.lt_of_lt_of_le hk.2.2 hg.size⟩); have n0_ := Aside0.mk (blk_grown BK.out hg (Kd.R_ne HO.out BK.out (by decide))); have n1_ := Aside0.mk (Xn.Ins.snoc (HN.out.move (fun k hk _ => hg.block k hk.2.2 hk.2.1) (fun k hk _ => hS k hk) (Nat.le_refl _)) (HI.out.move (fun k hk _ => hg.block k hk.2.2 hk.2.1) (fun k hk _ => hS k hk) (Nat.le_refl _))); have n2_ := Aside0.mk ho; have n3_ := Aside0.mk hb; clear hS hg hat ho hb BK HI HN HO HB hcz0 hfz0 hcz1 hfz1 hcz2 hfz2; have BK := n0_; have HI := n1_; have HO := n2_; have HB := n3_; clear n0_ n1_ n2_ n3_; obtain ⟨hcz0, hfz0, hcz1, hfz1, hcz2, hfz2⟩ := bk3 BK.out; obtain ⟨Ap, cp, ep⟩ := Kd.R_slice HO.out; subst ep) | ((with_reducible refine gate_store (t := 133) (p := 82) rfl ?_); refine store_event (t := 133) (p := 82) (v := ?vo_w7) (w1 := (w6.setCell ⟨gb, 2, none⟩ (.slice Ap (gs ++ [g]).length cp))) ?hg ?ho ?hn ?hr ?_; (case ho => rfl); (case hg => rfl); (case hn => rfl); (case hr => first | (go_simp; done) | (go_simp; rfl)); intro w7 hw; have n0_ : Aside0 (w7.heap[gb]? = some (.cells #[.int .i64 x0, .int .i64 x1, .slice Ap (gs ++ [g]).length cp] 135 (0, 0))) := ⟨by rw [hw]; exact blk_put (cs := #[.int .i64 x0, .int .i64 x1, .slice Ao gs.length co]) BK.out 2 _ rfl⟩; have n1_ : Aside0 (Xn.kP.R 79 w7 w.heap.size (fun k => k ≠ gb) (.slice Ap (gs ++ [g]).length cp) (gs ++ [g])) := ⟨by rw [hw]; exact Kd.R_far (p := ⟨gb, 2, none⟩) HO.out (fun _ hk => hk) _⟩; have n2_ : Aside0 (Xn.Ins w7 w.heap.size (fun k => k ≠ gb ∧ some k ≠ (.slice Ap (gs ++ [g]).length cp : Value).ownBlock ∧ k < w7.heap.size) (ks ++ [t]) (gs ++ [g])) := ⟨by rw [hw]; exact HI.out.move (fun k hk _ => Below.heap_setCell w6 ⟨gb, 2, none⟩ _ k hk.1) (fun k hk _ => ⟨hk.1, hk.2.1, by simpa [World.setCell] using hk.2.2⟩) (Nat.le_refl _)⟩; have n3_ : Aside0 (Below w.heap.size w w7) := ⟨by rw [hw]; exact below_set HB.out GE.out⟩; clear hw BK HO HI HB hcz0 hfz0 hcz1 hfz1 hcz2 hfz2; have BK := n0_; have HO := n1_; have HI := n2_; have HB := n3_; clear n0_ n1_ n2_ n3_))
         go_roundg (n + 1)
         case measure => omega
         case rel => exact ⟨i + 1, n, rn, ks ++ [t], _, gs ++ [g], rfl, by go_num, by omega, rfl, H, ⟨by have := HL.out; simp; omega⟩, ⟨BK.out⟩, ⟨HO.out⟩, ⟨HI.out⟩, ⟨HB.out⟩⟩
  ·rw [if_neg c2] at h
   exact absurd h (by simp)
def impl_parseTree.f (l : List S76) : Option (Option S72 × Bool) := (impl_in.f (l.length : Int) 1 30).bind fun b => if b = true then (impl_parseNode.f 40 l 0 0).bind fun r => some (r.1, r.1.isSome && (r.2 == (l.length : Int))) else some (none, false)
set_option maxHeartbeats 8000000 in
set_option maxRecDepth 100000 in
theorem impl_parseTree.calls (A0 : Option Addr) (c0 : Nat) (l0 : List S76) (r : Option S72 × Bool) (w : World) (hr0 : Kd.C k76 w A0 l0.length l0) (hc0 : l0.length ≤ c0) (h : impl_parseTree.f l0 = some r) :
  Calls Try.prog 46 #[.slice A0 l0.length c0] w fun e w' => ∃ p, e = .returned (.tuple #[.pointer p, .bool r.2]) ∧ Xn.opt w' w.heap.size r.1 p ∧ Below w.heap.size w w' := by
 unfold impl_parseTree.f at h
 have HR0 := Aside0.mk hr0
 have HC0 := Aside0.mk hc0
 have HB := Aside0.mk (Below.refl w.heap.size w)
 clear hr0 hc0
 obtain ⟨b, A1, h⟩ := lO h
 cases b with
 | false =>
  rw [if_neg (by decide)] at h
  obtain rfl := Option.some.inj h
  clear h
  go_enter Try.func46, Try.ntmps46
  go_wp2_with (first | (go_at_call 58; (with_reducible refine (impl_in.calls l0.length 1 30 false _ A1.out).mono ?_); rintro e w' ⟨rfl, ⟨nd, rfl⟩⟩))
  refine bodyPost_ret (results_list (rs := [.tmp 2, .tmp 3]) rfl (by simp) (.tmp (.tmp .nil))) rfl ?_
  exact ⟨none, lE, rfl, lB⟩
 | true =>
  rw [if_pos rfl] at h
  obtain ⟨rr, A2, h⟩ := lO h
  obtain rfl := Option.some.inj h
  clear h
  obtain ⟨ro, rn⟩ := rr
  cases ro with
  | none =>
   go_enter Try.func46, Try.ntmps46
   go_wp2_with (first | (go_at_call 58; (with_reducible refine (impl_in.calls l0.length 1 30 true _ A1.out).mono ?_); rintro e w' ⟨rfl, ⟨nd, rfl⟩⟩) | (go_at_call 77; (with_reducible refine (impl_parseNode.calls 40 _ _ l0 0 0 (none, rn) _ (lC HR0.out) HC0.out A2.out).mono ?_); rintro e w5 ⟨p, rfl, hopt, hb⟩; obtain rfl := hopt; have n0_ := Aside0.mk (below_step lB hb); clear HB; have HB := n0_; clear n0_ hb))
   refine bodyPost_ret (results_list (rs := [.tmp 2, .tmp 3]) rfl (by simp) (.tmp (.tmp .nil))) rfl ?_
   exact ⟨none, lE, rfl, lB⟩
  | some t =>
   cases hn : (rn == (l0.length : Int)) with
   | false =>
    go_enter Try.func46, Try.ntmps46
    go_wp2_with (first | (go_at_call 58; (with_reducible refine (impl_in.calls l0.length 1 30 true _ A1.out).mono ?_); rintro e w' ⟨rfl, ⟨nd, rfl⟩⟩) | (go_at_call 77; (with_reducible refine (impl_parseNode.calls 40 _ _ l0 0 0 (some t, rn) _ (lC HR0.out) HC0.out A2.out).mono ?_); rintro e w5 ⟨p, rfl, ⟨g, rfl, hin1⟩, hb⟩; have n0_ := Aside0.mk (below_step lB hb); have n1_ := Aside0.mk hin1; clear HB; have HB := n0_; have HI := n1_; clear n0_ n1_ hb hin1))
    refine bodyPost_ret (results_list (rs := [.tmp 2, .tmp 3]) rfl (by simp) (.tmp (.tmp .nil))) rfl ?_
    exact ⟨_, lE, ⟨g, rfl, HI.out.move (fun _ _ _ => rfl) (fun _ hk _ => hk) (Nat.le_refl _)⟩, lB⟩
   | true =>
    go_enter Try.func46, Try.ntmps46
    go_wp2_with (first | (go_at_call 58; (with_reducible refine (impl_in.calls l0.length 1 30 true _ A1.out).mono ?_); rintro e w' ⟨rfl, ⟨nd, rfl⟩⟩) | (go_at_call 77; (with_reducible refine (impl_parseNode.calls 40 _ _ l0 0 0 (some t, rn) _ (lC HR0.out) HC0.out A2.out).mono ?_); rintro e w5 ⟨p, rfl, ⟨g, rfl, hin1⟩, hb⟩; have n0_ := Aside0.mk (below_step lB hb); have n1_ := Aside0.mk hin1; clear HB; have HB := n0_; have HI := n1_; clear n0_ n1_ hb hin1))
    refine bodyPost_ret (results_list (rs := [.tmp 2, .tmp 3]) rfl (by simp) (.tmp (.tmp .nil))) rfl ?_
    exact ⟨_, lE, ⟨g, rfl, HI.out.move (fun _ _ _ => rfl) (fun _ hk _ => hk) (Nat.le_refl _)⟩, lB⟩
def impl_GoodTree2.f (l : List S76) : Option Bool := (impl_parseTree.f l).bind fun r => some r.2
set_option maxHeartbeats 8000000 in
set_option maxRecDepth 100000 in
theorem impl_GoodTree2.calls (A0 : Option Addr) (c0 : Nat) (l0 : List S76) (r : Bool) (w : World) (hr0 : Kd.C k76 w A0 l0.length l0) (hc0 : l0.length ≤ c0) (h : impl_GoodTree2.f l0 = some r) :
  Calls Try.prog 15 #[.slice A0 l0.length c0] w fun e w' => e = .returned (.bool r) ∧ Below w.heap.size w w' := by
 unfold impl_GoodTree2.f at h
 have HR0 := Aside0.mk hr0
 have HC0 := Aside0.mk hc0
 have HB := Aside0.mk (Below.refl w.heap.size w)
 clear hr0 hc0
 obtain ⟨rr, A1, h⟩ := lO h
 obtain rfl := Option.some.inj h
 clear h
 go_enter Try.func15, Try.ntmps15
 go_wp2_with (first | (go_at_call 46; (with_reducible refine (impl_parseTree.calls _ _ l0 rr _ (lC HR0.out) HC0.out A1.out).mono ?_); rintro e w5 ⟨p, rfl, hopt, hb⟩; clear hopt; have n0_ := Aside0.mk (below_step lB hb); clear HB; have HB := n0_; clear n0_ hb))
 go_ret
 exact ⟨rfl, lB⟩
def impl_isLined_1.f (a0_0 : Int) (a0_1 : Int) (a0_2 : Int) (a0_3 : Int) (a1_0 : Int) : Option (Bool) := (impl_in.f a0_0 0 a1_0).bind fun t102 => (if t102 = true then ((impl_in.f a0_1 a0_0 a1_0).bind fun t103 => (if t103 = true then ((impl_in.f a0_3 0 a1_0).bind fun t104 => (if t104 = true then ((impl_in.f a0_2 0 9).bind fun t105 => (some (!t105))) else (some true))) else (some true))) else (some true))
set_option maxHeartbeats 8000000 in
set_option maxRecDepth 100000 in
theorem impl_isLined_1.calls (a0_0 : Int) (a0_1 : Int) (a0_2 : Int) (a0_3 : Int) (g1 : Nat) (a1_0 : Int) (r : Bool) (w : World) (hb1 : w.heap[g1]? = some (.cells #[.int .i64 a1_0] 3 (0, 0))) (h : impl_isLined_1.f a0_0 a0_1 a0_2 a0_3 a1_0 = some r) :
  Calls Try.prog 81 #[.agg #[.int .i64 a0_0, .int .i64 a0_1, .int .i64 a0_2, .int .i64 a0_3], .pointer (some ⟨g1, 0, none⟩)] w fun e w' => e = .returned (.bool r) ∧ Below w.heap.size w w' := by
 have hu63 := Try.underlying63
 have BK1 := Aside0.mk hb1
 clear hb1
 have HB := Aside0.mk (Below.refl w.heap.size w)
 have H : ((impl_in.f a0_0 0 a1_0).bind fun t102 => (if t102 = true then ((impl_in.f a0_1 a0_0 a1_0).bind fun t103 => (if t103 = true then ((impl_in.f a0_3 0 a1_0).bind fun t104 => (if t104 = true then ((impl_in.f a0_2 0 9).bind fun t105 => (some (!t105))) else (some true))) else (some true))) else (some true))) = some r := h
 clear h
 replace H := lO H
 obtain ⟨t102, A3, H⟩ := H
 by_cases c4 : t102 = true
 ·subst c4
  rw [if_pos rfl] at H
  replace H := lO H
  obtain ⟨t103, A5, H⟩ := H
  by_cases c6 : t103 = true
  ·subst c6
   rw [if_pos rfl] at H
   replace H := lO H
   obtain ⟨t104, A7, H⟩ := H
   by_cases c8 : t104 = true
   ·subst c8
    rw [if_pos rfl] at H
    replace H := lO H
    obtain ⟨t105, A9, H⟩ := H
    obtain rfl := Option.some.inj H
    go_enter Try.func81, Try.ntmps81
    go_wp2_with (first | ((with_reducible refine gate_dst (N := 2) rfl ?_); refine bxe 2 #[.int .i64 a0_0, .int .i64 a0_1, .int .i64 a0_2, .int .i64 a0_3] 63 ?_; intro gb101 hg w10 hbox hb; have n0_ := Aside0.mk (blk_below (lK BK1.out) hb); have n1_ := Aside0.mk (below_step lB hb); have n2_ := Aside0.mk (hbox); have n3_ := lG w hg; have n4_ := lG w hg; have n5_ := Aside0.mk ((by rw [hg]; exact Nat.ne_of_lt (blk_lt (lK BK1.out)) : g1 ≠ gb101)); have n6_ := Aside0.mk ((by rw [hg]; exact Nat.ne_of_gt (blk_lt (lK BK1.out)) : gb101 ≠ g1)); clear BK1; clear HB; have BK1 := n0_; have HB := n1_; have BK101 := n2_; have GW101 := n3_; have GE101 := n4_; have NB1_101 := n5_; have NB101_1 := n6_; clear n0_ n1_ n2_ n3_ n4_ n5_ n6_; clear hb hbox hg; have hnb11 := NB101_1.out; have hnc11 := NB1_101.out; obtain ⟨hcz12_0, hfz12_0, hcz12_1, hfz12_1, hcz12_2, hfz12_2, hcz12_3, hfz12_3⟩ := bk4 BK101.out; obtain ⟨hcz13_0, hfz13_0⟩ := bk1 BK1.out) | ((with_reducible refine gate_callee (f := 58) rfl ?_); refine gl_ (some 7) (Try.func58) #[.int .i64 a0_0, .int .i64 0, .int .i64 a1_0] ?_; (with_reducible refine (impl_in.calls a0_0 0 a1_0 true _ A3.out).mono ?_); rintro e w' ⟨rfl, ⟨nd, rfl⟩⟩; refine ⟨_, rfl, ?_⟩) | (go_at_call 58; (with_reducible refine (impl_in.calls a0_1 a0_0 a1_0 true _ A5.out).mono ?_); rintro e w' ⟨rfl, ⟨nd, rfl⟩⟩) | (go_at_call 58; (with_reducible refine (impl_in.calls a0_3 0 a1_0 true _ A7.out).mono ?_); rintro e w' ⟨rfl, ⟨nd, rfl⟩⟩) | (go_at_call 58; (with_reducible refine (impl_in.calls a0_2 0 9 t105 _ A9.out).mono ?_); rintro e w' ⟨rfl, ⟨nd, rfl⟩⟩))
    go_ret
    exact ⟨lE, lB⟩
   ·replace c8 := Bool.eq_false_iff.mpr c8
    subst c8
    rw [if_neg (show ¬ (false = true) by decide)] at H
    obtain rfl := Option.some.inj H
    go_enter Try.func81, Try.ntmps81
    go_wp2_with (first | ((with_reducible refine gate_dst (N := 2) rfl ?_); refine bxe 2 #[.int .i64 a0_0, .int .i64 a0_1, .int .i64 a0_2, .int .i64 a0_3] 63 ?_; intro gb101 hg w14 hbox hb; have n0_ := Aside0.mk (blk_below (lK BK1.out) hb); have n1_ := Aside0.mk (below_step lB hb); have n2_ := Aside0.mk (hbox); have n3_ := lG w hg; have n4_ := lG w hg; have n5_ := Aside0.mk ((by rw [hg]; exact Nat.ne_of_lt (blk_lt (lK BK1.out)) : g1 ≠ gb101)); have n6_ := Aside0.mk ((by rw [hg]; exact Nat.ne_of_gt (blk_lt (lK BK1.out)) : gb101 ≠ g1)); clear BK1; clear HB; have BK1 := n0_; have HB := n1_; have BK101 := n2_; have GW101 := n3_; have GE101 := n4_; have NB1_101 := n5_; have NB101_1 := n6_; clear n0_ n1_ n2_ n3_ n4_ n5_ n6_; clear hb hbox hg; have hnb15 := NB101_1.out; have hnc15 := NB1_101.out; obtain ⟨hcz16_0, hfz16_0, hcz16_1, hfz16_1, hcz16_2, hfz16_2, hcz16_3, hfz16_3⟩ := bk4 BK101.out; obtain ⟨hcz17_0, hfz17_0⟩ := bk1 BK1.out) | ((with_reducible refine gate_callee (f := 58) rfl ?_); refine gl_ (some 7) (Try.func58) #[.int .i64 a0_0, .int .i64 0, .int .i64 a1_0] ?_; (with_reducible refine (impl_in.calls a0_0 0 a1_0 true _ A3.out).mono ?_); rintro e w' ⟨rfl, ⟨nd, rfl⟩⟩; refine ⟨_, rfl, ?_⟩) | (go_at_call 58; (with_reducible refine (impl_in.calls a0_1 a0_0 a1_0 true _ A5.out).mono ?_); rintro e w' ⟨rfl, ⟨nd, rfl⟩⟩) | (go_at_call 58; (with_reducible refine (impl_in.calls a0_3 0 a1_0 false _ A7.out).mono ?_); rintro e w' ⟨rfl, ⟨nd, rfl⟩⟩))
    go_ret
    exact ⟨lE, lB⟩
  ·replace c6 := Bool.eq_false_iff.mpr c6
   subst c6
   rw [if_neg (show ¬ (false = true) by decide)] at H
   obtain rfl := Option.some.inj H
   go_enter Try.func81, Try.ntmps81
   go_wp2_with (first | ((with_reducible refine gate_dst (N := 2) rfl ?_); refine bxe 2 #[.int .i64 a0_0, .int .i64 a0_1, .int .i64 a0_2, .int .i64 a0_3] 63 ?_; intro gb101 hg w18 hbox hb; have n0_ := Aside0.mk (blk_below (lK BK1.out) hb); have n1_ := Aside0.mk (below_step lB hb); have n2_ := Aside0.mk (hbox); have n3_ := lG w hg; have n4_ := lG w hg; have n5_ := Aside0.mk ((by rw [hg]; exact Nat.ne_of_lt (blk_lt (lK BK1.out)) : g1 ≠ gb101)); have n6_ := Aside0.mk ((by rw [hg]; exact Nat.ne_of_gt (blk_lt (lK BK1.out)) : gb101 ≠ g1)); clear BK1; clear HB; have BK1 := n0_; have HB := n1_; have BK101 := n2_; have GW101 := n3_; have GE101 := n4_; have NB1_101 := n5_; have NB101_1 := n6_; clear n0_ n1_ n2_ n3_ n4_ n5_ n6_; clear hb hbox hg; have hnb19 := NB101_1.out; have hnc19 := NB1_101.out; obtain ⟨hcz20_0, hfz20_0, hcz20_1, hfz20_1, hcz20_2, hfz20_2, hcz20_3, hfz20_3⟩ := bk4 BK101.out; obtain ⟨hcz21_0, hfz21_0⟩ := bk1 BK1.out) | ((with_reducible refine gate_callee (f := 58) rfl ?_); refine gl_ (some 7) (Try.func58) #[.int .i64 a0_0, .int .i64 0, .int .i64 a1_0] ?_; (with_reducible refine (impl_in.calls a0_0 0 a1_0 true _ A3.out).mono ?_); rintro e w' ⟨rfl, ⟨nd, rfl⟩⟩; refine ⟨_, rfl, ?_⟩) | (go_at_call 58; (with_reducible refine (impl_in.calls a0_1 a0_0 a1_0 false _ A5.out).mono ?_); rintro e w' ⟨rfl, ⟨nd, rfl⟩⟩))
   go_ret
   exact ⟨lE, lB⟩
 ·replace c4 := Bool.eq_false_iff.mpr c4
  subst c4
  rw [if_neg (show ¬ (false = true) by decide)] at H
  obtain rfl := Option.some.inj H
  go_enter Try.func81, Try.ntmps81
  go_wp2_with (first | ((with_reducible refine gate_dst (N := 2) rfl ?_); refine bxe 2 #[.int .i64 a0_0, .int .i64 a0_1, .int .i64 a0_2, .int .i64 a0_3] 63 ?_; intro gb101 hg w22 hbox hb; have n0_ := Aside0.mk (blk_below (lK BK1.out) hb); have n1_ := Aside0.mk (below_step lB hb); have n2_ := Aside0.mk (hbox); have n3_ := lG w hg; have n4_ := lG w hg; have n5_ := Aside0.mk ((by rw [hg]; exact Nat.ne_of_lt (blk_lt (lK BK1.out)) : g1 ≠ gb101)); have n6_ := Aside0.mk ((by rw [hg]; exact Nat.ne_of_gt (blk_lt (lK BK1.out)) : gb101 ≠ g1)); clear BK1; clear HB; have BK1 := n0_; have HB := n1_; have BK101 := n2_; have GW101 := n3_; have GE101 := n4_; have NB1_101 := n5_; have NB101_1 := n6_; clear n0_ n1_ n2_ n3_ n4_ n5_ n6_; clear hb hbox hg; have hnb23 := NB101_1.out; have hnc23 := NB1_101.out; obtain ⟨hcz24_0, hfz24_0, hcz24_1, hfz24_1, hcz24_2, hfz24_2, hcz24_3, hfz24_3⟩ := bk4 BK101.out; obtain ⟨hcz25_0, hfz25_0⟩ := bk1 BK1.out) | ((with_reducible refine gate_callee (f := 58) rfl ?_); refine gl_ (some 7) (Try.func58) #[.int .i64 a0_0, .int .i64 0, .int .i64 a1_0] ?_; (with_reducible refine (impl_in.calls a0_0 0 a1_0 false _ A3.out).mono ?_); rintro e w' ⟨rfl, ⟨nd, rfl⟩⟩; refine ⟨_, rfl, ?_⟩))
  go_ret
  exact ⟨lE, lB⟩
def impl_guardAt_1.f (a0_0 : Int) (a0_1 : Int) (a0_2 : Int) (a0_3 : Int) (a1_0 : Int) (a2_0 : Int) : Option (Bool) := if a1_0 ≥ a0_0 then (if a1_0 < a0_1 then (if a0_2 = 0 then (some true) else (some (a0_2 == a2_0))) else (some false)) else (some false)
set_option maxHeartbeats 8000000 in
set_option maxRecDepth 100000 in
theorem impl_guardAt_1.calls (a0_0 : Int) (a0_1 : Int) (a0_2 : Int) (a0_3 : Int) (g1 : Nat) (a1_0 : Int) (g2 : Nat) (a2_0 : Int) (r : Bool) (w : World) (hb1 : w.heap[g1]? = some (.cells #[.int .i64 a1_0] 3 (0, 0))) (hb2 : w.heap[g2]? = some (.cells #[.int .i64 a2_0] 3 (0, 0))) (h : impl_guardAt_1.f a0_0 a0_1 a0_2 a0_3 a1_0 a2_0 = some r) :
  Calls Try.prog 85 #[.agg #[.int .i64 a0_0, .int .i64 a0_1, .int .i64 a0_2, .int .i64 a0_3], .pointer (some ⟨g1, 0, none⟩), .pointer (some ⟨g2, 0, none⟩)] w fun e w' => e = .returned (.bool r) ∧ Below w.heap.size w w' := by
 have hu63 := Try.underlying63
 have BK1 := Aside0.mk hb1
 clear hb1
 have BK2 := Aside0.mk hb2
 clear hb2
 have HB := Aside0.mk (Below.refl w.heap.size w)
 have H : (if a1_0 ≥ a0_0 then (if a1_0 < a0_1 then (if a0_2 = 0 then (some true) else (some (a0_2 == a2_0))) else (some false)) else (some false)) = some r := h
 clear h
 by_cases c4 : a1_0 ≥ a0_0
 ·rw [if_pos c4] at H
  have c4b0 : decide (a0_0 ≤ a1_0) = true := decide_eq_true c4
  clear c4
  by_cases c5 : a1_0 < a0_1
  ·rw [if_pos c5] at H
   have c5b0 : decide (a1_0 < a0_1) = true := decide_eq_true c5
   clear c5
   by_cases c6 : a0_2 = 0
   ·rw [if_pos c6] at H
    have c6b0 : (a0_2 == 0) = true := beq_iff_eq.mpr c6
    have c6b1 : (a0_2 != 0) = false := bne_eq_false_iff_eq.mpr c6
    clear c6
    obtain rfl := Option.some.inj H
    go_enter Try.func85, Try.ntmps85
    go_wp2_with (first | ((with_reducible refine gate_dst (N := 3) rfl ?_); refine bxe 3 #[.int .i64 a0_0, .int .i64 a0_1, .int .i64 a0_2, .int .i64 a0_3] 63 ?_; intro gb106 hg w7 hbox hb; have n0_ := Aside0.mk (blk_below (lK BK1.out) hb); have n1_ := Aside0.mk (blk_below (lK BK2.out) hb); have n2_ := Aside0.mk (below_step lB hb); have n3_ := Aside0.mk (hbox); have n4_ := lG w hg; have n5_ := lG w hg; have n6_ := Aside0.mk ((by rw [hg]; exact Nat.ne_of_lt (blk_lt (lK BK1.out)) : g1 ≠ gb106)); have n7_ := Aside0.mk ((by rw [hg]; exact Nat.ne_of_gt (blk_lt (lK BK1.out)) : gb106 ≠ g1)); have n8_ := Aside0.mk ((by rw [hg]; exact Nat.ne_of_lt (blk_lt (lK BK2.out)) : g2 ≠ gb106)); have n9_ := Aside0.mk ((by rw [hg]; exact Nat.ne_of_gt (blk_lt (lK BK2.out)) : gb106 ≠ g2)); clear BK1; clear BK2; clear HB; have BK1 := n0_; have BK2 := n1_; have HB := n2_; have BK106 := n3_; have GW106 := n4_; have GE106 := n5_; have NB1_106 := n6_; have NB106_1 := n7_; have NB2_106 := n8_; have NB106_2 := n9_; clear n0_ n1_ n2_ n3_ n4_ n5_ n6_ n7_ n8_ n9_; clear hb hbox hg; have hnb8 := NB1_106.out; have hnc8 := NB106_1.out; obtain ⟨hcz9_0, hfz9_0⟩ := bk1 BK1.out; have hnb10 := NB106_2.out; have hnc10 := NB2_106.out; obtain ⟨hcz11_0, hfz11_0, hcz11_1, hfz11_1, hcz11_2, hfz11_2, hcz11_3, hfz11_3⟩ := bk4 BK106.out))
    go_ret
    exact ⟨lE, lB⟩
   ·rw [if_neg c6] at H
    have c6b0 : (a0_2 == 0) = false := beq_eq_false_iff_ne.mpr c6
    have c6b1 : (a0_2 != 0) = true := bne_iff_ne.mpr c6
    obtain rfl := Option.some.inj H
    go_enter Try.func85, Try.ntmps85
    go_wp2_with (first | ((with_reducible refine gate_dst (N := 3) rfl ?_); refine bxe 3 #[.int .i64 a0_0, .int .i64 a0_1, .int .i64 a0_2, .int .i64 a0_3] 63 ?_; intro gb106 hg w12 hbox hb; have n0_ := Aside0.mk (blk_below (lK BK1.out) hb); have n1_ := Aside0.mk (blk_below (lK BK2.out) hb); have n2_ := Aside0.mk (below_step lB hb); have n3_ := Aside0.mk (hbox); have n4_ := lG w hg; have n5_ := lG w hg; have n6_ := Aside0.mk ((by rw [hg]; exact Nat.ne_of_lt (blk_lt (lK BK1.out)) : g1 ≠ gb106)); have n7_ := Aside0.mk ((by rw [hg]; exact Nat.ne_of_gt (blk_lt (lK BK1.out)) : gb106 ≠ g1)); have n8_ := Aside0.mk ((by rw [hg]; exact Nat.ne_of_lt (blk_lt (lK BK2.out)) : g2 ≠ gb106)); have n9_ := Aside0.mk ((by rw [hg]; exact Nat.ne_of_gt (blk_lt (lK BK2.out)) : gb106 ≠ g2)); clear BK1; clear BK2; clear HB; have BK1 := n0_; have BK2 := n1_; have HB := n2_; have BK106 := n3_; have GW106 := n4_; have GE106 := n5_; have NB1_106 := n6_; have NB106_1 := n7_; have NB2_106 := n8_; have NB106_2 := n9_; clear n0_ n1_ n2_ n3_ n4_ n5_ n6_ n7_ n8_ n9_; clear hb hbox hg; have hnb13 := NB1_106.out; have hnc13 := NB106_1.out; obtain ⟨hcz14_0, hfz14_0⟩ := bk1 BK1.out; have hnb15 := NB106_2.out; have hnc15 := NB2_106.out; obtain ⟨hcz16_0, hfz16_0, hcz16_1, hfz16_1, hcz16_2, hfz16_2, hcz16_3, hfz16_3⟩ := bk4 BK106.out; obtain ⟨hcz17_0, hfz17_0⟩ := bk1 BK2.out))
    go_ret
    exact ⟨lE, lB⟩
  ·rw [if_neg c5] at H
   have c5b0 : decide (a1_0 < a0_1) = false := decide_eq_false c5
   clear c5
   obtain rfl := Option.some.inj H
   go_enter Try.func85, Try.ntmps85
   go_wp2_with (first | ((with_reducible refine gate_dst (N := 3) rfl ?_); refine bxe 3 #[.int .i64 a0_0, .int .i64 a0_1, .int .i64 a0_2, .int .i64 a0_3] 63 ?_; intro gb106 hg w18 hbox hb; have n0_ := Aside0.mk (blk_below (lK BK1.out) hb); have n1_ := Aside0.mk (blk_below (lK BK2.out) hb); have n2_ := Aside0.mk (below_step lB hb); have n3_ := Aside0.mk (hbox); have n4_ := lG w hg; have n5_ := lG w hg; have n6_ := Aside0.mk ((by rw [hg]; exact Nat.ne_of_lt (blk_lt (lK BK1.out)) : g1 ≠ gb106)); have n7_ := Aside0.mk ((by rw [hg]; exact Nat.ne_of_gt (blk_lt (lK BK1.out)) : gb106 ≠ g1)); have n8_ := Aside0.mk ((by rw [hg]; exact Nat.ne_of_lt (blk_lt (lK BK2.out)) : g2 ≠ gb106)); have n9_ := Aside0.mk ((by rw [hg]; exact Nat.ne_of_gt (blk_lt (lK BK2.out)) : gb106 ≠ g2)); clear BK1; clear BK2; clear HB; have BK1 := n0_; have BK2 := n1_; have HB := n2_; have BK106 := n3_; have GW106 := n4_; have GE106 := n5_; have NB1_106 := n6_; have NB106_1 := n7_; have NB2_106 := n8_; have NB106_2 := n9_; clear n0_ n1_ n2_ n3_ n4_ n5_ n6_ n7_ n8_ n9_; clear hb hbox hg; have hnb19 := NB1_106.out; have hnc19 := NB106_1.out; obtain ⟨hcz20_0, hfz20_0⟩ := bk1 BK1.out; have hnb21 := NB106_2.out; have hnc21 := NB2_106.out; obtain ⟨hcz22_0, hfz22_0, hcz22_1, hfz22_1, hcz22_2, hfz22_2, hcz22_3, hfz22_3⟩ := bk4 BK106.out))
   go_ret
   exact ⟨lE, lB⟩
 ·rw [if_neg c4] at H
  have c4b0 : decide (a0_0 ≤ a1_0) = false := decide_eq_false c4
  clear c4
  obtain rfl := Option.some.inj H
  go_enter Try.func85, Try.ntmps85
  go_wp2_with (first | ((with_reducible refine gate_dst (N := 3) rfl ?_); refine bxe 3 #[.int .i64 a0_0, .int .i64 a0_1, .int .i64 a0_2, .int .i64 a0_3] 63 ?_; intro gb106 hg w23 hbox hb; have n0_ := Aside0.mk (blk_below (lK BK1.out) hb); have n1_ := Aside0.mk (blk_below (lK BK2.out) hb); have n2_ := Aside0.mk (below_step lB hb); have n3_ := Aside0.mk (hbox); have n4_ := lG w hg; have n5_ := lG w hg; have n6_ := Aside0.mk ((by rw [hg]; exact Nat.ne_of_lt (blk_lt (lK BK1.out)) : g1 ≠ gb106)); have n7_ := Aside0.mk ((by rw [hg]; exact Nat.ne_of_gt (blk_lt (lK BK1.out)) : gb106 ≠ g1)); have n8_ := Aside0.mk ((by rw [hg]; exact Nat.ne_of_lt (blk_lt (lK BK2.out)) : g2 ≠ gb106)); have n9_ := Aside0.mk ((by rw [hg]; exact Nat.ne_of_gt (blk_lt (lK BK2.out)) : gb106 ≠ g2)); clear BK1; clear BK2; clear HB; have BK1 := n0_; have BK2 := n1_; have HB := n2_; have BK106 := n3_; have GW106 := n4_; have GE106 := n5_; have NB1_106 := n6_; have NB106_1 := n7_; have NB2_106 := n8_; have NB106_2 := n9_; clear n0_ n1_ n2_ n3_ n4_ n5_ n6_ n7_ n8_ n9_; clear hb hbox hg; have hnb24 := NB1_106.out; have hnc24 := NB106_1.out; obtain ⟨hcz25_0, hfz25_0⟩ := bk1 BK1.out; have hnb26 := NB106_2.out; have hnc26 := NB2_106.out; obtain ⟨hcz27_0, hfz27_0, hcz27_1, hfz27_1, hcz27_2, hfz27_2, hcz27_3, hfz27_3⟩ := bk4 BK106.out))
  go_ret
  exact ⟨lE, lB⟩
set_option maxHeartbeats 800000 in
set_option maxRecDepth 100000 in
theorem idx84_ (g : Nat) (caps : Array Value) (eg : ∀ args w, (callFunc g args).run Try.prog w = .ok (.enter g args) w) (p : S63 → Option Bool) (A0 : Option Addr) (c0 : Nat) (l0 : List S63) (w : World) (hr0 : Kd.C k63 w A0 l0.length l0)
    (hp : ∀ (W : World) (x : S63) (b : Bool), Below w.heap.size w W → p x = some b → Calls Try.prog g (#[.agg #[.int .i64 x.f0, .int .i64 x.f1, .int .i64 x.f2, .int .i64 x.f3]] ++ caps) W fun e w' => e = .returned (.bool b) ∧ Below W.heap.size W w') (r : Int) (h : Kit.idxO p l0 0 = some r) :
    Calls Try.prog 84 #[.slice A0 l0.length c0, .func (.func g) #[] caps] w fun e w' => e = .returned (.int .i64 r) ∧ Below w.heap.size w w' := by
  have HR := Aside0.mk hr0
  have HP := Aside0.mk hp
  have HH := Aside0.mk h
  have hbig := hr0.2.1
  clear hr0 hp h
  have hu63 := Try.underlying63
  go_enter Try.func84, Try.ntmps84
  go_wp2
  go_loopg [5, 8] l0.length (fun gg _ s8 wr => ∃ kk : Nat, kk ≤ l0.length ∧ l0.length - kk ≤ gg ∧ s8 = .int .i64 kk ∧ Aside0 (Below w.heap.size w wr) ∧ Aside0 (Kit.idxO p (l0.drop kk) kk = some r))
  case atStart => exact ⟨0, Nat.zero_le _, by omega, rfl, ⟨Below.refl _ _⟩, ⟨by simpa using HH.out⟩⟩
  case round =>
    obtain ⟨kk, hkk, hg, rfl, HB, HI⟩ := hrel
    by_cases hlt : kk < l0.length
    · have hltz : (kk : Int) < (l0.length : Int) := by omega
      have hd0 : decide (kk < l0.length) = true := decide_eq_true hlt
      obtain ⟨ad, e_, hx0, hx1, hx2, hx3⟩ := at_T63 HR.out (kk : Int) (by omega) (by omega)
      cases e_
      replace hx0 := (HB.out.cell (World.block_lt_of_cell? w _ hx0)).trans hx0
      replace hx1 := (HB.out.cell (World.block_lt_of_cell? w _ hx1)).trans hx1
      replace hx2 := (HB.out.cell (World.block_lt_of_cell? w _ hx2)).trans hx2
      replace hx3 := (HB.out.cell (World.block_lt_of_cell? w _ hx3)).trans hx3
      simp only [Int.toNat_natCast] at hx0 hx1 hx2 hx3
      have hd : l0.drop kk = rd_T63 l0 (kk : Int) :: l0.drop (kk + 1) := by
        rw [List.drop_eq_getElem_cons hlt]; simp [rd_T63, List.getD, hlt]
      generalize rd_T63 l0 (kk : Int) = y at hd hx0 hx1 hx2 hx3
      have HI' := HI.out
      rw [hd] at HI'
      simp only [Kit.idxO] at HI'
      obtain ⟨b, hb, hI⟩ := Option.bind_eq_some_iff.1 HI'
      have hcall := HP.out wr y b HB.out hb
      have HIb := Aside0.mk hI
      clear hI HI' hb hd HI
      cases b with
      | true =>
        go_wp2_with fail
        refine hcall.mono ?_
        rintro e w2 ⟨rfl, hb2⟩
        clear hcall
        go_wp2_with fail
        go_ret
        have hI := HIb.out
        simp only [if_true, Option.some.injEq] at hI
        exact ⟨by subst hI; rfl, HB.out.trans (hb2.mono HB.out.size)⟩
      | false =>
        go_wp2_with fail
        refine hcall.mono ?_
        rintro e w2 ⟨rfl, hb2⟩
        clear hcall
        go_wp2_with fail
        go_roundg (l0.length - (kk + 1))
        case measure => omega
        case rel => exact ⟨kk + 1, by omega, by omega, by go_num, ⟨HB.out.trans (hb2.mono HB.out.size)⟩, ⟨by simpa using HIb.out⟩⟩
    · have hltz : ¬ (kk : Int) < (l0.length : Int) := by omega
      have hd0 : decide (kk < l0.length) = false := decide_eq_false hlt
      have hkl : kk = l0.length := by omega
      have hI := HI.out
      rw [hkl, List.drop_length] at hI
      simp [Kit.idxO] at hI
      clear HI hkl
      have HR2 := Aside0.mk hI
      clear hI
      go_wp2
      go_ret
      exact ⟨by have e_ := HR2.out; subst e_; rfl, HB.out⟩
def impl_Guard_84_81.f (l0 : List S63) (a1_0 : Int) : Option (Int) := Kit.idxO (fun x : S63 => impl_isLined_1.f x.f0 x.f1 x.f2 x.f3 a1_0) l0 0
theorem impl_Guard_84_81.calls (A0 : Option Addr) (c0 : Nat) (l0 : List S63) (g1 : Nat) (a1_0 : Int) (r : Int) (w : World) (hr0 : Kd.C k63 w A0 l0.length l0) (hc0 : l0.length ≤ c0) (hb1 : w.heap[g1]? = some (.cells #[.int .i64 a1_0] 3 (0, 0))) (h : impl_Guard_84_81.f l0 a1_0 = some r) :
    Calls Try.prog 84 #[.slice A0 l0.length c0, .func (.func 81) #[] #[.pointer (some ⟨g1, 0, none⟩)]] w fun e w' => e = .returned (.int .i64 r) ∧ Below w.heap.size w w' :=
  idx84_ 81 #[.pointer (some ⟨g1, 0, none⟩)] (enters_of Try.func81 (by kernel_rfl) rfl) (fun x : S63 => impl_isLined_1.f x.f0 x.f1 x.f2 x.f3 a1_0) A0 c0 l0 w hr0 (fun W x b hW hx => (impl_isLined_1.calls x.f0 x.f1 x.f2 x.f3 g1 a1_0 b W  (blk_below hb1 hW) hx).mono fun e w' ⟨he, hd⟩ => ⟨he, hd⟩) r h
def impl_Guard_84_85.f (l0 : List S63) (a1_0 : Int) (a2_0 : Int) : Option (Int) := Kit.idxO (fun x : S63 => impl_guardAt_1.f x.f0 x.f1 x.f2 x.f3 a1_0 a2_0) l0 0
theorem impl_Guard_84_85.calls (A0 : Option Addr) (c0 : Nat) (l0 : List S63) (g1 : Nat) (a1_0 : Int) (g2 : Nat) (a2_0 : Int) (r : Int) (w : World) (hr0 : Kd.C k63 w A0 l0.length l0) (hc0 : l0.length ≤ c0) (hb1 : w.heap[g1]? = some (.cells #[.int .i64 a1_0] 3 (0, 0))) (hb2 : w.heap[g2]? = some (.cells #[.int .i64 a2_0] 3 (0, 0))) (h : impl_Guard_84_85.f l0 a1_0 a2_0 = some r) :
    Calls Try.prog 84 #[.slice A0 l0.length c0, .func (.func 85) #[] #[.pointer (some ⟨g1, 0, none⟩), .pointer (some ⟨g2, 0, none⟩)]] w fun e w' => e = .returned (.int .i64 r) ∧ Below w.heap.size w w' :=
  idx84_ 85 #[.pointer (some ⟨g1, 0, none⟩), .pointer (some ⟨g2, 0, none⟩)] (enters_of Try.func85 (by kernel_rfl) rfl) (fun x : S63 => impl_guardAt_1.f x.f0 x.f1 x.f2 x.f3 a1_0 a2_0) A0 c0 l0 w hr0 (fun W x b hW hx => (impl_guardAt_1.calls x.f0 x.f1 x.f2 x.f3 g1 a1_0 g2 a2_0 b W  (blk_below hb1 hW) (blk_below hb2 hW) hx).mono fun e w' ⟨he, hd⟩ => ⟨he, hd⟩) r h
set_option maxHeartbeats 800000 in
set_option maxRecDepth 100000 in
theorem cnt80_ (g : Nat) (caps : Array Value) (eg : ∀ args w, (callFunc g args).run Try.prog w = .ok (.enter g args) w) (p : S63 → Option Bool) (A0 : Option Addr) (c0 : Nat) (l0 : List S63) (w : World) (hr0 : Kd.C k63 w A0 l0.length l0)
    (hp : ∀ (W : World) (x : S63) (b : Bool), Below w.heap.size w W → p x = some b → Calls Try.prog g (#[.agg #[.int .i64 x.f0, .int .i64 x.f1, .int .i64 x.f2, .int .i64 x.f3]] ++ caps) W fun e w' => e = .returned (.bool b) ∧ Below W.heap.size W w') (r : Bool) (h : Kit.anyO p l0 = some r) :
    Calls Try.prog 80 #[.slice A0 l0.length c0, .func (.func g) #[] caps] w fun e w' => e = .returned (.bool r) ∧ Below w.heap.size w w' := by
  obtain ⟨i, hi, hri⟩ := Kit.idxO_any p l0 0 r h
  have hcall := idx84_ g caps eg p A0 c0 l0 w hr0 hp i hi
  have HI := Aside0.mk hri
  clear hri hi h hp hr0
  go_enter Try.func80, Try.ntmps80
  go_wp2_with fail
  refine hcall.mono ?_
  rintro e w2 ⟨rfl, hb2⟩
  clear hcall
  go_wp2
  go_ret
  exact ⟨by rw [HI.out]; rfl, hb2⟩
def impl_Guard_80.f (l0 : List S63) (a1 : Nat) : Option (Bool) := none
theorem impl_Guard_80.calls (A0 : Option Addr) (c0 : Nat) (l0 : List S63) (a1 : Nat) (r : Bool) (w : World) (hr0 : Kd.C k63 w A0 l0.length l0) (hc0 : l0.length ≤ c0) (h : impl_Guard_80.f l0 a1 = some r) :
    Calls Try.prog 80 #[.slice A0 l0.length c0, .func (.func a1) #[] #[]] w fun e w' => e = .returned (.bool r) ∧ Below w.heap.size w w' := by
  unfold impl_Guard_80.f at h
  exact absurd h (by simp)
def impl_Guard_80_81.f (l0 : List S63) (a1_0 : Int) : Option (Bool) := Kit.anyO (fun x : S63 => impl_isLined_1.f x.f0 x.f1 x.f2 x.f3 a1_0) l0
theorem impl_Guard_80_81.calls (A0 : Option Addr) (c0 : Nat) (l0 : List S63) (g1 : Nat) (a1_0 : Int) (r : Bool) (w : World) (hr0 : Kd.C k63 w A0 l0.length l0) (hc0 : l0.length ≤ c0) (hb1 : w.heap[g1]? = some (.cells #[.int .i64 a1_0] 3 (0, 0))) (h : impl_Guard_80_81.f l0 a1_0 = some r) :
    Calls Try.prog 80 #[.slice A0 l0.length c0, .func (.func 81) #[] #[.pointer (some ⟨g1, 0, none⟩)]] w fun e w' => e = .returned (.bool r) ∧ Below w.heap.size w w' :=
  cnt80_ 81 #[.pointer (some ⟨g1, 0, none⟩)] (enters_of Try.func81 (by kernel_rfl) rfl) (fun x : S63 => impl_isLined_1.f x.f0 x.f1 x.f2 x.f3 a1_0) A0 c0 l0 w hr0 (fun W x b hW hx => (impl_isLined_1.calls x.f0 x.f1 x.f2 x.f3 g1 a1_0 b W  (blk_below hb1 hW) hx).mono fun e w' ⟨he, hd⟩ => ⟨he, hd⟩) r h
def impl_Guard_80_85.f (l0 : List S63) (a1_0 : Int) (a2_0 : Int) : Option (Bool) := Kit.anyO (fun x : S63 => impl_guardAt_1.f x.f0 x.f1 x.f2 x.f3 a1_0 a2_0) l0
theorem impl_Guard_80_85.calls (A0 : Option Addr) (c0 : Nat) (l0 : List S63) (g1 : Nat) (a1_0 : Int) (g2 : Nat) (a2_0 : Int) (r : Bool) (w : World) (hr0 : Kd.C k63 w A0 l0.length l0) (hc0 : l0.length ≤ c0) (hb1 : w.heap[g1]? = some (.cells #[.int .i64 a1_0] 3 (0, 0))) (hb2 : w.heap[g2]? = some (.cells #[.int .i64 a2_0] 3 (0, 0))) (h : impl_Guard_80_85.f l0 a1_0 a2_0 = some r) :
    Calls Try.prog 80 #[.slice A0 l0.length c0, .func (.func 85) #[] #[.pointer (some ⟨g1, 0, none⟩), .pointer (some ⟨g2, 0, none⟩)]] w fun e w' => e = .returned (.bool r) ∧ Below w.heap.size w w' :=
  cnt80_ 85 #[.pointer (some ⟨g1, 0, none⟩), .pointer (some ⟨g2, 0, none⟩)] (enters_of Try.func85 (by kernel_rfl) rfl) (fun x : S63 => impl_guardAt_1.f x.f0 x.f1 x.f2 x.f3 a1_0 a2_0) A0 c0 l0 w hr0 (fun W x b hW hx => (impl_guardAt_1.calls x.f0 x.f1 x.f2 x.f3 g1 a1_0 g2 a2_0 b W  (blk_below hb1 hW) (blk_below hb2 hW) hx).mono fun e w' ⟨he, hd⟩ => ⟨he, hd⟩) r h
end Go.Proofs.Ytgjojppbichaiaa.Q
