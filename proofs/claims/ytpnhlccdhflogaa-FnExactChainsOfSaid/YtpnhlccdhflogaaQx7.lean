-- Written by the program wip/tools/pr.py of this claim's session, over the kit's print.py.
import Derived.Test.YtpnhlccdhflogaaQx0
import Derived.Test.YtpnhlccdhflogaaQx6
namespace Go.Proofs.Ytpnhlccdhflogaa.Q
open Go.RowKit Go.Proofs.YtpnhlccdhflogaaW.PrintWords Go.Proofs.YtpnhlccdhflogaaW.PrintLast Go.Proofs.YtpnhlccdhflogaaW.PrintMore
attribute [local go_sem] max2_int min2_int max_two min_two max_three min_three max_four min_four   -- for this text's walks alone
set_option linter.unusedVariables false
set_option linter.unusedSimpArgs false

/-! ### laws_markIntSS: function 18 -/
theorem markIntS_l0_ : ∀ (post pre : List Int) (n : Int), pre.length + post.length < 4611686018427387904 → 0 ≤ n → n + post.length < 4611686018427387904 →
    Ev (fun k => laws_markIntS.l0 k (pre ++ post) n (pre.length : Int)) (n + post.length, pre ++ Kit.from_ n post.length)
  | [], pre, n, hb, h0, hn => by
    refine Ev.step (fun k => by simp only [laws_markIntS.l0]; rw [if_neg (by simp)]) ?_
    simpa [Kit.from_] using Ev.now _
  | x :: post, pre, n, hb, h0, hn => by
    have ih := markIntS_l0_ post (pre ++ [n]) (n + 1) (by simp at hb ⊢; omega) (by omega) (by simp at hn ⊢; omega)
    refine Ev.step (fun k => by
      simp only [laws_markIntS.l0]
      rw [if_pos (by simp; omega), if_pos (by omega), Int.toNat_natCast, Kit.set_at rfl, Kit.w_succ (by simp at hb; omega), Kit.w64 (x := n + 1) (by omega) (by simp at hn; omega)]) ?_
    have e : n + 1 + (post.length : Int) = n + ((x :: post).length : Int) := by simp; omega
    rw [e] at ih
    simpa [Kit.from_] using ih
theorem markIntS_flat (l : List Int) (n : Int) (hb : l.length < 2305843009213693952) (h0 : 0 ≤ n) (hn : n < 2305843009213693952) : Ev (fun k => laws_markIntS.f k l n) (n + l.length, Kit.from_ n l.length) := by
  have h := markIntS_l0_ l [] n (by simp; omega) h0 (by omega)
  unfold laws_markIntS.f
  simpa using h
def markIntSS_one (n : Int) (x : List Int) : List Int := (Kit.from_ n x.length)
def markIntSS_cnt1 (x : List Int) : Nat := x.length
def markIntSS_cnt : List (List Int) → Nat
  | [] => 0
  | x :: xs => markIntSS_cnt1 x + markIntSS_cnt xs
def markIntSS_mk (n : Int) : List (List Int) → List (List Int)
  | [] => []
  | x :: xs => markIntSS_one n x :: markIntSS_mk (n + markIntSS_cnt1 x) xs
theorem markIntSS_mk_length : ∀ (n : Int) (l : List (List Int)), (markIntSS_mk n l).length = l.length
  | _, [] => rfl
  | n, x :: xs => by simp [markIntSS_mk, markIntSS_mk_length _ xs]
theorem markIntSS_mk_snoc : ∀ (n : Int) (l : List (List Int)) (x : List Int), markIntSS_mk n (l ++ [x]) = markIntSS_mk n l ++ [markIntSS_one (n + markIntSS_cnt l) x]
  | n, [], x => by simp [markIntSS_mk, markIntSS_cnt]
  | n, y :: ys, x => by
    simp only [List.cons_append, markIntSS_mk, markIntSS_cnt, markIntSS_mk_snoc _ ys x]
    rw [show n + (markIntSS_cnt1 y : Nat) + (markIntSS_cnt ys : Nat) = n + ((markIntSS_cnt1 y + markIntSS_cnt ys : Nat) : Int) by omega]
theorem markIntSS_cnt_snoc : ∀ (l : List (List Int)) (x : List Int), markIntSS_cnt (l ++ [x]) = markIntSS_cnt l + markIntSS_cnt1 x
  | [], x => by simp [markIntSS_cnt]
  | y :: ys, x => by simp only [List.cons_append, markIntSS_cnt, markIntSS_cnt_snoc ys x]; omega
theorem markIntSS_cnt_app : ∀ (l r : List (List Int)), markIntSS_cnt (l ++ r) = markIntSS_cnt l + markIntSS_cnt r
  | [], r => by simp [markIntSS_cnt]
  | y :: ys, r => by simp only [List.cons_append, markIntSS_cnt, markIntSS_cnt_app ys r]; omega
open Mk in
set_option maxHeartbeats 1600000 in
set_option maxRecDepth 100000 in
theorem laws_markIntSS.calls (P0_ : Nat → Prop) (u9000_ : Value) (l0 : List (List Int)) (a1 : Int) (w0 w : World) (hB : Below w0.heap.size w0 w) (ho0 : Kd.S (Kd.slice 3 (Kd.int .i64)) 34 w w0.heap.size P0_ u9000_ l0) (hn0 : 0 ≤ a1) (hn1 : a1 + (markIntSS_cnt l0 : Nat) < 2305843009213693952) :
    Calls Try.prog 18 #[u9000_, .int .i64 a1] w fun e w' => e = .returned (.int .i64 (a1 + (markIntSS_cnt l0 : Nat))) ∧ Kd.S (Kd.slice 3 (Kd.int .i64)) 34 w' w0.heap.size P0_ u9000_ (markIntSS_mk a1 l0) ∧ Below w0.heap.size w0 w' ∧ Kept w w' P0_ := by
  obtain ⟨A0, c0, rfl⟩ := Kd.S_slice ho0
  have hlen : l0.length ≤ 9223372036854775807 := (Kd.S_reads' ho0).2.2.2.1
  have HS0 := Aside0.mk ho0
  have HB0 := Aside0.mk hB
  clear ho0 hB
  go_enter Try.func18, Try.ntmps18
  go_wp2
  go_loopg [1, 5] l0.length (fun gg v1 v5 wr => ∃ pre post : List (List Int), v1 = .int .i64 (a1 + (markIntSS_cnt pre : Nat)) ∧ v5 = .int .i64 (pre.length : Int) ∧ Aside0 (l0 = pre ++ post) ∧ post.length ≤ gg ∧ Aside0 (Kd.S (Kd.slice 3 (Kd.int .i64)) 34 wr w0.heap.size P0_ (.slice A0 l0.length c0) (markIntSS_mk a1 pre ++ post)) ∧ Aside0 (Below w0.heap.size w0 wr) ∧ Aside0 (Kept w wr P0_))
  case atStart => exact ⟨[], l0, by simp [markIntSS_cnt], rfl, ⟨rfl⟩, Nat.le_refl _, ⟨by simpa [markIntSS_mk] using HS0.out⟩, ⟨HB0.out⟩, ⟨Kept.refl _ _⟩⟩
  case round =>
    obtain ⟨pre, post, rfl, rfl, HL, hg, HS, HB, HK⟩ := hrel
    have hnl : l0.length = pre.length + post.length := by rw [HL.out]; simp
    have hcl : markIntSS_cnt l0 = markIntSS_cnt pre + markIntSS_cnt post := by rw [HL.out, markIntSS_cnt_app]
    cases post with
    | nil =>
      have hd0 : decide (pre.length < l0.length) = false := by simp at hnl; simp [hnl]
      have hle : (l0.length : Int) ≤ (pre.length : Int) := by simp at hnl; omega
      have HF := Aside0.mk (show a1 + (markIntSS_cnt pre : Nat) = a1 + (markIntSS_cnt l0 : Nat) by simp [markIntSS_cnt] at hcl; rw [hcl])
      have HM := Aside0.mk (show markIntSS_mk a1 pre = markIntSS_mk a1 l0 by rw [HL.out, List.append_nil])
      clear hnl hcl
      go_wp2
      go_ret
      exact ⟨by rw [← HF.out]; rfl, by have h_ := HS.out; rwa [List.append_nil, HM.out] at h_, HB.out, HK.out⟩
    | cons x post =>
      simp only [List.length_cons] at hnl hg
      simp only [markIntSS_cnt] at hcl
      have hn2 : a1 + (markIntSS_cnt pre : Nat) + (markIntSS_cnt1 x : Nat) < 2305843009213693952 := by omega
      have hx2 := hn2
      simp only [markIntSS_cnt1] at hx2
      have hlt : pre.length < l0.length := by omega
      have hltz : (pre.length : Int) < (l0.length : Int) := by omega
      have hd0 : decide (pre.length < l0.length) = true := decide_eq_true hlt
      obtain ⟨ad_, hA_⟩ : ∃ ad_, A0 = some ad_ := by
        obtain ⟨ad, hA, _⟩ := (Kd.S_reads' HS.out).2.2.2.2 (by simp [markIntSS_mk_length] <;> omega)
        exact ⟨ad, hA⟩
      subst hA_
      obtain ⟨g, hg_⟩ := Kd.R_head (Kd.S_R HS.out)
      subst hg_
      have hx_ : (markIntSS_mk a1 pre ++ x :: post).getD pre.length [] = x := Kit.getD_at (by rw [markIntSS_mk_length])
      obtain ⟨v_, hHo⟩ := hole_open (di := (Kd.int .i64)) (ei := 3) (ys := x) [] x (fun v_ => [v_]) HS.out HB.out HK.out hlt hx_ (fun _ _ _ hM => hM)
      clear hx_ HS HB HK hnl
      have HH := Aside0.mk hHo
      have HCL := Aside0.mk hcl
      clear hHo hcl
      obtain ⟨hx0, hf0⟩ := hole_cells (sz := 1) rfl HH.out 0 _ rfl
      simp only [Nat.mul_one, Nat.add_zero] at hx0 hf0
      obtain ⟨kf_, hf_⟩ := Ev.rounds (markIntS_flat x (a1 + (markIntSS_cnt pre : Nat)) (by omega) (by omega) (by omega))
      have HF_ := Aside0.mk hf_
      clear hf_
      have hcall_ := hole_call HH.out (fun oki hb_ hr_ => (laws_markIntS.calls kf_ oki v_ x (a1 + (markIntSS_cnt pre : Nat)) _ _ w0 _ hb_ hr_ HF_.out)) rfl
      clear HH
      go_wp2_with fail
      refine hcall_.mono ?_
      rintro e_ w2 ⟨rfl, hH2_⟩
      clear hcall_ HF_
      clear hx0 hf0
      have HH := Aside0.mk hH2_
      clear hH2_
      obtain ⟨hx0, hf0⟩ := hole_cells (sz := 1) rfl HH.out 0 _ rfl
      simp only [Nat.mul_one, Nat.add_zero] at hx0 hf0
      have hcl_ := hole_close HH.out (markIntSS_one (a1 + (markIntSS_cnt pre : Nat)) x) (fun _ _ hr_ => ⟨_, rfl, hr_⟩)
      clear HH
      have HS2 := Aside0.mk hcl_.1
      have HB2 := Aside0.mk hcl_.2.1
      have HK2 := Aside0.mk hcl_.2.2
      clear hcl_
      have HE := Aside0.mk (show a1 + (markIntSS_cnt (pre ++ [x]) : Nat) = a1 + (markIntSS_cnt pre : Nat) + (x.length : Nat) by rw [markIntSS_cnt_snoc]; simp only [markIntSS_cnt1]; omega)
      have HX := Aside0.mk (show (markIntSS_mk a1 pre ++ x :: post).set pre.length (markIntSS_one (a1 + (markIntSS_cnt pre : Nat)) x) = markIntSS_mk a1 (pre ++ [x]) ++ post by rw [Kit.set_at (by rw [markIntSS_mk_length]), markIntSS_mk_snoc]; simp)
      have HL2 := Aside0.mk (show l0 = (pre ++ [x]) ++ post by rw [HL.out]; simp)
      clear hn2 HL HCL
      go_wp2_with fail
      go_roundg post.length
      case measure => omega
      case rel => exact ⟨pre ++ [x], post, by rw [HE.out], by simp, HL2, Nat.le_refl _, ⟨by have h_ := HS2.out; rwa [HX.out] at h_⟩, HB2, HK2⟩

/-! ### laws_heldIntS: function 24 -/
def laws_heldIntS.l0 : Nat → List Int → Int → Int → Option (Int)
 | 0, _, _, _ => none
 | k + 1, x0, x1, x5 => if x5 < (x0.length : Int) then (if 0 ≤ x5 then (if (rd x0 x5) = x1 then (laws_heldIntS.l0 k x0 (wrap64 (x1 + 1)) (wrap64 (x5 + 1))) else (some (-1))) else (none)) else (some x1)
def laws_heldIntS.f (k : Nat) (l0 : List Int) (a1 : Int) : Option (Int) := laws_heldIntS.l0 k l0 a1 0
theorem laws_heldIntS.mono_l : ∀ k, (∀ y0 y1 y2, LeO (laws_heldIntS.l0 k y0 y1 y2) (laws_heldIntS.l0 (k + 1) y0 y1 y2))
 | 0 => fun _ _ _ r h => by simp [laws_heldIntS.l0] at h
 | k + 1 => by
  have ih0 := laws_heldIntS.mono_l k
  ·intro y0 y1 y2
   unfold laws_heldIntS.l0
   repeat' first
   | with_reducible apply ih0
   | (with_reducible exact LeO.refl _)
   | (with_reducible exact LeO.none _)
   | (with_reducible refine LeO.ite ?_ ?_)
   | (with_reducible refine LeO.bind ?_ (fun _ => ?_))
   | apply ih0
   | exact LeO.none _
   | refine LeO.ite ?_ ?_
   | refine LeO.bind ?_ (fun _ => ?_)
theorem laws_heldIntS.mono : ∀ a0 a1 k, LeO (laws_heldIntS.f k a0 a1) (laws_heldIntS.f (k + 1) a0 a1) := by
 intro a0 a1 k
 have ih0 := laws_heldIntS.mono_l k
 unfold laws_heldIntS.f
 repeat' first
   | with_reducible apply ih0
   | (with_reducible exact LeO.refl _)
   | (with_reducible exact LeO.none _)
   | (with_reducible refine LeO.ite ?_ ?_)
   | (with_reducible refine LeO.bind ?_ (fun _ => ?_))
   | apply ih0
   | exact LeO.none _
   | refine LeO.ite ?_ ?_
   | refine LeO.bind ?_ (fun _ => ?_)
set_option maxHeartbeats 8000000 in
set_option maxRecDepth 100000 in
theorem laws_heldIntS.calls (k : Nat) (A0 : Option Addr) (c0 : Nat) (l0 : List Int) (a1 : Int) (r : Int) (w : World) (hr0 : Kd.C (Kd.int .i64) w A0 l0.length l0) (hc0 : l0.length ≤ c0) (h : laws_heldIntS.f k l0 a1 = some r) :
  Calls Try.prog 24 #[.slice A0 l0.length c0, .int .i64 a1] w fun e w' => e = .returned (.int .i64 r) ∧ Drawn0 w w' := by
 have HR0 := Aside0.mk hr0
 have HC0 := Aside0.mk hc0
 clear hr0 hc0
 have H : (laws_heldIntS.l0 k l0 a1 0) = some r := h
 clear h
 have H' := Aside0.mk H
 clear H
 go_enter Try.func24, Try.ntmps24
 go_wp2
 go_loopg [1, 5] k (fun kq v1 v5 w' => ∃ (x1_1 : Int) (x5_1 : Int), v1 = .int .i64 x1_1 ∧ v5 = .int .i64 x5_1 ∧ Aside0 (laws_heldIntS.l0 kq l0 x1_1 x5_1 = some r) ∧ Aside0 (kq ≤ k) ∧ Drawn0 w w')
 case atStart => exact ⟨(a1), (0), lF, lF, H', ⟨Nat.le_refl _⟩, by repeat (first | exact Drawn0.refl _ | apply Drawn0.step)⟩
 case round =>
  clear H'
  try clear c2
  try clear p2
  obtain ⟨x1_1, x5_1, rfl, rfl, HA, HK1, ⟨m1, rfl⟩⟩ := hrel
  cases gk with
  | zero => exact absurd HA.out (by simp [laws_heldIntS.l0])
  | succ k1 =>
   have H := HA.out
   clear HA
   simp only [laws_heldIntS.l0] at H
   by_cases c3 : x5_1 < (l0.length : Int)
   ·rw [if_pos c3] at H
    have c3b0 : decide (x5_1 < (l0.length : Int)) = true := decide_eq_true c3
    clear c3
    by_cases c4 : 0 ≤ x5_1
    ·rw [if_pos c4] at H
     have c4b0 : decide (0 ≤ x5_1) = true := decide_eq_true c4
     clear c4
     by_cases c5 : (rd l0 x5_1) = x1_1
     ·rw [if_pos c5] at H
      have c5b0 : ((rd l0 x5_1) == x1_1) = true := beq_iff_eq.mpr c5
      have c5b1 : ((rd l0 x5_1) != x1_1) = false := bne_eq_false_iff_eq.mpr c5
      clear c5
      have H' := Aside0.mk H
      clear H
      have p223 : 0 ≤ (x5_1 : Int) := lD
      have q223 : x5_1 < (l0.length : Int) := lD
      obtain ⟨ad223, e223, hx223_0⟩ := Kd.at_int HR0.out x5_1 p223 q223
      cases e223
      replace p223 := eq_true p223
      replace q223 := eq_true q223
      go_wp2
      go_roundg k1
      case measure => have := HK1.out; omega
      case rel => exact ⟨(wrap64 (x1_1 + 1)), (wrap64 (x5_1 + 1)), lF, lF, H', ⟨by have := HK1.out; omega⟩, by repeat (first | exact Drawn0.refl _ | apply Drawn0.step)⟩
     ·rw [if_neg c5] at H
      have c5b0 : ((rd l0 x5_1) == x1_1) = false := beq_eq_false_iff_ne.mpr c5
      have c5b1 : ((rd l0 x5_1) != x1_1) = true := bne_iff_ne.mpr c5
      obtain rfl := Option.some.inj H
      have p223 : 0 ≤ (x5_1 : Int) := lD
      have q223 : x5_1 < (l0.length : Int) := lD
      obtain ⟨ad223, e223, hx223_0⟩ := Kd.at_int HR0.out x5_1 p223 q223
      cases e223
      replace p223 := eq_true p223
      replace q223 := eq_true q223
      first | (go_wp2; go_ret; exact ⟨by first | rfl | (simp; done) | (simp [*]; done), by repeat (first | exact Drawn0.refl _ | apply Drawn0.step)⟩) | (exfalso; simp only [decide_eq_false_iff_not, decide_eq_true_eq] at *; omega)
    ·rw [if_neg c4] at H
     exact absurd H (by simp)
   ·rw [if_neg c3] at H
    have c3b0 : decide (x5_1 < (l0.length : Int)) = false := decide_eq_false c3
    clear c3
    obtain rfl := Option.some.inj H
    first | (go_wp2; go_ret; exact ⟨by first | rfl | (simp; done) | (simp [*]; done), by repeat (first | exact Drawn0.refl _ | apply Drawn0.step)⟩) | (exfalso; simp only [decide_eq_false_iff_not, decide_eq_true_eq] at *; omega)

/-! ### laws_heldIntSS: function 19 -/
def laws_heldIntSS.l0 : Nat → List (List Int) → Int → Int → Option (Int)
 | 0, _, _, _ => none
 | k + 1, x0, x1, x5 => if x5 < (x0.length : Int) then (if 0 ≤ x5 then ((laws_heldIntS.f k (rd_L5 x0 x5) x1).bind fun t225 => (if t225 < 0 then (some (-1)) else (laws_heldIntSS.l0 k x0 t225 (wrap64 (x5 + 1))))) else (none)) else (some x1)
def laws_heldIntSS.f (k : Nat) (l0 : List (List Int)) (a1 : Int) : Option (Int) := laws_heldIntSS.l0 k l0 a1 0
theorem laws_heldIntSS.mono_l : ∀ k, (∀ y0 y1 y2, LeO (laws_heldIntSS.l0 k y0 y1 y2) (laws_heldIntSS.l0 (k + 1) y0 y1 y2))
 | 0 => fun _ _ _ r h => by simp [laws_heldIntSS.l0] at h
 | k + 1 => by
  have ih0 := laws_heldIntSS.mono_l k
  ·intro y0 y1 y2
   unfold laws_heldIntSS.l0
   repeat' first
   | with_reducible apply ih0
   | with_reducible apply laws_heldIntS.mono
   | (with_reducible exact LeO.refl _)
   | (with_reducible exact LeO.none _)
   | (with_reducible refine LeO.ite ?_ ?_)
   | (with_reducible refine LeO.bind ?_ (fun _ => ?_))
   | apply ih0
   | apply laws_heldIntS.mono
   | exact LeO.none _
   | refine LeO.ite ?_ ?_
   | refine LeO.bind ?_ (fun _ => ?_)
theorem laws_heldIntSS.mono : ∀ a0 a1 k, LeO (laws_heldIntSS.f k a0 a1) (laws_heldIntSS.f (k + 1) a0 a1) := by
 intro a0 a1 k
 have ih0 := laws_heldIntSS.mono_l k
 unfold laws_heldIntSS.f
 repeat' first
   | with_reducible apply ih0
   | with_reducible apply laws_heldIntS.mono
   | (with_reducible exact LeO.refl _)
   | (with_reducible exact LeO.none _)
   | (with_reducible refine LeO.ite ?_ ?_)
   | (with_reducible refine LeO.bind ?_ (fun _ => ?_))
   | apply ih0
   | apply laws_heldIntS.mono
   | exact LeO.none _
   | refine LeO.ite ?_ ?_
   | refine LeO.bind ?_ (fun _ => ?_)
set_option maxHeartbeats 8000000 in
set_option maxRecDepth 100000 in
theorem laws_heldIntSS.calls (k : Nat) (A0 : Option Addr) (c0 : Nat) (l0 : List (List Int)) (a1 : Int) (r : Int) (w : World) (hr0 : Kd.C (Kd.slice 3 (Kd.int .i64)) w A0 l0.length l0) (hc0 : l0.length ≤ c0) (h : laws_heldIntSS.f k l0 a1 = some r) :
  Calls Try.prog 19 #[.slice A0 l0.length c0, .int .i64 a1] w fun e w' => e = .returned (.int .i64 r) ∧ Drawn0 w w' := by
 have HR0 := Aside0.mk hr0
 have HC0 := Aside0.mk hc0
 clear hr0 hc0
 have H : (laws_heldIntSS.l0 k l0 a1 0) = some r := h
 clear h
 have H' := Aside0.mk H
 clear H
 go_enter Try.func19, Try.ntmps19
 go_wp2
 go_loopg [1, 5] k (fun kq v1 v5 w' => ∃ (x1_1 : Int) (x5_1 : Int), v1 = .int .i64 x1_1 ∧ v5 = .int .i64 x5_1 ∧ Aside0 (laws_heldIntSS.l0 kq l0 x1_1 x5_1 = some r) ∧ Aside0 (kq ≤ k) ∧ Drawn0 w w')
 case atStart => exact ⟨(a1), (0), lF, lF, H', ⟨Nat.le_refl _⟩, by repeat (first | exact Drawn0.refl _ | apply Drawn0.step)⟩
 case round =>
  clear H'
  try clear c1
  try clear p2
  obtain ⟨x1_1, x5_1, rfl, rfl, HA, HK1, ⟨m1, rfl⟩⟩ := hrel
  cases gk with
  | zero => exact absurd HA.out (by simp [laws_heldIntSS.l0])
  | succ k1 =>
   have H := HA.out
   clear HA
   simp only [laws_heldIntSS.l0] at H
   by_cases c3 : x5_1 < (l0.length : Int)
   ·rw [if_pos c3] at H
    have c3b0 : decide (x5_1 < (l0.length : Int)) = true := decide_eq_true c3
    clear c3
    by_cases c4 : 0 ≤ x5_1
    ·rw [if_pos c4] at H
     have c4b0 : decide (0 ≤ x5_1) = true := decide_eq_true c4
     clear c4
     replace H := lO H
     obtain ⟨t225, A5, H⟩ := H
     by_cases c6 : t225 < 0
     ·rw [if_pos c6] at H
      have c6b0 : decide (t225 < 0) = true := decide_eq_true c6
      clear c6
      obtain rfl := Option.some.inj H
      have p224 : 0 ≤ (x5_1 : Int) := lD
      have q224 : x5_1 < (l0.length : Int) := lD
      obtain ⟨ad224, A224_0, c224_0, e224, hx224_0, hl224_0, hi224_0⟩ := at_L5 HR0.out x5_1 p224 q224
      cases e224
      have HR224_0 := Aside0.mk hi224_0
      have HC224_0 := Aside0.mk hl224_0
      clear hi224_0 hl224_0
      replace p224 := eq_true p224
      replace q224 := eq_true q224
      go_wp2_with (first | ((with_reducible refine gate_callee (f := 24) rfl ?_); refine gl_ (some 17) (Try.func24) #[.slice A224_0 (rd_L5 l0 x5_1).length c224_0, .int .i64 x1_1] ?_; (with_reducible refine (laws_heldIntS.calls k1 _ _ (rd_L5 l0 x5_1) x1_1 t225 _ ?side1 ?side2 A5.out).mono ?_); (case side1 => repeat (first | exact HR224_0.out | (with_reducible refine Kd.C_alloc ?_ _) | (with_reducible refine Kd.C_drewN ?_ _) | (with_reducible refine Kd.C_drew ?_))); (case side2 => exact HC224_0.out); rintro e w' ⟨rfl, ⟨nd, rfl⟩⟩; refine ⟨_, rfl, ?_⟩))
      go_ret
      exact ⟨by first | rfl | (simp; done) | (simp [*]; done), by repeat (first | exact Drawn0.refl _ | apply Drawn0.step)⟩
     ·rw [if_neg c6] at H
      have c6b0 : decide (t225 < 0) = false := decide_eq_false c6
      clear c6
      have H' := Aside0.mk H
      clear H
      have p224 : 0 ≤ (x5_1 : Int) := lD
      have q224 : x5_1 < (l0.length : Int) := lD
      obtain ⟨ad224, A224_0, c224_0, e224, hx224_0, hl224_0, hi224_0⟩ := at_L5 HR0.out x5_1 p224 q224
      cases e224
      have HR224_0 := Aside0.mk hi224_0
      have HC224_0 := Aside0.mk hl224_0
      clear hi224_0 hl224_0
      replace p224 := eq_true p224
      replace q224 := eq_true q224
      go_wp2_with (first | ((with_reducible refine gate_callee (f := 24) rfl ?_); refine gl_ (some 17) (Try.func24) #[.slice A224_0 (rd_L5 l0 x5_1).length c224_0, .int .i64 x1_1] ?_; (with_reducible refine (laws_heldIntS.calls k1 _ _ (rd_L5 l0 x5_1) x1_1 t225 _ ?side1 ?side2 A5.out).mono ?_); (case side1 => repeat (first | exact HR224_0.out | (with_reducible refine Kd.C_alloc ?_ _) | (with_reducible refine Kd.C_drewN ?_ _) | (with_reducible refine Kd.C_drew ?_))); (case side2 => exact HC224_0.out); rintro e w' ⟨rfl, ⟨nd, rfl⟩⟩; refine ⟨_, rfl, ?_⟩))
      go_roundg k1
      case measure => have := HK1.out; omega
      case rel => exact ⟨(t225), (wrap64 (x5_1 + 1)), lF, lF, H', ⟨by have := HK1.out; omega⟩, by repeat (first | exact Drawn0.refl _ | apply Drawn0.step)⟩
    ·rw [if_neg c4] at H
     exact absurd H (by simp)
   ·rw [if_neg c3] at H
    have c3b0 : decide (x5_1 < (l0.length : Int)) = false := decide_eq_false c3
    clear c3
    obtain rfl := Option.some.inj H
    first | (go_wp2; go_ret; exact ⟨by first | rfl | (simp; done) | (simp [*]; done), by repeat (first | exact Drawn0.refl _ | apply Drawn0.step)⟩) | (exfalso; simp only [decide_eq_false_iff_not, decide_eq_true_eq] at *; omega)

-- NOT PRINTED: function 3 (laws_FnExactChainsOf)

end Go.Proofs.Ytpnhlccdhflogaa.Q
