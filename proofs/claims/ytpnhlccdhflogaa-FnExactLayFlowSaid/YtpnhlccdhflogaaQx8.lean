-- Written by the program wip/tools/pr.py of this claim's session, over the kit's print.py.
import Derived.Test.YtpnhlccdhflogaaQx0
import Derived.Test.YtpnhlccdhflogaaQx7
namespace Go.Proofs.Ytpnhlccdhflogaa.Q
open Go.RowKit Go.Proofs.YtpnhlccdhflogaaW.PrintWords Go.Proofs.YtpnhlccdhflogaaW.PrintLast Go.Proofs.YtpnhlccdhflogaaW.PrintMore
attribute [local go_sem] max2_int min2_int max_two min_two max_three min_three max_four min_four   -- for this text's walks alone
set_option linter.unusedVariables false
set_option linter.unusedSimpArgs false

/-! ### laws_markBlockS: function 43 -/
def markInstrS_one (n : Int) (x : S130) : S130 := ⟨n, (n + 1), ((n + 1) + 1), (((n + 1) + 1) + 1), ((((n + 1) + 1) + 1) + 1)⟩
def markInstrS_cnt1 (x : S130) : Nat := 1 + 1 + 1 + 1 + 1
def markInstrS_cnt : List S130 → Nat
  | [] => 0
  | x :: xs => markInstrS_cnt1 x + markInstrS_cnt xs
def markInstrS_mk (n : Int) : List S130 → List S130
  | [] => []
  | x :: xs => markInstrS_one n x :: markInstrS_mk (n + markInstrS_cnt1 x) xs
theorem markInstrS_mk_length : ∀ (n : Int) (l : List S130), (markInstrS_mk n l).length = l.length
  | _, [] => rfl
  | n, x :: xs => by simp [markInstrS_mk, markInstrS_mk_length _ xs]
theorem markInstrS_mk_snoc : ∀ (n : Int) (l : List S130) (x : S130), markInstrS_mk n (l ++ [x]) = markInstrS_mk n l ++ [markInstrS_one (n + markInstrS_cnt l) x]
  | n, [], x => by simp [markInstrS_mk, markInstrS_cnt]
  | n, y :: ys, x => by
    simp only [List.cons_append, markInstrS_mk, markInstrS_cnt, markInstrS_mk_snoc _ ys x]
    rw [show n + (markInstrS_cnt1 y : Nat) + (markInstrS_cnt ys : Nat) = n + ((markInstrS_cnt1 y + markInstrS_cnt ys : Nat) : Int) by omega]
theorem markInstrS_cnt_snoc : ∀ (l : List S130) (x : S130), markInstrS_cnt (l ++ [x]) = markInstrS_cnt l + markInstrS_cnt1 x
  | [], x => by simp [markInstrS_cnt]
  | y :: ys, x => by simp only [List.cons_append, markInstrS_cnt, markInstrS_cnt_snoc ys x]; omega
theorem markInstrS_cnt_app : ∀ (l r : List S130), markInstrS_cnt (l ++ r) = markInstrS_cnt l + markInstrS_cnt r
  | [], r => by simp [markInstrS_cnt]
  | y :: ys, r => by simp only [List.cons_append, markInstrS_cnt, markInstrS_cnt_app ys r]; omega
theorem markInstrS_len : ∀ l : List S130, l.length ≤ markInstrS_cnt l
  | [] => Nat.le_refl _
  | x :: xs => by
    have := markInstrS_len xs
    simp only [markInstrS_cnt, markInstrS_cnt1, List.length_cons]
    omega
theorem markInstrS_l0_ : ∀ (post pre : List S130) (n : Int), pre.length + post.length < 4611686018427387904 → 0 ≤ n → n + (markInstrS_cnt post : Nat) < 4611686018427387904 →
    Ev (fun k => laws_markInstrS.l0 k (pre ++ post) n (pre.length : Int)) (n + (markInstrS_cnt post : Nat), pre ++ markInstrS_mk n post)
  | [], pre, n, hb, h0, hn => by
    refine Ev.step (fun k => by simp only [laws_markInstrS.l0]; rw [if_neg (by simp)]) ?_
    simpa [markInstrS_mk, markInstrS_cnt] using Ev.now _
  | x :: post, pre, n, hb, h0, hn => by
    simp only [markInstrS_cnt, markInstrS_cnt1, List.length_cons] at hn hb
    have ih := markInstrS_l0_ post (pre ++ [markInstrS_one n x]) (n + (markInstrS_cnt1 x : Nat)) (by simp; omega) (by omega) (by simp only [markInstrS_cnt1]; omega)
    have hrd : ∀ y : S130, rd_T130 (pre ++ y :: post) (pre.length : Int) = y := fun y => by unfold rd_T130; rw [Int.toNat_natCast]; exact Kit.getD_at rfl
    have e1 : wrap64 (n + 1) = n + 1 := Kit.w64 (by omega) (by omega)
    have e2 : wrap64 ((n + 1) + 1) = (n + 1) + 1 := Kit.w64 (by omega) (by omega)
    have e3 : wrap64 (((n + 1) + 1) + 1) = ((n + 1) + 1) + 1 := Kit.w64 (by omega) (by omega)
    have e4 : wrap64 ((((n + 1) + 1) + 1) + 1) = (((n + 1) + 1) + 1) + 1 := Kit.w64 (by omega) (by omega)
    have e5 : wrap64 (((((n + 1) + 1) + 1) + 1) + 1) = ((((n + 1) + 1) + 1) + 1) + 1 := Kit.w64 (by omega) (by omega)
    have ew : wrap64 ((pre.length : Int) + 1) = ((pre.length + 1 : Nat) : Int) := Kit.w_succ (by omega)
    refine Ev.step (fun k => by
      simp only [laws_markInstrS.l0]
      rw [if_pos (by simp; omega), if_pos (by omega)]) ?_
    simp only [Option.bind_some, Int.toNat_natCast, Kit.set_mid, hrd, ew, e1, e2, e3, e4, e5]
    skip
    simp only [markInstrS_mk, markInstrS_cnt, markInstrS_one, markInstrS_cnt1] at ih ⊢
    simpa [Int.add_assoc] using ih
theorem markInstrS_flat (l : List S130) (n : Int) (hb : 0 ≤ n) (h0 : 0 ≤ n) (hn : n + (markInstrS_cnt l : Nat) < 2305843009213693952) : Ev (fun k => laws_markInstrS.f k l n) (n + (markInstrS_cnt l : Nat), markInstrS_mk n l) := by
  have hlen := markInstrS_len l
  have h := markInstrS_l0_ l [] n (by simp; omega) h0 (by omega)
  unfold laws_markInstrS.f
  simpa using h
def markBlockS_one (n : Int) (x : S99) : S99 := ⟨(markInstrS_mk n x.f0), (n + markInstrS_cnt x.f0), ((n + markInstrS_cnt x.f0) + 1), (((n + markInstrS_cnt x.f0) + 1) + 1)⟩
def markBlockS_cnt1 (x : S99) : Nat := markInstrS_cnt x.f0 + 1 + 1 + 1
def markBlockS_cnt : List S99 → Nat
  | [] => 0
  | x :: xs => markBlockS_cnt1 x + markBlockS_cnt xs
def markBlockS_mk (n : Int) : List S99 → List S99
  | [] => []
  | x :: xs => markBlockS_one n x :: markBlockS_mk (n + markBlockS_cnt1 x) xs
theorem markBlockS_mk_length : ∀ (n : Int) (l : List S99), (markBlockS_mk n l).length = l.length
  | _, [] => rfl
  | n, x :: xs => by simp [markBlockS_mk, markBlockS_mk_length _ xs]
theorem markBlockS_mk_snoc : ∀ (n : Int) (l : List S99) (x : S99), markBlockS_mk n (l ++ [x]) = markBlockS_mk n l ++ [markBlockS_one (n + markBlockS_cnt l) x]
  | n, [], x => by simp [markBlockS_mk, markBlockS_cnt]
  | n, y :: ys, x => by
    simp only [List.cons_append, markBlockS_mk, markBlockS_cnt, markBlockS_mk_snoc _ ys x]
    rw [show n + (markBlockS_cnt1 y : Nat) + (markBlockS_cnt ys : Nat) = n + ((markBlockS_cnt1 y + markBlockS_cnt ys : Nat) : Int) by omega]
theorem markBlockS_cnt_snoc : ∀ (l : List S99) (x : S99), markBlockS_cnt (l ++ [x]) = markBlockS_cnt l + markBlockS_cnt1 x
  | [], x => by simp [markBlockS_cnt]
  | y :: ys, x => by simp only [List.cons_append, markBlockS_cnt, markBlockS_cnt_snoc ys x]; omega
theorem markBlockS_cnt_app : ∀ (l r : List S99), markBlockS_cnt (l ++ r) = markBlockS_cnt l + markBlockS_cnt r
  | [], r => by simp [markBlockS_cnt]
  | y :: ys, r => by simp only [List.cons_append, markBlockS_cnt, markBlockS_cnt_app ys r]; omega
open Mk in
set_option maxHeartbeats 1600000 in
set_option maxRecDepth 100000 in
theorem laws_markBlockS.calls (P0_ : Nat → Prop) (u9000_ : Value) (l0 : List S99) (a1 : Int) (w0 w : World) (hB : Below w0.heap.size w0 w) (ho0 : Kd.S k99 99 w w0.heap.size P0_ u9000_ l0) (hn0 : 0 ≤ a1) (hn1 : a1 + (markBlockS_cnt l0 : Nat) < 2305843009213693952) :
    Calls Try.prog 43 #[u9000_, .int .i64 a1] w fun e w' => e = .returned (.int .i64 (a1 + (markBlockS_cnt l0 : Nat))) ∧ Kd.S k99 99 w' w0.heap.size P0_ u9000_ (markBlockS_mk a1 l0) ∧ Below w0.heap.size w0 w' ∧ Kept w w' P0_ := by
  have hu99 := Try.underlying99
  obtain ⟨A0, c0, rfl⟩ := Kd.S_slice ho0
  have hlen : l0.length ≤ 9223372036854775807 := (Kd.S_reads' ho0).2.2.2.1
  have HS0 := Aside0.mk ho0
  have HB0 := Aside0.mk hB
  clear ho0 hB
  go_enter Try.func43, Try.ntmps43
  go_wp2
  go_loopg [1, 5] l0.length (fun gg v1 v5 wr => ∃ pre post : List S99, v1 = .int .i64 (a1 + (markBlockS_cnt pre : Nat)) ∧ v5 = .int .i64 (pre.length : Int) ∧ Aside0 (l0 = pre ++ post) ∧ post.length ≤ gg ∧ Aside0 (Kd.S k99 99 wr w0.heap.size P0_ (.slice A0 l0.length c0) (markBlockS_mk a1 pre ++ post)) ∧ Aside0 (Below w0.heap.size w0 wr) ∧ Aside0 (Kept w wr P0_))
  case atStart => exact ⟨[], l0, by simp [markBlockS_cnt], rfl, ⟨rfl⟩, Nat.le_refl _, ⟨by simpa [markBlockS_mk] using HS0.out⟩, ⟨HB0.out⟩, ⟨Kept.refl _ _⟩⟩
  case round =>
    obtain ⟨pre, post, rfl, rfl, HL, hg, HS, HB, HK⟩ := hrel
    have hnl : l0.length = pre.length + post.length := by rw [HL.out]; simp
    have hcl : markBlockS_cnt l0 = markBlockS_cnt pre + markBlockS_cnt post := by rw [HL.out, markBlockS_cnt_app]
    cases post with
    | nil =>
      have hd0 : decide (pre.length < l0.length) = false := by simp at hnl; simp [hnl]
      have hle : (l0.length : Int) ≤ (pre.length : Int) := by simp at hnl; omega
      have HF := Aside0.mk (show a1 + (markBlockS_cnt pre : Nat) = a1 + (markBlockS_cnt l0 : Nat) by simp [markBlockS_cnt] at hcl; rw [hcl])
      have HM := Aside0.mk (show markBlockS_mk a1 pre = markBlockS_mk a1 l0 by rw [HL.out, List.append_nil])
      clear hnl hcl
      go_wp2
      go_ret
      exact ⟨by rw [← HF.out]; rfl, by have h_ := HS.out; rwa [List.append_nil, HM.out] at h_, HB.out, HK.out⟩
    | cons x post =>
      simp only [List.length_cons] at hnl hg
      simp only [markBlockS_cnt] at hcl
      have hn2 : a1 + (markBlockS_cnt pre : Nat) + (markBlockS_cnt1 x : Nat) < 2305843009213693952 := by omega
      have hx2 := hn2
      simp only [markBlockS_cnt1] at hx2
      have hlt : pre.length < l0.length := by omega
      have hltz : (pre.length : Int) < (l0.length : Int) := by omega
      have hd0 : decide (pre.length < l0.length) = true := decide_eq_true hlt
      obtain ⟨ad_, hA_⟩ : ∃ ad_, A0 = some ad_ := by
        obtain ⟨ad, hA, _⟩ := (Kd.S_reads' HS.out).2.2.2.2 (by simp [markBlockS_mk_length] <;> omega)
        exact ⟨ad, hA⟩
      subst hA_
      obtain ⟨g, hg_⟩ := Kd.R_head (Kd.S_R HS.out)
      subst hg_
      have hx_ : (markBlockS_mk a1 pre ++ x :: post).getD pre.length z99 = x := Kit.getD_at (by rw [markBlockS_mk_length])
      obtain ⟨v_, hHo⟩ := hole_open (di := k130) (ei := 130) (ys := x.f0) z99 x (fun v_ => [v_, .int .i64 x.f1, .int .i64 x.f2, .int .i64 x.f3]) HS.out HB.out HK.out hlt hx_ (fun _ _ _ hM => k99_openM hM)
      clear hx_ HS HB HK hnl
      have HH := Aside0.mk hHo
      have HCL := Aside0.mk hcl
      clear hHo hcl
      obtain ⟨hx0, hf0⟩ := hole_cells (sz := 4) rfl HH.out 0 _ rfl
      obtain ⟨hx1, hf1⟩ := hole_cells (sz := 4) rfl HH.out 1 _ rfl
      obtain ⟨hx2, hf2⟩ := hole_cells (sz := 4) rfl HH.out 2 _ rfl
      obtain ⟨hx3, hf3⟩ := hole_cells (sz := 4) rfl HH.out 3 _ rfl
      simp only [Nat.mul_one, Nat.add_zero] at hx0 hf0 hx1 hf1 hx2 hf2 hx3 hf3
      obtain ⟨kf_, hf_⟩ := Ev.rounds (markInstrS_flat x.f0 (a1 + (markBlockS_cnt pre : Nat)) (by omega) (by omega) (by omega))
      have HF_ := Aside0.mk hf_
      clear hf_
      have hcall_ := hole_call HH.out (fun oki hb_ hr_ => (laws_markInstrS.calls kf_ oki v_ x.f0 (a1 + (markBlockS_cnt pre : Nat)) _ _ w0 _ hb_ hr_ HF_.out)) rfl
      clear HH
      go_wp2_with fail
      refine hcall_.mono ?_
      rintro e_ w2 ⟨rfl, hH2_⟩
      clear hcall_ HF_
      clear hx0 hf0 hx1 hf1 hx2 hf2 hx3 hf3
      have HH := Aside0.mk hH2_
      clear hH2_
      obtain ⟨hx0, hf0⟩ := hole_cells (sz := 4) rfl HH.out 0 _ rfl
      obtain ⟨hx1, hf1⟩ := hole_cells (sz := 4) rfl HH.out 1 _ rfl
      obtain ⟨hx2, hf2⟩ := hole_cells (sz := 4) rfl HH.out 2 _ rfl
      obtain ⟨hx3, hf3⟩ := hole_cells (sz := 4) rfl HH.out 3 _ rfl
      simp only [Nat.mul_one, Nat.add_zero] at hx0 hf0 hx1 hf1 hx2 hf2 hx3 hf3
      have hH2_ := hole_store (sz := 4) rfl HH.out 1 (by decide) (.int .i64 (a1 + (markBlockS_cnt pre : Nat) + (markInstrS_cnt x.f0 : Nat))) rfl
      simp only [Nat.mul_one, Nat.add_zero, List.set] at hH2_
      clear HH
      have HH := Aside0.mk hH2_
      clear hH2_
      have hH2_ := hole_store (sz := 4) rfl HH.out 2 (by decide) (.int .i64 (a1 + (markBlockS_cnt pre : Nat) + (markInstrS_cnt x.f0 : Nat) + 1)) rfl
      simp only [Nat.mul_one, Nat.add_zero, List.set] at hH2_
      clear HH
      have HH := Aside0.mk hH2_
      clear hH2_
      have hH2_ := hole_store (sz := 4) rfl HH.out 3 (by decide) (.int .i64 (a1 + (markBlockS_cnt pre : Nat) + (markInstrS_cnt x.f0 : Nat) + 1 + 1)) rfl
      simp only [Nat.mul_one, Nat.add_zero, List.set] at hH2_
      clear HH
      have HH := Aside0.mk hH2_
      clear hH2_
      have hcl_ := hole_close HH.out (markBlockS_one (a1 + (markBlockS_cnt pre : Nat)) x) (fun _ _ hr_ => k99_mkM _ _ _ _ hr_)
      clear HH
      have HS2 := Aside0.mk hcl_.1
      have HB2 := Aside0.mk hcl_.2.1
      have HK2 := Aside0.mk hcl_.2.2
      clear hcl_
      have HE := Aside0.mk (show a1 + (markBlockS_cnt (pre ++ [x]) : Nat) = a1 + (markBlockS_cnt pre : Nat) + (markInstrS_cnt x.f0 : Nat) + 1 + 1 + 1 by rw [markBlockS_cnt_snoc]; simp only [markBlockS_cnt1]; omega)
      have HX := Aside0.mk (show (markBlockS_mk a1 pre ++ x :: post).set pre.length (markBlockS_one (a1 + (markBlockS_cnt pre : Nat)) x) = markBlockS_mk a1 (pre ++ [x]) ++ post by rw [Kit.set_at (by rw [markBlockS_mk_length]), markBlockS_mk_snoc]; simp)
      have HL2 := Aside0.mk (show l0 = (pre ++ [x]) ++ post by rw [HL.out]; simp)
      clear hn2 HL HCL
      go_wp2_with fail
      go_roundg post.length
      case measure => omega
      case rel => exact ⟨pre ++ [x], post, by rw [HE.out], by simp, HL2, Nat.le_refl _, ⟨by have h_ := HS2.out; rwa [HX.out] at h_⟩, HB2, HK2⟩

/-! ### laws_heldInstrS: function 82 -/
def laws_heldInstrS.l0 : Nat → List (S130) → Int → Int → Option (Int)
 | 0, _, _, _ => none
 | k + 1, x0, x1, x5 => if x5 < (x0.length : Int) then (if 0 ≤ x5 then (if ((rd_T130 x0 x5).f0) = x1 then (if ((rd_T130 x0 x5).f1) = (wrap64 (x1 + 1)) then (if ((rd_T130 x0 x5).f2) = (wrap64 ((wrap64 (x1 + 1)) + 1)) then (if ((rd_T130 x0 x5).f3) = (wrap64 ((wrap64 ((wrap64 (x1 + 1)) + 1)) + 1)) then (if ((rd_T130 x0 x5).f4) = (wrap64 ((wrap64 ((wrap64 ((wrap64 (x1 + 1)) + 1)) + 1)) + 1)) then (laws_heldInstrS.l0 k x0 (wrap64 ((wrap64 ((wrap64 ((wrap64 ((wrap64 (x1 + 1)) + 1)) + 1)) + 1)) + 1)) (wrap64 (x5 + 1))) else (some (-1))) else (some (-1))) else (some (-1))) else (some (-1))) else (some (-1))) else (none)) else (some x1)
def laws_heldInstrS.f (k : Nat) (l0 : List (S130)) (a1 : Int) : Option (Int) := laws_heldInstrS.l0 k l0 a1 0
theorem laws_heldInstrS.mono_l : ∀ k, (∀ y0 y1 y2, LeO (laws_heldInstrS.l0 k y0 y1 y2) (laws_heldInstrS.l0 (k + 1) y0 y1 y2))
 | 0 => fun _ _ _ r h => by simp [laws_heldInstrS.l0] at h
 | k + 1 => by
  have ih0 := laws_heldInstrS.mono_l k
  ·intro y0 y1 y2
   unfold laws_heldInstrS.l0
   repeat' first
   | with_reducible apply ih0
   | (with_reducible exact LeO.refl _)
   | (with_reducible exact LeO.none _)
   | (with_reducible refine LeO.ite ?_ ?_)
   | (with_reducible refine LeO.bind ?_ (fun _ => ?_))
   | apply ih0
   | exact LeO.none _
   | refine LeO.ite ?_ ?_
   | refine LeO.bind ?_ (fun _ => ?_)
theorem laws_heldInstrS.mono : ∀ a0 a1 k, LeO (laws_heldInstrS.f k a0 a1) (laws_heldInstrS.f (k + 1) a0 a1) := by
 intro a0 a1 k
 have ih0 := laws_heldInstrS.mono_l k
 unfold laws_heldInstrS.f
 repeat' first
   | with_reducible apply ih0
   | (with_reducible exact LeO.refl _)
   | (with_reducible exact LeO.none _)
   | (with_reducible refine LeO.ite ?_ ?_)
   | (with_reducible refine LeO.bind ?_ (fun _ => ?_))
   | apply ih0
   | exact LeO.none _
   | refine LeO.ite ?_ ?_
   | refine LeO.bind ?_ (fun _ => ?_)
set_option maxHeartbeats 8000000 in
set_option maxRecDepth 100000 in
theorem laws_heldInstrS.calls (k : Nat) (A0 : Option Addr) (c0 : Nat) (l0 : List (S130)) (a1 : Int) (r : Int) (w : World) (hr0 : Kd.C k130 w A0 l0.length l0) (hc0 : l0.length ≤ c0) (h : laws_heldInstrS.f k l0 a1 = some r) :
  Calls Try.prog 82 #[.slice A0 l0.length c0, .int .i64 a1] w fun e w' => e = .returned (.int .i64 r) ∧ Drawn0 w w' := by
 have HR0 := Aside0.mk hr0
 have HC0 := Aside0.mk hc0
 clear hr0 hc0
 have H : (laws_heldInstrS.l0 k l0 a1 0) = some r := h
 clear h
 have H' := Aside0.mk H
 clear H
 go_enter Try.func82, Try.ntmps82
 go_wp2
 go_loopg [1, 5] k (fun kq v1 v5 w' => ∃ (x1_1 : Int) (x5_1 : Int), v1 = .int .i64 x1_1 ∧ v5 = .int .i64 x5_1 ∧ Aside0 (laws_heldInstrS.l0 kq l0 x1_1 x5_1 = some r) ∧ Aside0 (kq ≤ k) ∧ Drawn0 w w')
 case atStart => exact ⟨(a1), (0), lF, lF, H', ⟨Nat.le_refl _⟩, by repeat (first | exact Drawn0.refl _ | apply Drawn0.step)⟩
 case round =>
  clear H'
  try clear p2
  obtain ⟨x1_1, x5_1, rfl, rfl, HA, HK1, ⟨m1, rfl⟩⟩ := hrel
  cases gk with
  | zero => exact absurd HA.out (by simp [laws_heldInstrS.l0])
  | succ k1 =>
   have H := HA.out
   clear HA
   simp only [laws_heldInstrS.l0] at H
   by_cases c3 : x5_1 < (l0.length : Int)
   ·rw [if_pos c3] at H
    have c3b0 : decide (x5_1 < (l0.length : Int)) = true := decide_eq_true c3
    clear c3
    by_cases c4 : 0 ≤ x5_1
    ·rw [if_pos c4] at H
     have c4b0 : decide (0 ≤ x5_1) = true := decide_eq_true c4
     clear c4
     by_cases c5 : ((rd_T130 l0 x5_1).f0) = x1_1
     ·rw [if_pos c5] at H
      have c5b0 : (((rd_T130 l0 x5_1).f0) == x1_1) = true := beq_iff_eq.mpr c5
      have c5b1 : (((rd_T130 l0 x5_1).f0) != x1_1) = false := bne_eq_false_iff_eq.mpr c5
      clear c5
      by_cases c6 : ((rd_T130 l0 x5_1).f1) = (wrap64 (x1_1 + 1))
      ·rw [if_pos c6] at H
       have c6b0 : (((rd_T130 l0 x5_1).f1) == (wrap64 (x1_1 + 1))) = true := beq_iff_eq.mpr c6
       have c6b1 : (((rd_T130 l0 x5_1).f1) != (wrap64 (x1_1 + 1))) = false := bne_eq_false_iff_eq.mpr c6
       clear c6
       by_cases c7 : ((rd_T130 l0 x5_1).f2) = (wrap64 ((wrap64 (x1_1 + 1)) + 1))
       ·rw [if_pos c7] at H
        have c7b0 : (((rd_T130 l0 x5_1).f2) == (wrap64 ((wrap64 (x1_1 + 1)) + 1))) = true := beq_iff_eq.mpr c7
        have c7b1 : (((rd_T130 l0 x5_1).f2) != (wrap64 ((wrap64 (x1_1 + 1)) + 1))) = false := bne_eq_false_iff_eq.mpr c7
        clear c7
        by_cases c8 : ((rd_T130 l0 x5_1).f3) = (wrap64 ((wrap64 ((wrap64 (x1_1 + 1)) + 1)) + 1))
        ·rw [if_pos c8] at H
         have c8b0 : (((rd_T130 l0 x5_1).f3) == (wrap64 ((wrap64 ((wrap64 (x1_1 + 1)) + 1)) + 1))) = true := beq_iff_eq.mpr c8
         have c8b1 : (((rd_T130 l0 x5_1).f3) != (wrap64 ((wrap64 ((wrap64 (x1_1 + 1)) + 1)) + 1))) = false := bne_eq_false_iff_eq.mpr c8
         clear c8
         by_cases c9 : ((rd_T130 l0 x5_1).f4) = (wrap64 ((wrap64 ((wrap64 ((wrap64 (x1_1 + 1)) + 1)) + 1)) + 1))
         ·rw [if_pos c9] at H
          have c9b0 : (((rd_T130 l0 x5_1).f4) == (wrap64 ((wrap64 ((wrap64 ((wrap64 (x1_1 + 1)) + 1)) + 1)) + 1))) = true := beq_iff_eq.mpr c9
          have c9b1 : (((rd_T130 l0 x5_1).f4) != (wrap64 ((wrap64 ((wrap64 ((wrap64 (x1_1 + 1)) + 1)) + 1)) + 1))) = false := bne_eq_false_iff_eq.mpr c9
          clear c9
          have H' := Aside0.mk H
          clear H
          have p259 : 0 ≤ (x5_1 : Int) := lD
          have q259 : x5_1 < (l0.length : Int) := lD
          obtain ⟨ad259, e259, hx259_0, hx259_1, hx259_2, hx259_3, hx259_4⟩ := at_T130 HR0.out x5_1 p259 q259
          cases e259
          replace p259 := eq_true p259
          replace q259 := eq_true q259
          have p260 : 0 ≤ (x5_1 : Int) := lD
          have q260 : x5_1 < (l0.length : Int) := lD
          obtain ⟨ad260, e260, hx260_0, hx260_1, hx260_2, hx260_3, hx260_4⟩ := at_T130 HR0.out x5_1 p260 q260
          obtain rfl : ad259 = ad260 := (by injection e260)
          replace p260 := eq_true p260
          replace q260 := eq_true q260
          have p261 : 0 ≤ (x5_1 : Int) := lD
          have q261 : x5_1 < (l0.length : Int) := lD
          obtain ⟨ad261, e261, hx261_0, hx261_1, hx261_2, hx261_3, hx261_4⟩ := at_T130 HR0.out x5_1 p261 q261
          obtain rfl : ad259 = ad261 := (by injection e261)
          replace p261 := eq_true p261
          replace q261 := eq_true q261
          have p262 : 0 ≤ (x5_1 : Int) := lD
          have q262 : x5_1 < (l0.length : Int) := lD
          obtain ⟨ad262, e262, hx262_0, hx262_1, hx262_2, hx262_3, hx262_4⟩ := at_T130 HR0.out x5_1 p262 q262
          obtain rfl : ad259 = ad262 := (by injection e262)
          replace p262 := eq_true p262
          replace q262 := eq_true q262
          have p263 : 0 ≤ (x5_1 : Int) := lD
          have q263 : x5_1 < (l0.length : Int) := lD
          obtain ⟨ad263, e263, hx263_0, hx263_1, hx263_2, hx263_3, hx263_4⟩ := at_T130 HR0.out x5_1 p263 q263
          obtain rfl : ad259 = ad263 := (by injection e263)
          replace p263 := eq_true p263
          replace q263 := eq_true q263
          go_wp2
          go_roundg k1
          case measure => have := HK1.out; omega
          case rel => exact ⟨(wrap64 ((wrap64 ((wrap64 ((wrap64 ((wrap64 (x1_1 + 1)) + 1)) + 1)) + 1)) + 1)), (wrap64 (x5_1 + 1)), lF, lF, H', ⟨by have := HK1.out; omega⟩, by repeat (first | exact Drawn0.refl _ | apply Drawn0.step)⟩
         ·rw [if_neg c9] at H
          have c9b0 : (((rd_T130 l0 x5_1).f4) == (wrap64 ((wrap64 ((wrap64 ((wrap64 (x1_1 + 1)) + 1)) + 1)) + 1))) = false := beq_eq_false_iff_ne.mpr c9
          have c9b1 : (((rd_T130 l0 x5_1).f4) != (wrap64 ((wrap64 ((wrap64 ((wrap64 (x1_1 + 1)) + 1)) + 1)) + 1))) = true := bne_iff_ne.mpr c9
          obtain rfl := Option.some.inj H
          have p259 : 0 ≤ (x5_1 : Int) := lD
          have q259 : x5_1 < (l0.length : Int) := lD
          obtain ⟨ad259, e259, hx259_0, hx259_1, hx259_2, hx259_3, hx259_4⟩ := at_T130 HR0.out x5_1 p259 q259
          cases e259
          replace p259 := eq_true p259
          replace q259 := eq_true q259
          have p260 : 0 ≤ (x5_1 : Int) := lD
          have q260 : x5_1 < (l0.length : Int) := lD
          obtain ⟨ad260, e260, hx260_0, hx260_1, hx260_2, hx260_3, hx260_4⟩ := at_T130 HR0.out x5_1 p260 q260
          obtain rfl : ad259 = ad260 := (by injection e260)
          replace p260 := eq_true p260
          replace q260 := eq_true q260
          have p261 : 0 ≤ (x5_1 : Int) := lD
          have q261 : x5_1 < (l0.length : Int) := lD
          obtain ⟨ad261, e261, hx261_0, hx261_1, hx261_2, hx261_3, hx261_4⟩ := at_T130 HR0.out x5_1 p261 q261
          obtain rfl : ad259 = ad261 := (by injection e261)
          replace p261 := eq_true p261
          replace q261 := eq_true q261
          have p262 : 0 ≤ (x5_1 : Int) := lD
          have q262 : x5_1 < (l0.length : Int) := lD
          obtain ⟨ad262, e262, hx262_0, hx262_1, hx262_2, hx262_3, hx262_4⟩ := at_T130 HR0.out x5_1 p262 q262
          obtain rfl : ad259 = ad262 := (by injection e262)
          replace p262 := eq_true p262
          replace q262 := eq_true q262
          have p263 : 0 ≤ (x5_1 : Int) := lD
          have q263 : x5_1 < (l0.length : Int) := lD
          obtain ⟨ad263, e263, hx263_0, hx263_1, hx263_2, hx263_3, hx263_4⟩ := at_T130 HR0.out x5_1 p263 q263
          obtain rfl : ad259 = ad263 := (by injection e263)
          replace p263 := eq_true p263
          replace q263 := eq_true q263
          first | (go_wp2; go_ret; exact ⟨by first | rfl | (simp; done) | (simp [*]; done), by repeat (first | exact Drawn0.refl _ | apply Drawn0.step)⟩) | (exfalso; simp only [decide_eq_false_iff_not, decide_eq_true_eq] at *; omega)
        ·rw [if_neg c8] at H
         have c8b0 : (((rd_T130 l0 x5_1).f3) == (wrap64 ((wrap64 ((wrap64 (x1_1 + 1)) + 1)) + 1))) = false := beq_eq_false_iff_ne.mpr c8
         have c8b1 : (((rd_T130 l0 x5_1).f3) != (wrap64 ((wrap64 ((wrap64 (x1_1 + 1)) + 1)) + 1))) = true := bne_iff_ne.mpr c8
         obtain rfl := Option.some.inj H
         have p259 : 0 ≤ (x5_1 : Int) := lD
         have q259 : x5_1 < (l0.length : Int) := lD
         obtain ⟨ad259, e259, hx259_0, hx259_1, hx259_2, hx259_3, hx259_4⟩ := at_T130 HR0.out x5_1 p259 q259
         cases e259
         replace p259 := eq_true p259
         replace q259 := eq_true q259
         have p260 : 0 ≤ (x5_1 : Int) := lD
         have q260 : x5_1 < (l0.length : Int) := lD
         obtain ⟨ad260, e260, hx260_0, hx260_1, hx260_2, hx260_3, hx260_4⟩ := at_T130 HR0.out x5_1 p260 q260
         obtain rfl : ad259 = ad260 := (by injection e260)
         replace p260 := eq_true p260
         replace q260 := eq_true q260
         have p261 : 0 ≤ (x5_1 : Int) := lD
         have q261 : x5_1 < (l0.length : Int) := lD
         obtain ⟨ad261, e261, hx261_0, hx261_1, hx261_2, hx261_3, hx261_4⟩ := at_T130 HR0.out x5_1 p261 q261
         obtain rfl : ad259 = ad261 := (by injection e261)
         replace p261 := eq_true p261
         replace q261 := eq_true q261
         have p262 : 0 ≤ (x5_1 : Int) := lD
         have q262 : x5_1 < (l0.length : Int) := lD
         obtain ⟨ad262, e262, hx262_0, hx262_1, hx262_2, hx262_3, hx262_4⟩ := at_T130 HR0.out x5_1 p262 q262
         obtain rfl : ad259 = ad262 := (by injection e262)
         replace p262 := eq_true p262
         replace q262 := eq_true q262
         first | (go_wp2; go_ret; exact ⟨by first | rfl | (simp; done) | (simp [*]; done), by repeat (first | exact Drawn0.refl _ | apply Drawn0.step)⟩) | (exfalso; simp only [decide_eq_false_iff_not, decide_eq_true_eq] at *; omega)
       ·rw [if_neg c7] at H
        have c7b0 : (((rd_T130 l0 x5_1).f2) == (wrap64 ((wrap64 (x1_1 + 1)) + 1))) = false := beq_eq_false_iff_ne.mpr c7
        have c7b1 : (((rd_T130 l0 x5_1).f2) != (wrap64 ((wrap64 (x1_1 + 1)) + 1))) = true := bne_iff_ne.mpr c7
        obtain rfl := Option.some.inj H
        have p259 : 0 ≤ (x5_1 : Int) := lD
        have q259 : x5_1 < (l0.length : Int) := lD
        obtain ⟨ad259, e259, hx259_0, hx259_1, hx259_2, hx259_3, hx259_4⟩ := at_T130 HR0.out x5_1 p259 q259
        cases e259
        replace p259 := eq_true p259
        replace q259 := eq_true q259
        have p260 : 0 ≤ (x5_1 : Int) := lD
        have q260 : x5_1 < (l0.length : Int) := lD
        obtain ⟨ad260, e260, hx260_0, hx260_1, hx260_2, hx260_3, hx260_4⟩ := at_T130 HR0.out x5_1 p260 q260
        obtain rfl : ad259 = ad260 := (by injection e260)
        replace p260 := eq_true p260
        replace q260 := eq_true q260
        have p261 : 0 ≤ (x5_1 : Int) := lD
        have q261 : x5_1 < (l0.length : Int) := lD
        obtain ⟨ad261, e261, hx261_0, hx261_1, hx261_2, hx261_3, hx261_4⟩ := at_T130 HR0.out x5_1 p261 q261
        obtain rfl : ad259 = ad261 := (by injection e261)
        replace p261 := eq_true p261
        replace q261 := eq_true q261
        first | (go_wp2; go_ret; exact ⟨by first | rfl | (simp; done) | (simp [*]; done), by repeat (first | exact Drawn0.refl _ | apply Drawn0.step)⟩) | (exfalso; simp only [decide_eq_false_iff_not, decide_eq_true_eq] at *; omega)
      ·rw [if_neg c6] at H
       have c6b0 : (((rd_T130 l0 x5_1).f1) == (wrap64 (x1_1 + 1))) = false := beq_eq_false_iff_ne.mpr c6
       have c6b1 : (((rd_T130 l0 x5_1).f1) != (wrap64 (x1_1 + 1))) = true := bne_iff_ne.mpr c6
       obtain rfl := Option.some.inj H
       have p259 : 0 ≤ (x5_1 : Int) := lD
       have q259 : x5_1 < (l0.length : Int) := lD
       obtain ⟨ad259, e259, hx259_0, hx259_1, hx259_2, hx259_3, hx259_4⟩ := at_T130 HR0.out x5_1 p259 q259
       cases e259
       replace p259 := eq_true p259
       replace q259 := eq_true q259
       have p260 : 0 ≤ (x5_1 : Int) := lD
       have q260 : x5_1 < (l0.length : Int) := lD
       obtain ⟨ad260, e260, hx260_0, hx260_1, hx260_2, hx260_3, hx260_4⟩ := at_T130 HR0.out x5_1 p260 q260
       obtain rfl : ad259 = ad260 := (by injection e260)
       replace p260 := eq_true p260
       replace q260 := eq_true q260
       first | (go_wp2; go_ret; exact ⟨by first | rfl | (simp; done) | (simp [*]; done), by repeat (first | exact Drawn0.refl _ | apply Drawn0.step)⟩) | (exfalso; simp only [decide_eq_false_iff_not, decide_eq_true_eq] at *; omega)
     ·rw [if_neg c5] at H
      have c5b0 : (((rd_T130 l0 x5_1).f0) == x1_1) = false := beq_eq_false_iff_ne.mpr c5
      have c5b1 : (((rd_T130 l0 x5_1).f0) != x1_1) = true := bne_iff_ne.mpr c5
      obtain rfl := Option.some.inj H
      have p259 : 0 ≤ (x5_1 : Int) := lD
      have q259 : x5_1 < (l0.length : Int) := lD
      obtain ⟨ad259, e259, hx259_0, hx259_1, hx259_2, hx259_3, hx259_4⟩ := at_T130 HR0.out x5_1 p259 q259
      cases e259
      replace p259 := eq_true p259
      replace q259 := eq_true q259
      first | (go_wp2; go_ret; exact ⟨by first | rfl | (simp; done) | (simp [*]; done), by repeat (first | exact Drawn0.refl _ | apply Drawn0.step)⟩) | (exfalso; simp only [decide_eq_false_iff_not, decide_eq_true_eq] at *; omega)
    ·rw [if_neg c4] at H
     exact absurd H (by simp)
   ·rw [if_neg c3] at H
    have c3b0 : decide (x5_1 < (l0.length : Int)) = false := decide_eq_false c3
    clear c3
    obtain rfl := Option.some.inj H
    first | (go_wp2; go_ret; exact ⟨by first | rfl | (simp; done) | (simp [*]; done), by repeat (first | exact Drawn0.refl _ | apply Drawn0.step)⟩) | (exfalso; simp only [decide_eq_false_iff_not, decide_eq_true_eq] at *; omega)

/-! ### laws_heldBlockS: function 44 -/
def laws_heldBlockS.l0 : Nat → List (S99) → Int → Int → Option (Int)
 | 0, _, _, _ => none
 | k + 1, x0, x1, x5 => if x5 < (x0.length : Int) then (if 0 ≤ x5 then ((laws_heldInstrS.f k ((rd_T99 x0 x5).f0) x1).bind fun t265 => (if t265 < 0 then (some (-1)) else (if ((rd_T99 x0 x5).f1) = t265 then (if ((rd_T99 x0 x5).f2) = (wrap64 (t265 + 1)) then (if ((rd_T99 x0 x5).f3) = (wrap64 ((wrap64 (t265 + 1)) + 1)) then (laws_heldBlockS.l0 k x0 (wrap64 ((wrap64 ((wrap64 (t265 + 1)) + 1)) + 1)) (wrap64 (x5 + 1))) else (some (-1))) else (some (-1))) else (some (-1))))) else (none)) else (some x1)
def laws_heldBlockS.f (k : Nat) (l0 : List (S99)) (a1 : Int) : Option (Int) := laws_heldBlockS.l0 k l0 a1 0
theorem laws_heldBlockS.mono_l : ∀ k, (∀ y0 y1 y2, LeO (laws_heldBlockS.l0 k y0 y1 y2) (laws_heldBlockS.l0 (k + 1) y0 y1 y2))
 | 0 => fun _ _ _ r h => by simp [laws_heldBlockS.l0] at h
 | k + 1 => by
  have ih0 := laws_heldBlockS.mono_l k
  ·intro y0 y1 y2
   unfold laws_heldBlockS.l0
   repeat' first
   | with_reducible apply ih0
   | with_reducible apply laws_heldInstrS.mono
   | (with_reducible exact LeO.refl _)
   | (with_reducible exact LeO.none _)
   | (with_reducible refine LeO.ite ?_ ?_)
   | (with_reducible refine LeO.bind ?_ (fun _ => ?_))
   | apply ih0
   | apply laws_heldInstrS.mono
   | exact LeO.none _
   | refine LeO.ite ?_ ?_
   | refine LeO.bind ?_ (fun _ => ?_)
theorem laws_heldBlockS.mono : ∀ a0 a1 k, LeO (laws_heldBlockS.f k a0 a1) (laws_heldBlockS.f (k + 1) a0 a1) := by
 intro a0 a1 k
 have ih0 := laws_heldBlockS.mono_l k
 unfold laws_heldBlockS.f
 repeat' first
   | with_reducible apply ih0
   | with_reducible apply laws_heldInstrS.mono
   | (with_reducible exact LeO.refl _)
   | (with_reducible exact LeO.none _)
   | (with_reducible refine LeO.ite ?_ ?_)
   | (with_reducible refine LeO.bind ?_ (fun _ => ?_))
   | apply ih0
   | apply laws_heldInstrS.mono
   | exact LeO.none _
   | refine LeO.ite ?_ ?_
   | refine LeO.bind ?_ (fun _ => ?_)
set_option maxHeartbeats 8000000 in
set_option maxRecDepth 100000 in
theorem laws_heldBlockS.calls (k : Nat) (A0 : Option Addr) (c0 : Nat) (l0 : List (S99)) (a1 : Int) (r : Int) (w : World) (hr0 : Kd.C k99 w A0 l0.length l0) (hc0 : l0.length ≤ c0) (h : laws_heldBlockS.f k l0 a1 = some r) :
  Calls Try.prog 44 #[.slice A0 l0.length c0, .int .i64 a1] w fun e w' => e = .returned (.int .i64 r) ∧ Drawn0 w w' := by
 have HR0 := Aside0.mk hr0
 have HC0 := Aside0.mk hc0
 clear hr0 hc0
 have H : (laws_heldBlockS.l0 k l0 a1 0) = some r := h
 clear h
 have H' := Aside0.mk H
 clear H
 go_enter Try.func44, Try.ntmps44
 go_wp2
 go_loopg [1, 5] k (fun kq v1 v5 w' => ∃ (x1_1 : Int) (x5_1 : Int), v1 = .int .i64 x1_1 ∧ v5 = .int .i64 x5_1 ∧ Aside0 (laws_heldBlockS.l0 kq l0 x1_1 x5_1 = some r) ∧ Aside0 (kq ≤ k) ∧ Drawn0 w w')
 case atStart => exact ⟨(a1), (0), lF, lF, H', ⟨Nat.le_refl _⟩, by repeat (first | exact Drawn0.refl _ | apply Drawn0.step)⟩
 case round =>
  clear H'
  try clear p2
  obtain ⟨x1_1, x5_1, rfl, rfl, HA, HK1, ⟨m1, rfl⟩⟩ := hrel
  cases gk with
  | zero => exact absurd HA.out (by simp [laws_heldBlockS.l0])
  | succ k1 =>
   have H := HA.out
   clear HA
   simp only [laws_heldBlockS.l0] at H
   by_cases c3 : x5_1 < (l0.length : Int)
   ·rw [if_pos c3] at H
    have c3b0 : decide (x5_1 < (l0.length : Int)) = true := decide_eq_true c3
    clear c3
    by_cases c4 : 0 ≤ x5_1
    ·rw [if_pos c4] at H
     have c4b0 : decide (0 ≤ x5_1) = true := decide_eq_true c4
     clear c4
     replace H := lO H
     obtain ⟨t265, A5, H⟩ := H
     by_cases c6 : t265 < 0
     ·rw [if_pos c6] at H
      have c6b0 : decide (t265 < 0) = true := decide_eq_true c6
      clear c6
      obtain rfl := Option.some.inj H
      have p264 : 0 ≤ (x5_1 : Int) := lD
      have q264 : x5_1 < (l0.length : Int) := lD
      obtain ⟨ad264, A264_0, c264_0, e264, hx264_0, hx264_1, hx264_2, hx264_3, hl264_0, hi264_0⟩ := at_T99 HR0.out x5_1 p264 q264
      cases e264
      have HR264_0 := Aside0.mk hi264_0
      have HC264_0 := Aside0.mk hl264_0
      clear hi264_0 hl264_0
      replace p264 := eq_true p264
      replace q264 := eq_true q264
      go_wp2_with (first | ((with_reducible refine gate_callee (f := 82) rfl ?_); refine gl_ (some 18) (Try.func82) #[.slice A264_0 ((rd_T99 l0 x5_1).f0).length c264_0, .int .i64 x1_1] ?_; (with_reducible refine (laws_heldInstrS.calls k1 _ _ ((rd_T99 l0 x5_1).f0) x1_1 t265 _ ?side1 ?side2 A5.out).mono ?_); (case side1 => repeat (first | exact HR264_0.out | (with_reducible refine Kd.C_alloc ?_ _) | (with_reducible refine Kd.C_drewN ?_ _) | (with_reducible refine Kd.C_drew ?_))); (case side2 => exact HC264_0.out); rintro e w' ⟨rfl, ⟨nd, rfl⟩⟩; refine ⟨_, rfl, ?_⟩))
      go_ret
      exact ⟨by first | rfl | (simp; done) | (simp [*]; done), by repeat (first | exact Drawn0.refl _ | apply Drawn0.step)⟩
     ·rw [if_neg c6] at H
      have c6b0 : decide (t265 < 0) = false := decide_eq_false c6
      clear c6
      by_cases c7 : ((rd_T99 l0 x5_1).f1) = t265
      ·rw [if_pos c7] at H
       have c7b0 : (((rd_T99 l0 x5_1).f1) == t265) = true := beq_iff_eq.mpr c7
       have c7b1 : (((rd_T99 l0 x5_1).f1) != t265) = false := bne_eq_false_iff_eq.mpr c7
       clear c7
       by_cases c8 : ((rd_T99 l0 x5_1).f2) = (wrap64 (t265 + 1))
       ·rw [if_pos c8] at H
        have c8b0 : (((rd_T99 l0 x5_1).f2) == (wrap64 (t265 + 1))) = true := beq_iff_eq.mpr c8
        have c8b1 : (((rd_T99 l0 x5_1).f2) != (wrap64 (t265 + 1))) = false := bne_eq_false_iff_eq.mpr c8
        clear c8
        by_cases c9 : ((rd_T99 l0 x5_1).f3) = (wrap64 ((wrap64 (t265 + 1)) + 1))
        ·rw [if_pos c9] at H
         have c9b0 : (((rd_T99 l0 x5_1).f3) == (wrap64 ((wrap64 (t265 + 1)) + 1))) = true := beq_iff_eq.mpr c9
         have c9b1 : (((rd_T99 l0 x5_1).f3) != (wrap64 ((wrap64 (t265 + 1)) + 1))) = false := bne_eq_false_iff_eq.mpr c9
         clear c9
         have H' := Aside0.mk H
         clear H
         have p264 : 0 ≤ (x5_1 : Int) := lD
         have q264 : x5_1 < (l0.length : Int) := lD
         obtain ⟨ad264, A264_0, c264_0, e264, hx264_0, hx264_1, hx264_2, hx264_3, hl264_0, hi264_0⟩ := at_T99 HR0.out x5_1 p264 q264
         cases e264
         have HR264_0 := Aside0.mk hi264_0
         have HC264_0 := Aside0.mk hl264_0
         clear hi264_0 hl264_0
         replace p264 := eq_true p264
         replace q264 := eq_true q264
         go_wp2_with (first | ((with_reducible refine gate_callee (f := 82) rfl ?_); refine gl_ (some 18) (Try.func82) #[.slice A264_0 ((rd_T99 l0 x5_1).f0).length c264_0, .int .i64 x1_1] ?_; (with_reducible refine (laws_heldInstrS.calls k1 _ _ ((rd_T99 l0 x5_1).f0) x1_1 t265 _ ?side1 ?side2 A5.out).mono ?_); (case side1 => repeat (first | exact HR264_0.out | (with_reducible refine Kd.C_alloc ?_ _) | (with_reducible refine Kd.C_drewN ?_ _) | (with_reducible refine Kd.C_drew ?_))); (case side2 => exact HC264_0.out); rintro e w' ⟨rfl, ⟨nd, rfl⟩⟩; refine ⟨_, rfl, ?_⟩; have p266 : 0 ≤ (x5_1 : Int) := lD; have q266 : x5_1 < (l0.length : Int) := lD; obtain ⟨ad266, A266_0, c266_0, e266, hx266_0, hx266_1, hx266_2, hx266_3, hl266_0, hi266_0⟩ := at_T99 HR0.out x5_1 p266 q266; obtain rfl : ad264 = ad266 := (by injection e266); have HR266_0 := Aside0.mk hi266_0; have HC266_0 := Aside0.mk hl266_0; clear hi266_0 hl266_0; replace p266 := eq_true p266; replace q266 := eq_true q266; have ea_ := Option.some.inj (hx264_0.symm.trans hx266_0); injection ea_ with ea_ en_ ec_; subst ea_; subst ec_; clear en_; have p267 : 0 ≤ (x5_1 : Int) := lD; have q267 : x5_1 < (l0.length : Int) := lD; obtain ⟨ad267, A267_0, c267_0, e267, hx267_0, hx267_1, hx267_2, hx267_3, hl267_0, hi267_0⟩ := at_T99 HR0.out x5_1 p267 q267; obtain rfl : ad264 = ad267 := (by injection e267); have HR267_0 := Aside0.mk hi267_0; have HC267_0 := Aside0.mk hl267_0; clear hi267_0 hl267_0; replace p267 := eq_true p267; replace q267 := eq_true q267; have ea_ := Option.some.inj (hx264_0.symm.trans hx267_0); injection ea_ with ea_ en_ ec_; subst ea_; subst ec_; clear en_; have p268 : 0 ≤ (x5_1 : Int) := lD; have q268 : x5_1 < (l0.length : Int) := lD; obtain ⟨ad268, A268_0, c268_0, e268, hx268_0, hx268_1, hx268_2, hx268_3, hl268_0, hi268_0⟩ := at_T99 HR0.out x5_1 p268 q268; obtain rfl : ad264 = ad268 := (by injection e268); have HR268_0 := Aside0.mk hi268_0; have HC268_0 := Aside0.mk hl268_0; clear hi268_0 hl268_0; replace p268 := eq_true p268; replace q268 := eq_true q268; have ea_ := Option.some.inj (hx264_0.symm.trans hx268_0); injection ea_ with ea_ en_ ec_; subst ea_; subst ec_; clear en_))
         go_roundg k1
         case measure => have := HK1.out; omega
         case rel => exact ⟨(wrap64 ((wrap64 ((wrap64 (t265 + 1)) + 1)) + 1)), (wrap64 (x5_1 + 1)), lF, lF, H', ⟨by have := HK1.out; omega⟩, by repeat (first | exact Drawn0.refl _ | apply Drawn0.step)⟩
        ·rw [if_neg c9] at H
         have c9b0 : (((rd_T99 l0 x5_1).f3) == (wrap64 ((wrap64 (t265 + 1)) + 1))) = false := beq_eq_false_iff_ne.mpr c9
         have c9b1 : (((rd_T99 l0 x5_1).f3) != (wrap64 ((wrap64 (t265 + 1)) + 1))) = true := bne_iff_ne.mpr c9
         obtain rfl := Option.some.inj H
         have p264 : 0 ≤ (x5_1 : Int) := lD
         have q264 : x5_1 < (l0.length : Int) := lD
         obtain ⟨ad264, A264_0, c264_0, e264, hx264_0, hx264_1, hx264_2, hx264_3, hl264_0, hi264_0⟩ := at_T99 HR0.out x5_1 p264 q264
         cases e264
         have HR264_0 := Aside0.mk hi264_0
         have HC264_0 := Aside0.mk hl264_0
         clear hi264_0 hl264_0
         replace p264 := eq_true p264
         replace q264 := eq_true q264
         go_wp2_with (first | ((with_reducible refine gate_callee (f := 82) rfl ?_); refine gl_ (some 18) (Try.func82) #[.slice A264_0 ((rd_T99 l0 x5_1).f0).length c264_0, .int .i64 x1_1] ?_; (with_reducible refine (laws_heldInstrS.calls k1 _ _ ((rd_T99 l0 x5_1).f0) x1_1 t265 _ ?side1 ?side2 A5.out).mono ?_); (case side1 => repeat (first | exact HR264_0.out | (with_reducible refine Kd.C_alloc ?_ _) | (with_reducible refine Kd.C_drewN ?_ _) | (with_reducible refine Kd.C_drew ?_))); (case side2 => exact HC264_0.out); rintro e w' ⟨rfl, ⟨nd, rfl⟩⟩; refine ⟨_, rfl, ?_⟩; have p266 : 0 ≤ (x5_1 : Int) := lD; have q266 : x5_1 < (l0.length : Int) := lD; obtain ⟨ad266, A266_0, c266_0, e266, hx266_0, hx266_1, hx266_2, hx266_3, hl266_0, hi266_0⟩ := at_T99 HR0.out x5_1 p266 q266; obtain rfl : ad264 = ad266 := (by injection e266); have HR266_0 := Aside0.mk hi266_0; have HC266_0 := Aside0.mk hl266_0; clear hi266_0 hl266_0; replace p266 := eq_true p266; replace q266 := eq_true q266; have ea_ := Option.some.inj (hx264_0.symm.trans hx266_0); injection ea_ with ea_ en_ ec_; subst ea_; subst ec_; clear en_; have p267 : 0 ≤ (x5_1 : Int) := lD; have q267 : x5_1 < (l0.length : Int) := lD; obtain ⟨ad267, A267_0, c267_0, e267, hx267_0, hx267_1, hx267_2, hx267_3, hl267_0, hi267_0⟩ := at_T99 HR0.out x5_1 p267 q267; obtain rfl : ad264 = ad267 := (by injection e267); have HR267_0 := Aside0.mk hi267_0; have HC267_0 := Aside0.mk hl267_0; clear hi267_0 hl267_0; replace p267 := eq_true p267; replace q267 := eq_true q267; have ea_ := Option.some.inj (hx264_0.symm.trans hx267_0); injection ea_ with ea_ en_ ec_; subst ea_; subst ec_; clear en_; have p268 : 0 ≤ (x5_1 : Int) := lD; have q268 : x5_1 < (l0.length : Int) := lD; obtain ⟨ad268, A268_0, c268_0, e268, hx268_0, hx268_1, hx268_2, hx268_3, hl268_0, hi268_0⟩ := at_T99 HR0.out x5_1 p268 q268; obtain rfl : ad264 = ad268 := (by injection e268); have HR268_0 := Aside0.mk hi268_0; have HC268_0 := Aside0.mk hl268_0; clear hi268_0 hl268_0; replace p268 := eq_true p268; replace q268 := eq_true q268; have ea_ := Option.some.inj (hx264_0.symm.trans hx268_0); injection ea_ with ea_ en_ ec_; subst ea_; subst ec_; clear en_))
         go_ret
         exact ⟨by first | rfl | (simp; done) | (simp [*]; done), by repeat (first | exact Drawn0.refl _ | apply Drawn0.step)⟩
       ·rw [if_neg c8] at H
        have c8b0 : (((rd_T99 l0 x5_1).f2) == (wrap64 (t265 + 1))) = false := beq_eq_false_iff_ne.mpr c8
        have c8b1 : (((rd_T99 l0 x5_1).f2) != (wrap64 (t265 + 1))) = true := bne_iff_ne.mpr c8
        obtain rfl := Option.some.inj H
        have p264 : 0 ≤ (x5_1 : Int) := lD
        have q264 : x5_1 < (l0.length : Int) := lD
        obtain ⟨ad264, A264_0, c264_0, e264, hx264_0, hx264_1, hx264_2, hx264_3, hl264_0, hi264_0⟩ := at_T99 HR0.out x5_1 p264 q264
        cases e264
        have HR264_0 := Aside0.mk hi264_0
        have HC264_0 := Aside0.mk hl264_0
        clear hi264_0 hl264_0
        replace p264 := eq_true p264
        replace q264 := eq_true q264
        go_wp2_with (first | ((with_reducible refine gate_callee (f := 82) rfl ?_); refine gl_ (some 18) (Try.func82) #[.slice A264_0 ((rd_T99 l0 x5_1).f0).length c264_0, .int .i64 x1_1] ?_; (with_reducible refine (laws_heldInstrS.calls k1 _ _ ((rd_T99 l0 x5_1).f0) x1_1 t265 _ ?side1 ?side2 A5.out).mono ?_); (case side1 => repeat (first | exact HR264_0.out | (with_reducible refine Kd.C_alloc ?_ _) | (with_reducible refine Kd.C_drewN ?_ _) | (with_reducible refine Kd.C_drew ?_))); (case side2 => exact HC264_0.out); rintro e w' ⟨rfl, ⟨nd, rfl⟩⟩; refine ⟨_, rfl, ?_⟩; have p266 : 0 ≤ (x5_1 : Int) := lD; have q266 : x5_1 < (l0.length : Int) := lD; obtain ⟨ad266, A266_0, c266_0, e266, hx266_0, hx266_1, hx266_2, hx266_3, hl266_0, hi266_0⟩ := at_T99 HR0.out x5_1 p266 q266; obtain rfl : ad264 = ad266 := (by injection e266); have HR266_0 := Aside0.mk hi266_0; have HC266_0 := Aside0.mk hl266_0; clear hi266_0 hl266_0; replace p266 := eq_true p266; replace q266 := eq_true q266; have ea_ := Option.some.inj (hx264_0.symm.trans hx266_0); injection ea_ with ea_ en_ ec_; subst ea_; subst ec_; clear en_; have p267 : 0 ≤ (x5_1 : Int) := lD; have q267 : x5_1 < (l0.length : Int) := lD; obtain ⟨ad267, A267_0, c267_0, e267, hx267_0, hx267_1, hx267_2, hx267_3, hl267_0, hi267_0⟩ := at_T99 HR0.out x5_1 p267 q267; obtain rfl : ad264 = ad267 := (by injection e267); have HR267_0 := Aside0.mk hi267_0; have HC267_0 := Aside0.mk hl267_0; clear hi267_0 hl267_0; replace p267 := eq_true p267; replace q267 := eq_true q267; have ea_ := Option.some.inj (hx264_0.symm.trans hx267_0); injection ea_ with ea_ en_ ec_; subst ea_; subst ec_; clear en_))
        go_ret
        exact ⟨by first | rfl | (simp; done) | (simp [*]; done), by repeat (first | exact Drawn0.refl _ | apply Drawn0.step)⟩
      ·rw [if_neg c7] at H
       have c7b0 : (((rd_T99 l0 x5_1).f1) == t265) = false := beq_eq_false_iff_ne.mpr c7
       have c7b1 : (((rd_T99 l0 x5_1).f1) != t265) = true := bne_iff_ne.mpr c7
       obtain rfl := Option.some.inj H
       have p264 : 0 ≤ (x5_1 : Int) := lD
       have q264 : x5_1 < (l0.length : Int) := lD
       obtain ⟨ad264, A264_0, c264_0, e264, hx264_0, hx264_1, hx264_2, hx264_3, hl264_0, hi264_0⟩ := at_T99 HR0.out x5_1 p264 q264
       cases e264
       have HR264_0 := Aside0.mk hi264_0
       have HC264_0 := Aside0.mk hl264_0
       clear hi264_0 hl264_0
       replace p264 := eq_true p264
       replace q264 := eq_true q264
       go_wp2_with (first | ((with_reducible refine gate_callee (f := 82) rfl ?_); refine gl_ (some 18) (Try.func82) #[.slice A264_0 ((rd_T99 l0 x5_1).f0).length c264_0, .int .i64 x1_1] ?_; (with_reducible refine (laws_heldInstrS.calls k1 _ _ ((rd_T99 l0 x5_1).f0) x1_1 t265 _ ?side1 ?side2 A5.out).mono ?_); (case side1 => repeat (first | exact HR264_0.out | (with_reducible refine Kd.C_alloc ?_ _) | (with_reducible refine Kd.C_drewN ?_ _) | (with_reducible refine Kd.C_drew ?_))); (case side2 => exact HC264_0.out); rintro e w' ⟨rfl, ⟨nd, rfl⟩⟩; refine ⟨_, rfl, ?_⟩; have p266 : 0 ≤ (x5_1 : Int) := lD; have q266 : x5_1 < (l0.length : Int) := lD; obtain ⟨ad266, A266_0, c266_0, e266, hx266_0, hx266_1, hx266_2, hx266_3, hl266_0, hi266_0⟩ := at_T99 HR0.out x5_1 p266 q266; obtain rfl : ad264 = ad266 := (by injection e266); have HR266_0 := Aside0.mk hi266_0; have HC266_0 := Aside0.mk hl266_0; clear hi266_0 hl266_0; replace p266 := eq_true p266; replace q266 := eq_true q266; have ea_ := Option.some.inj (hx264_0.symm.trans hx266_0); injection ea_ with ea_ en_ ec_; subst ea_; subst ec_; clear en_))
       go_ret
       exact ⟨by first | rfl | (simp; done) | (simp [*]; done), by repeat (first | exact Drawn0.refl _ | apply Drawn0.step)⟩
    ·rw [if_neg c4] at H
     exact absurd H (by simp)
   ·rw [if_neg c3] at H
    have c3b0 : decide (x5_1 < (l0.length : Int)) = false := decide_eq_false c3
    clear c3
    obtain rfl := Option.some.inj H
    first | (go_wp2; go_ret; exact ⟨by first | rfl | (simp; done) | (simp [*]; done), by repeat (first | exact Drawn0.refl _ | apply Drawn0.step)⟩) | (exfalso; simp only [decide_eq_false_iff_not, decide_eq_true_eq] at *; omega)

-- NOT PRINTED: function 8 (laws_FnExactLayFlow)

end Go.Proofs.Ytpnhlccdhflogaa.Q
