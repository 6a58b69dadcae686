-- Written by the program wip/tools/pr.py of this claim's session, over the kit's print.py.
import Derived.Test.YtfdbdbihhgabpaaQx0
import Derived.Test.YtfdbdbihhgabpaaQx7
namespace Go.Proofs.Ytfdbdbihhgabpaa.Q
open Go.RowKit Go.Proofs.YtfdbdbihhgabpaaW.PrintWords Go.Proofs.YtfdbdbihhgabpaaW.PrintLast Go.Proofs.YtfdbdbihhgabpaaW.PrintMore
attribute [local go_sem] max2_int min2_int max_two min_two max_three min_three max_four min_four   -- for this text's walks alone
set_option linter.unusedVariables false
set_option linter.unusedSimpArgs false

/-! ### laws_markPatternS: function 15 -/
theorem markIntS_l0_ : ∀ (post pre : List Int) (n : Int), pre.length + post.length < 4611686018427387904 → 0 ≤ n → n + post.length < 4611686018427387904 →
    Ev (fun k => laws_markIntS.l0 k (pre ++ post) n (pre.length : Int)) (n + post.length, pre ++ Kit.from_ n post.length)
  | [], pre, n, hb, h0, hn => by
    refine Ev.step (fun k => by simp only [laws_markIntS.l0]; rw [if_neg (by simp)]) ?_
    simpa [Kit.from_] using Ev.now _
  | x :: post, pre, n, hb, h0, hn => by
    have ih := markIntS_l0_ post (pre ++ [n]) (n + 1) (by simp at hb ⊢; omega) (by omega) (by simp at hn ⊢; omega)
    refine Ev.step (fun k => by
      simp only [laws_markIntS.l0]
      rw [if_pos (by simp; omega), if_pos (by omega), Int.toNat_natCast, Kit.set_at rfl, Kit.w_succ (by simp at hb; omega), Kit.w64 (x := n + 1) (by omega) (by simp at hn; omega)]) ?_
    have e : n + 1 + (post.length : Int) = n + ((x :: post).length : Int) := by simp; omega
    rw [e] at ih
    simpa [Kit.from_] using ih
theorem markIntS_flat (l : List Int) (n : Int) (hb : l.length < 2305843009213693952) (h0 : 0 ≤ n) (hn : n < 2305843009213693952) : Ev (fun k => laws_markIntS.f k l n) (n + l.length, Kit.from_ n l.length) := by
  have h := markIntS_l0_ l [] n (by simp; omega) h0 (by omega)
  unfold laws_markIntS.f
  simpa using h
def markPatternS_one (n : Int) (x : S57) : S57 := ⟨(Kit.from_ n x.f0.length), (n + x.f0.length)⟩
def markPatternS_cnt1 (x : S57) : Nat := x.f0.length + 1
def markPatternS_cnt : List S57 → Nat
  | [] => 0
  | x :: xs => markPatternS_cnt1 x + markPatternS_cnt xs
def markPatternS_mk (n : Int) : List S57 → List S57
  | [] => []
  | x :: xs => markPatternS_one n x :: markPatternS_mk (n + markPatternS_cnt1 x) xs
theorem markPatternS_mk_length : ∀ (n : Int) (l : List S57), (markPatternS_mk n l).length = l.length
  | _, [] => rfl
  | n, x :: xs => by simp [markPatternS_mk, markPatternS_mk_length _ xs]
theorem markPatternS_mk_snoc : ∀ (n : Int) (l : List S57) (x : S57), markPatternS_mk n (l ++ [x]) = markPatternS_mk n l ++ [markPatternS_one (n + markPatternS_cnt l) x]
  | n, [], x => by simp [markPatternS_mk, markPatternS_cnt]
  | n, y :: ys, x => by
    simp only [List.cons_append, markPatternS_mk, markPatternS_cnt, markPatternS_mk_snoc _ ys x]
    rw [show n + (markPatternS_cnt1 y : Nat) + (markPatternS_cnt ys : Nat) = n + ((markPatternS_cnt1 y + markPatternS_cnt ys : Nat) : Int) by omega]
theorem markPatternS_cnt_snoc : ∀ (l : List S57) (x : S57), markPatternS_cnt (l ++ [x]) = markPatternS_cnt l + markPatternS_cnt1 x
  | [], x => by simp [markPatternS_cnt]
  | y :: ys, x => by simp only [List.cons_append, markPatternS_cnt, markPatternS_cnt_snoc ys x]; omega
theorem markPatternS_cnt_app : ∀ (l r : List S57), markPatternS_cnt (l ++ r) = markPatternS_cnt l + markPatternS_cnt r
  | [], r => by simp [markPatternS_cnt]
  | y :: ys, r => by simp only [List.cons_append, markPatternS_cnt, markPatternS_cnt_app ys r]; omega
open Mk in
set_option maxHeartbeats 1600000 in
set_option maxRecDepth 100000 in
theorem laws_markPatternS.calls (P0_ : Nat → Prop) (u9000_ : Value) (l0 : List S57) (a1 : Int) (w0 w : World) (hB : Below w0.heap.size w0 w) (ho0 : Kd.S k57 57 w w0.heap.size P0_ u9000_ l0) (hn0 : 0 ≤ a1) (hn1 : a1 + (markPatternS_cnt l0 : Nat) < 2305843009213693952) :
    Calls Try.prog 15 #[u9000_, .int .i64 a1] w fun e w' => e = .returned (.int .i64 (a1 + (markPatternS_cnt l0 : Nat))) ∧ Kd.S k57 57 w' w0.heap.size P0_ u9000_ (markPatternS_mk a1 l0) ∧ Below w0.heap.size w0 w' ∧ Kept w w' P0_ := by
  have hu57 := Try.underlying57
  obtain ⟨A0, c0, rfl⟩ := Kd.S_slice ho0
  have hlen : l0.length ≤ 9223372036854775807 := (Kd.S_reads' ho0).2.2.2.1
  have HS0 := Aside0.mk ho0
  have HB0 := Aside0.mk hB
  clear ho0 hB
  go_enter Try.func15, Try.ntmps15
  go_wp2
  go_loopg [1, 5] l0.length (fun gg v1 v5 wr => ∃ pre post : List S57, v1 = .int .i64 (a1 + (markPatternS_cnt pre : Nat)) ∧ v5 = .int .i64 (pre.length : Int) ∧ Aside0 (l0 = pre ++ post) ∧ post.length ≤ gg ∧ Aside0 (Kd.S k57 57 wr w0.heap.size P0_ (.slice A0 l0.length c0) (markPatternS_mk a1 pre ++ post)) ∧ Aside0 (Below w0.heap.size w0 wr) ∧ Aside0 (Kept w wr P0_))
  case atStart => exact ⟨[], l0, by simp [markPatternS_cnt], rfl, ⟨rfl⟩, Nat.le_refl _, ⟨by simpa [markPatternS_mk] using HS0.out⟩, ⟨HB0.out⟩, ⟨Kept.refl _ _⟩⟩
  case round =>
    obtain ⟨pre, post, rfl, rfl, HL, hg, HS, HB, HK⟩ := hrel
    have hnl : l0.length = pre.length + post.length := by rw [HL.out]; simp
    have hcl : markPatternS_cnt l0 = markPatternS_cnt pre + markPatternS_cnt post := by rw [HL.out, markPatternS_cnt_app]
    cases post with
    | nil =>
      have hd0 : decide (pre.length < l0.length) = false := by simp at hnl; simp [hnl]
      have hle : (l0.length : Int) ≤ (pre.length : Int) := by simp at hnl; omega
      have HF := Aside0.mk (show a1 + (markPatternS_cnt pre : Nat) = a1 + (markPatternS_cnt l0 : Nat) by simp [markPatternS_cnt] at hcl; rw [hcl])
      have HM := Aside0.mk (show markPatternS_mk a1 pre = markPatternS_mk a1 l0 by rw [HL.out, List.append_nil])
      clear hnl hcl
      go_wp2
      go_ret
      exact ⟨by rw [← HF.out]; rfl, by have h_ := HS.out; rwa [List.append_nil, HM.out] at h_, HB.out, HK.out⟩
    | cons x post =>
      simp only [List.length_cons] at hnl hg
      simp only [markPatternS_cnt] at hcl
      have hn2 : a1 + (markPatternS_cnt pre : Nat) + (markPatternS_cnt1 x : Nat) < 2305843009213693952 := by omega
      have hx2 := hn2
      simp only [markPatternS_cnt1] at hx2
      have hlt : pre.length < l0.length := by omega
      have hltz : (pre.length : Int) < (l0.length : Int) := by omega
      have hd0 : decide (pre.length < l0.length) = true := decide_eq_true hlt
      obtain ⟨ad_, hA_⟩ : ∃ ad_, A0 = some ad_ := by
        obtain ⟨ad, hA, _⟩ := (Kd.S_reads' HS.out).2.2.2.2 (by simp [markPatternS_mk_length] <;> omega)
        exact ⟨ad, hA⟩
      subst hA_
      obtain ⟨g, hg_⟩ := Kd.R_head (Kd.S_R HS.out)
      subst hg_
      have hx_ : (markPatternS_mk a1 pre ++ x :: post).getD pre.length z57 = x := Kit.getD_at (by rw [markPatternS_mk_length])
      obtain ⟨v_, hHo⟩ := hole_open (di := (Kd.int .i64)) (ei := 3) (ys := x.f0) z57 x (fun v_ => [v_, .int .i64 x.f1]) HS.out HB.out HK.out hlt hx_ (fun _ _ _ hM => k57_openM hM)
      clear hx_ HS HB HK hnl
      have HH := Aside0.mk hHo
      have HCL := Aside0.mk hcl
      clear hHo hcl
      obtain ⟨hx0, hf0⟩ := hole_cells (sz := 2) rfl HH.out 0 _ rfl
      obtain ⟨hx1, hf1⟩ := hole_cells (sz := 2) rfl HH.out 1 _ rfl
      simp only [Nat.mul_one, Nat.add_zero] at hx0 hf0 hx1 hf1
      obtain ⟨kf_, hf_⟩ := Ev.rounds (markIntS_flat x.f0 (a1 + (markPatternS_cnt pre : Nat)) (by omega) (by omega) (by omega))
      have HF_ := Aside0.mk hf_
      clear hf_
      have hcall_ := hole_call HH.out (fun oki hb_ hr_ => (laws_markIntS.calls kf_ oki v_ x.f0 (a1 + (markPatternS_cnt pre : Nat)) _ _ w0 _ hb_ hr_ HF_.out)) rfl
      clear HH
      go_wp2_with fail
      refine hcall_.mono ?_
      rintro e_ w2 ⟨rfl, hH2_⟩
      clear hcall_ HF_
      clear hx0 hf0 hx1 hf1
      have HH := Aside0.mk hH2_
      clear hH2_
      obtain ⟨hx0, hf0⟩ := hole_cells (sz := 2) rfl HH.out 0 _ rfl
      obtain ⟨hx1, hf1⟩ := hole_cells (sz := 2) rfl HH.out 1 _ rfl
      simp only [Nat.mul_one, Nat.add_zero] at hx0 hf0 hx1 hf1
      have hH2_ := hole_store (sz := 2) rfl HH.out 1 (by decide) (.int .i64 (a1 + (markPatternS_cnt pre : Nat) + (x.f0.length : Nat))) rfl
      simp only [Nat.mul_one, Nat.add_zero, List.set] at hH2_
      clear HH
      have HH := Aside0.mk hH2_
      clear hH2_
      have hcl_ := hole_close HH.out (markPatternS_one (a1 + (markPatternS_cnt pre : Nat)) x) (fun _ _ hr_ => k57_mkM _ _ _ _ hr_)
      clear HH
      have HS2 := Aside0.mk hcl_.1
      have HB2 := Aside0.mk hcl_.2.1
      have HK2 := Aside0.mk hcl_.2.2
      clear hcl_
      have HE := Aside0.mk (show a1 + (markPatternS_cnt (pre ++ [x]) : Nat) = a1 + (markPatternS_cnt pre : Nat) + (x.f0.length : Nat) + 1 by rw [markPatternS_cnt_snoc]; simp only [markPatternS_cnt1]; omega)
      have HX := Aside0.mk (show (markPatternS_mk a1 pre ++ x :: post).set pre.length (markPatternS_one (a1 + (markPatternS_cnt pre : Nat)) x) = markPatternS_mk a1 (pre ++ [x]) ++ post by rw [Kit.set_at (by rw [markPatternS_mk_length]), markPatternS_mk_snoc]; simp)
      have HL2 := Aside0.mk (show l0 = (pre ++ [x]) ++ post by rw [HL.out]; simp)
      clear hn2 HL HCL
      go_wp2_with fail
      go_roundg post.length
      case measure => omega
      case rel => exact ⟨pre ++ [x], post, by rw [HE.out], by simp, HL2, Nat.le_refl _, ⟨by have h_ := HS2.out; rwa [HX.out] at h_⟩, HB2, HK2⟩

/-! ### laws_markPieceS: function 16 -/
def laws_markPieceS.l0 : Nat → List (S63) → Int → Int → Option (Int × (List (S63)))
 | 0, _, _, _ => none
 | k + 1, x0, x1, x5 => if x5 < (x0.length : Int) then (if 0 ≤ x5 then ((some (x0.set (x5 : Int).toNat (⟨x1, (rd_T63 x0 x5).f1⟩ : S63) : List (S63))).bind fun y336 => (laws_markPieceS.l0 k (y336.set (x5 : Int).toNat (⟨(rd_T63 y336 x5).f0, wrap64 (x1 + 1)⟩ : S63)) (wrap64 ((wrap64 (x1 + 1)) + 1)) (wrap64 (x5 + 1)))) else (none)) else (some (x1, x0))
def laws_markPieceS.f (k : Nat) (l0 : List (S63)) (a1 : Int) : Option (Int × (List (S63))) := laws_markPieceS.l0 k l0 a1 0
theorem laws_markPieceS.mono_l : ∀ k, (∀ y0 y1 y2, LeO (laws_markPieceS.l0 k y0 y1 y2) (laws_markPieceS.l0 (k + 1) y0 y1 y2))
 | 0 => fun _ _ _ r h => by simp [laws_markPieceS.l0] at h
 | k + 1 => by
  have ih0 := laws_markPieceS.mono_l k
  ·intro y0 y1 y2
   unfold laws_markPieceS.l0
   repeat' first
   | with_reducible apply ih0
   | (with_reducible exact LeO.refl _)
   | (with_reducible exact LeO.none _)
   | (with_reducible refine LeO.ite ?_ ?_)
   | (with_reducible refine LeO.bind ?_ (fun _ => ?_))
   | apply ih0
   | exact LeO.none _
   | refine LeO.ite ?_ ?_
   | refine LeO.bind ?_ (fun _ => ?_)
theorem laws_markPieceS.mono : ∀ a0 a1 k, LeO (laws_markPieceS.f k a0 a1) (laws_markPieceS.f (k + 1) a0 a1) := by
 intro a0 a1 k
 have ih0 := laws_markPieceS.mono_l k
 unfold laws_markPieceS.f
 repeat' first
   | with_reducible apply ih0
   | (with_reducible exact LeO.refl _)
   | (with_reducible exact LeO.none _)
   | (with_reducible refine LeO.ite ?_ ?_)
   | (with_reducible refine LeO.bind ?_ (fun _ => ?_))
   | apply ih0
   | exact LeO.none _
   | refine LeO.ite ?_ ?_
   | refine LeO.bind ?_ (fun _ => ?_)
set_option maxHeartbeats 8000000 in
set_option maxRecDepth 100000 in
theorem laws_markPieceS.calls (k : Nat) (P0_ : Nat → Prop) (u9000_ : Value) (l0 : List (S63)) (a1 : Int) (r1 : Int) (r2 : List (S63)) (w0 w : World) (hB : Below w0.heap.size w0 w) (ho0 : Kd.R k63 63 w w0.heap.size P0_ u9000_ l0) (h : laws_markPieceS.f k l0 a1 = some (r1, r2)) :
  Calls Try.prog 16 #[u9000_, .int .i64 a1] w fun e w' => e = .returned (.int .i64 r1) ∧ Kd.R k63 63 w' w0.heap.size (fun k_ => (P0_ k_ ∨ w.heap.size ≤ k_)) u9000_ r2 ∧ Below w0.heap.size w0 w' ∧ Kept w w' (fun k_ => P0_ k_) := by
 have HO0 := Aside0.mk (show Kd.R k63 63 w w0.heap.size (fun k_ => (P0_ k_ ∨ w.heap.size ≤ k_)) u9000_ l0 from Kd.R_mono ho0 (fun k_ hk => (.inl hk)))
 have HK := Aside0.mk (Kept.refl w (fun k_ => P0_ k_))
 have HW0 := Aside0.mk hB.size
 have HB := Aside0.mk hB
 clear hB
 have H : (laws_markPieceS.l0 k l0 a1 0) = some (r1, r2) := h
 clear h
 have H' := Aside0.mk H
 clear H
 go_enter Try.func16, Try.ntmps16
 go_wp2
 go_loopg [1, 5] k (fun kq v1 v5 w' => ∃ (x0_1 : List (S63)) (x1_1 : Int) (x5_1 : Int), v1 = .int .i64 x1_1 ∧ v5 = .int .i64 x5_1 ∧ Aside0 (laws_markPieceS.l0 kq x0_1 x1_1 x5_1 = some (r1, r2)) ∧ Aside0 (kq ≤ k) ∧ Aside0 (Kd.R k63 63 w' w0.heap.size (fun k_ => (P0_ k_ ∨ w.heap.size ≤ k_)) u9000_ x0_1) ∧ Aside0 (Kept w w' (fun k_ => P0_ k_)) ∧ Aside0 (Below w0.heap.size w0 w'))
 case atStart => exact ⟨(l0), (a1), (0), lF, lF, H', ⟨Nat.le_refl _⟩, ⟨lR HO0.out⟩, ⟨by repeat (first | (with_reducible first | exact HK.out | apply Kept.alloc | apply Kept.drewN | apply Kept.drew) | exact HK.out)⟩, ⟨lB⟩⟩
 case round =>
  clear H'
  try clear c1
  try clear p2
  obtain ⟨x0_1, x1_1, x5_1, rfl, rfl, HA, HK1, HO_0, HK, HB⟩ := hrel
  cases gk with
  | zero => exact absurd HA.out (by simp [laws_markPieceS.l0])
  | succ k1 =>
   have H := HA.out
   clear HA
   simp only [laws_markPieceS.l0] at H
   by_cases c3 : x5_1 < (x0_1.length : Int)
   ·rw [if_pos c3] at H
    have c3b0 : decide (x5_1 < (x0_1.length : Int)) = true := decide_eq_true c3
    clear c3
    by_cases c4 : 0 ≤ x5_1
    ·rw [if_pos c4] at H
     have c4b0 : decide (0 ≤ x5_1) = true := decide_eq_true c4
     clear c4
     obtain ⟨y336, hy336⟩ : ∃ y_ : List (S63), y_ = (x0_1.set (x5_1 : Int).toNat (⟨x1_1, (rd_T63 x0_1 x5_1).f1⟩ : S63)) := ⟨_, rfl⟩
     replace H : (laws_markPieceS.l0 k1 (y336.set (x5_1 : Int).toNat (⟨(rd_T63 y336 x5_1).f0, wrap64 (x1_1 + 1)⟩ : S63)) (wrap64 ((wrap64 (x1_1 + 1)) + 1)) (wrap64 (x5_1 + 1))) = some (r1, r2) := by first | (rw [hy336]; with_reducible exact H) | (have H2_ := (Option.bind_some _ _).symm.trans H; rw [hy336]; with_reducible exact H2_) | (have H2_ := (Option.bind_some _ _).symm.trans H; with_reducible exact H2_) | with_reducible exact H | (rw [hy336]; exact H) | exact H
     have Ny336 := Aside0.mk hy336
     clear hy336
     obtain ⟨y337, hy337⟩ : ∃ y_ : List (S63), y_ = (y336.set (x5_1 : Int).toNat (⟨(rd_T63 y336 x5_1).f0, wrap64 (x1_1 + 1)⟩ : S63)) := ⟨_, rfl⟩
     replace H : (laws_markPieceS.l0 k1 y337 (wrap64 ((wrap64 (x1_1 + 1)) + 1)) (wrap64 (x5_1 + 1))) = some (r1, r2) := by first | (rw [hy337]; with_reducible exact H) | (have H2_ := (Option.bind_some _ _).symm.trans H; rw [hy337]; with_reducible exact H2_) | (have H2_ := (Option.bind_some _ _).symm.trans H; with_reducible exact H2_) | with_reducible exact H | (rw [hy337]; exact H) | exact H
     have Ny337 := Aside0.mk hy337
     clear hy337
     have H' := Aside0.mk H
     clear H
     obtain ⟨Ao7, co7, eo7⟩ := Kd.R_slice HO_0.out
     subst eo7
     have p5 : 0 ≤ (x5_1 : Int) := lD
     have q5 : (x5_1 : Int) < ((x0_1.length : Int) : Int) := lD
     obtain ⟨go5, co5, eo5, gb5, gl5, cl5, HG5⟩ := Kd.R_form HO_0.out (by omega)
     (first | cases eo5 | (injection eo5 with ea_ en_ ec_; (first | subst ea_ | (injection ea_ with ea_; subst ea_)); subst ec_; clear en_))
     have GB5 := Aside0.mk gb5
     have GG5 := Aside0.mk HG5
     clear gb5 gl5 HG5
     have HMgo5 := Aside0.mk (show (P0_ go5 ∨ w.heap.size ≤ go5) from (HO_0.out.1 _ rfl))
     obtain ⟨ce5, hcl5, hM5, hcc5, hfr5⟩ := Kd.R_elem HO_0.out z63 (x5_1 : Int) p5 q5
     obtain rfl := k63_openM hM5
     have hx5_0 : wr.cell? ⟨go5, (x5_1 : Int).toNat * 2, none⟩ = some (.int .i64 ((rd_T63 x0_1 x5_1).f0)) := hcc5 0 _ rfl
     have hx5_1 : wr.cell? ⟨go5, (x5_1 : Int).toNat * 2 + 1, none⟩ = some (.int .i64 ((rd_T63 x0_1 x5_1).f1)) := hcc5 1 _ rfl
     have hf5_0 : wr.frozen? ⟨go5, (x5_1 : Int).toNat * 2, none⟩ = false := hfr5 0
     have hf5_1 : wr.frozen? ⟨go5, (x5_1 : Int).toNat * 2 + 1, none⟩ = false := hfr5 1
     clear hcl5 hcc5 hfr5; (try clear hM5)
     replace p5 := eq_true p5
     replace q5 := eq_true q5
     have HX8 := Aside0.mk (show Kd.R k63 63 wr w0.heap.size (fun k_ => (P0_ k_ ∨ w.heap.size ≤ k_)) (.slice (some ⟨go5, 0, none⟩) x0_1.length co7) x0_1 from (lR HO_0.out))
     obtain ⟨ce8, hcl8, hM8, hcc8, hfr8⟩ := Kd.R_elem HX8.out z63 (x5_1 : Int) (lD) (by have h_ : (x5_1 : Int) < ((x0_1.length : Int) : Int) := lD; first | exact h_ | (have e_ := (Kd.R_reads' HO_0.out).1; omega) | simpa using h_)
     obtain rfl := k63_openM hM8
     have HP8 := Kd.R_seg HX8.out (x5_1 : Int) (lD) (by have h_ : (x5_1 : Int) < ((x0_1.length : Int) : Int) := lD; first | exact h_ | (have e_ := (Kd.R_reads' HO_0.out).1; omega) | simpa using h_) (seg := [.int .i64 x1_1]) (j := 0) hcl8 hcc8 (show 1 ≤ 2 from by decide) (x' := (⟨x1_1, (rd_T63 x0_1 x5_1).f1⟩ : S63)) (k63_mkM _ _ _ (⟨x1_1, (rd_T63 x0_1 x5_1).f1⟩ : S63) ) (fun _ hk => hk)
     have hx8_0 := hcc8 0 _ rfl
     (try simp only [show (k63).sz = 2 from rfl, Nat.mul_one, Nat.add_zero] at hx8_0)
     have hf8_0 := hfr8 0
     (try simp only [show (k63).sz = 2 from rfl, Nat.mul_one, Nat.add_zero] at hf8_0)
     clear hcl8 hcc8 hfr8; (try clear hM8)
     go_wp2_with (first | ((with_reducible refine gate_store (t := 3) (p := 16) rfl ?_); refine store_event (t := 3) (p := 16) (v := ?vo_w9) (w1 := (wr.setCell ⟨go5, (x5_1 : Int).toNat * 2, none⟩ (.int .i64 x1_1))) ?hg ?ho ?hn ?hr ?_; (case ho => rfl); (case hg => rfl); (case hn => rfl); (case hr => first | (go_simp; done) | (go_simp; rfl)); intro w9 hw; have hg : wr.grownBy w9 (some go5) := (by rw [hw]; exact HP8.2); have hp_ : Kd.R k63 63 w9 w0.heap.size (fun k_ => (P0_ k_ ∨ w.heap.size ≤ k_)) (.slice (some ⟨go5, 0, none⟩) x0_1.length co7) y336 := (by rw [hw, Ny336.out]; exact HP8.1); clear HP8; have n0_ := Aside0.mk (hp_); have n1_ := Aside0.mk ((by rw [hw]; exact below_set (HB.out) GB5.out : Below w0.heap.size w0 w9)); have n2_ := Aside0.mk (Kept.of_grown (S := (fun k_ => P0_ k_)) hg (by repeat (first | (with_reducible first | exact HK.out | apply Kept.alloc | apply Kept.drewN | apply Kept.drew) | exact HK.out)) (fun k_ e_ => (HO_0.out.1 k_ e_))); clear HO_0; clear HB; clear HK; have HO_0 := n0_; have HB := n1_; have HK := n2_; clear n0_ n1_ n2_; clear hg hw hp_; have p6 : 0 ≤ (x5_1 : Int) := lD; have q6 : (x5_1 : Int) < ((x0_1.length : Int) : Int) := lD; obtain ⟨ce6, hcl6, hM6, hcc6, hfr6⟩ := Kd.R_elem HO_0.out z63 (x5_1 : Int) p6 q6; obtain rfl := k63_openM hM6; have hx6_0 : w9.cell? ⟨go5, (x5_1 : Int).toNat * 2, none⟩ = some (.int .i64 ((rd_T63 y336 x5_1).f0)) := hcc6 0 _ rfl; have hx6_1 : w9.cell? ⟨go5, (x5_1 : Int).toNat * 2 + 1, none⟩ = some (.int .i64 ((rd_T63 y336 x5_1).f1)) := hcc6 1 _ rfl; have hf6_0 : w9.frozen? ⟨go5, (x5_1 : Int).toNat * 2, none⟩ = false := hfr6 0; have hf6_1 : w9.frozen? ⟨go5, (x5_1 : Int).toNat * 2 + 1, none⟩ = false := hfr6 1; clear hcl6 hcc6 hfr6; (try clear hM6); replace p6 := eq_true p6; replace q6 := eq_true q6; have HX10 := Aside0.mk (show Kd.R k63 63 w9 w0.heap.size (fun k_ => (P0_ k_ ∨ w.heap.size ≤ k_)) (.slice (some ⟨go5, 0, none⟩) x0_1.length co7) y336 from (lR HO_0.out)); obtain ⟨ce10, hcl10, hM10, hcc10, hfr10⟩ := Kd.R_elem HX10.out z63 (x5_1 : Int) (lD) (by have h_ : (x5_1 : Int) < ((x0_1.length : Int) : Int) := lD; first | exact h_ | (have e_ := (Kd.R_reads' HO_0.out).1; omega) | simpa using h_); obtain rfl := k63_openM hM10; have HP10 := Kd.R_seg HX10.out (x5_1 : Int) (lD) (by have h_ : (x5_1 : Int) < ((x0_1.length : Int) : Int) := lD; first | exact h_ | (have e_ := (Kd.R_reads' HO_0.out).1; omega) | simpa using h_) (seg := [.int .i64 (wrap64 (x1_1 + 1))]) (j := 1) hcl10 hcc10 (show 2 ≤ 2 from by decide) (x' := (⟨(rd_T63 y336 x5_1).f0, wrap64 (x1_1 + 1)⟩ : S63)) (k63_mkM _ _ _ (⟨(rd_T63 y336 x5_1).f0, wrap64 (x1_1 + 1)⟩ : S63) ) (fun _ hk => hk); have hx10_1 := hcc10 1 _ rfl; (try simp only [show (k63).sz = 2 from rfl, Nat.mul_one, Nat.add_zero] at hx10_1); have hf10_1 := hfr10 1; (try simp only [show (k63).sz = 2 from rfl, Nat.mul_one, Nat.add_zero] at hf10_1); clear hcl10 hcc10 hfr10; (try clear hM10)) | ((with_reducible refine gate_store (t := 3) (p := 23) rfl ?_); refine store_event (t := 3) (p := 23) (v := ?vo_w11) (w1 := (w9.setCell ⟨go5, (x5_1 : Int).toNat * 2 + 1, none⟩ (.int .i64 (wrap64 (x1_1 + 1))))) ?hg ?ho ?hn ?hr ?_; (case ho => rfl); (case hg => rfl); (case hn => rfl); (case hr => first | (go_simp; done) | (go_simp; rfl)); intro w11 hw; have hg : w9.grownBy w11 (some go5) := (by rw [hw]; exact HP10.2); have hp_ : Kd.R k63 63 w11 w0.heap.size (fun k_ => (P0_ k_ ∨ w.heap.size ≤ k_)) (.slice (some ⟨go5, 0, none⟩) x0_1.length co7) y337 := (by rw [hw, Ny337.out]; exact HP10.1); clear HP10; have n0_ := Aside0.mk (hp_); have n1_ := Aside0.mk ((by rw [hw]; exact below_set (HB.out) GB5.out : Below w0.heap.size w0 w11)); have n2_ := Aside0.mk (Kept.of_grown (S := (fun k_ => P0_ k_)) hg (by repeat (first | (with_reducible first | exact HK.out | apply Kept.alloc | apply Kept.drewN | apply Kept.drew) | exact HK.out)) (fun k_ e_ => (HO_0.out.1 k_ e_))); clear HO_0; clear HB; clear HK; have HO_0 := n0_; have HB := n1_; have HK := n2_; clear n0_ n1_ n2_; clear hg hw hp_))
     go_roundg k1
     case measure => have := HK1.out; omega
     case rel => exact ⟨(y337), (wrap64 ((wrap64 (x1_1 + 1)) + 1)), (wrap64 (x5_1 + 1)), lF, lF, H', ⟨by have := HK1.out; omega⟩, ⟨lR HO_0.out⟩, ⟨by repeat (first | (with_reducible first | exact HK.out | apply Kept.alloc | apply Kept.drewN | apply Kept.drew) | exact HK.out)⟩, ⟨lB⟩⟩
    ·rw [if_neg c4] at H
     exact absurd H (by simp)
   ·rw [if_neg c3] at H
    have c3b0 : decide (x5_1 < (x0_1.length : Int)) = false := decide_eq_false c3
    clear c3
    simp only [Option.some.injEq, Prod.mk.injEq] at H
    obtain ⟨rfl, rfl⟩ := H
    obtain ⟨Ao12, co12, eo12⟩ := Kd.R_slice HO_0.out
    subst eo12
    first | (go_wp2; go_ret; exact ⟨lE, lR HO_0.out, lB, by repeat (first | (with_reducible first | exact HK.out | apply Kept.alloc | apply Kept.drewN | apply Kept.drew) | exact HK.out)⟩) | (exfalso; simp only [decide_eq_false_iff_not, decide_eq_true_eq] at *; omega)

/-! ### laws_heldPieceS: function 17 -/
def laws_heldPieceS.l0 : Nat → List (S63) → Int → Int → Option (Int)
 | 0, _, _, _ => none
 | k + 1, x0, x1, x5 => if x5 < (x0.length : Int) then (if 0 ≤ x5 then (if ((rd_T63 x0 x5).f0) = x1 then (if ((rd_T63 x0 x5).f1) = (wrap64 (x1 + 1)) then (laws_heldPieceS.l0 k x0 (wrap64 ((wrap64 (x1 + 1)) + 1)) (wrap64 (x5 + 1))) else (some (-1))) else (some (-1))) else (none)) else (some x1)
def laws_heldPieceS.f (k : Nat) (l0 : List (S63)) (a1 : Int) : Option (Int) := laws_heldPieceS.l0 k l0 a1 0
theorem laws_heldPieceS.mono_l : ∀ k, (∀ y0 y1 y2, LeO (laws_heldPieceS.l0 k y0 y1 y2) (laws_heldPieceS.l0 (k + 1) y0 y1 y2))
 | 0 => fun _ _ _ r h => by simp [laws_heldPieceS.l0] at h
 | k + 1 => by
  have ih0 := laws_heldPieceS.mono_l k
  ·intro y0 y1 y2
   unfold laws_heldPieceS.l0
   repeat' first
   | with_reducible apply ih0
   | (with_reducible exact LeO.refl _)
   | (with_reducible exact LeO.none _)
   | (with_reducible refine LeO.ite ?_ ?_)
   | (with_reducible refine LeO.bind ?_ (fun _ => ?_))
   | apply ih0
   | exact LeO.none _
   | refine LeO.ite ?_ ?_
   | refine LeO.bind ?_ (fun _ => ?_)
theorem laws_heldPieceS.mono : ∀ a0 a1 k, LeO (laws_heldPieceS.f k a0 a1) (laws_heldPieceS.f (k + 1) a0 a1) := by
 intro a0 a1 k
 have ih0 := laws_heldPieceS.mono_l k
 unfold laws_heldPieceS.f
 repeat' first
   | with_reducible apply ih0
   | (with_reducible exact LeO.refl _)
   | (with_reducible exact LeO.none _)
   | (with_reducible refine LeO.ite ?_ ?_)
   | (with_reducible refine LeO.bind ?_ (fun _ => ?_))
   | apply ih0
   | exact LeO.none _
   | refine LeO.ite ?_ ?_
   | refine LeO.bind ?_ (fun _ => ?_)
set_option maxHeartbeats 8000000 in
set_option maxRecDepth 100000 in
theorem laws_heldPieceS.calls (k : Nat) (A0 : Option Addr) (c0 : Nat) (l0 : List (S63)) (a1 : Int) (r : Int) (w : World) (hr0 : Kd.C k63 w A0 l0.length l0) (hc0 : l0.length ≤ c0) (h : laws_heldPieceS.f k l0 a1 = some r) :
  Calls Try.prog 17 #[.slice A0 l0.length c0, .int .i64 a1] w fun e w' => e = .returned (.int .i64 r) ∧ Drawn0 w w' := by
 have HR0 := Aside0.mk hr0
 have HC0 := Aside0.mk hc0
 clear hr0 hc0
 have H : (laws_heldPieceS.l0 k l0 a1 0) = some r := h
 clear h
 have H' := Aside0.mk H
 clear H
 go_enter Try.func17, Try.ntmps17
 go_wp2
 go_loopg [1, 5] k (fun kq v1 v5 w' => ∃ (x1_1 : Int) (x5_1 : Int), v1 = .int .i64 x1_1 ∧ v5 = .int .i64 x5_1 ∧ Aside0 (laws_heldPieceS.l0 kq l0 x1_1 x5_1 = some r) ∧ Aside0 (kq ≤ k) ∧ Drawn0 w w')
 case atStart => exact ⟨(a1), (0), lF, lF, H', ⟨Nat.le_refl _⟩, by repeat (first | exact Drawn0.refl _ | apply Drawn0.step)⟩
 case round =>
  clear H'
  try clear c1
  try clear p2
  obtain ⟨x1_1, x5_1, rfl, rfl, HA, HK1, ⟨m1, rfl⟩⟩ := hrel
  cases gk with
  | zero => exact absurd HA.out (by simp [laws_heldPieceS.l0])
  | succ k1 =>
   have H := HA.out
   clear HA
   simp only [laws_heldPieceS.l0] at H
   by_cases c3 : x5_1 < (l0.length : Int)
   ·rw [if_pos c3] at H
    have c3b0 : decide (x5_1 < (l0.length : Int)) = true := decide_eq_true c3
    clear c3
    by_cases c4 : 0 ≤ x5_1
    ·rw [if_pos c4] at H
     have c4b0 : decide (0 ≤ x5_1) = true := decide_eq_true c4
     clear c4
     by_cases c5 : ((rd_T63 l0 x5_1).f0) = x1_1
     ·rw [if_pos c5] at H
      have c5b0 : (((rd_T63 l0 x5_1).f0) == x1_1) = true := beq_iff_eq.mpr c5
      have c5b1 : (((rd_T63 l0 x5_1).f0) != x1_1) = false := bne_eq_false_iff_eq.mpr c5
      clear c5
      by_cases c6 : ((rd_T63 l0 x5_1).f1) = (wrap64 (x1_1 + 1))
      ·rw [if_pos c6] at H
       have c6b0 : (((rd_T63 l0 x5_1).f1) == (wrap64 (x1_1 + 1))) = true := beq_iff_eq.mpr c6
       have c6b1 : (((rd_T63 l0 x5_1).f1) != (wrap64 (x1_1 + 1))) = false := bne_eq_false_iff_eq.mpr c6
       clear c6
       have H' := Aside0.mk H
       clear H
       have p338 : 0 ≤ (x5_1 : Int) := lD
       have q338 : x5_1 < (l0.length : Int) := lD
       obtain ⟨ad338, e338, hx338_0, hx338_1⟩ := at_T63 HR0.out x5_1 p338 q338
       cases e338
       replace p338 := eq_true p338
       replace q338 := eq_true q338
       have p339 : 0 ≤ (x5_1 : Int) := lD
       have q339 : x5_1 < (l0.length : Int) := lD
       obtain ⟨ad339, e339, hx339_0, hx339_1⟩ := at_T63 HR0.out x5_1 p339 q339
       obtain rfl : ad338 = ad339 := (by injection e339)
       replace p339 := eq_true p339
       replace q339 := eq_true q339
       go_wp2
       go_roundg k1
       case measure => have := HK1.out; omega
       case rel => exact ⟨(wrap64 ((wrap64 (x1_1 + 1)) + 1)), (wrap64 (x5_1 + 1)), lF, lF, H', ⟨by have := HK1.out; omega⟩, by repeat (first | exact Drawn0.refl _ | apply Drawn0.step)⟩
      ·rw [if_neg c6] at H
       have c6b0 : (((rd_T63 l0 x5_1).f1) == (wrap64 (x1_1 + 1))) = false := beq_eq_false_iff_ne.mpr c6
       have c6b1 : (((rd_T63 l0 x5_1).f1) != (wrap64 (x1_1 + 1))) = true := bne_iff_ne.mpr c6
       obtain rfl := Option.some.inj H
       have p338 : 0 ≤ (x5_1 : Int) := lD
       have q338 : x5_1 < (l0.length : Int) := lD
       obtain ⟨ad338, e338, hx338_0, hx338_1⟩ := at_T63 HR0.out x5_1 p338 q338
       cases e338
       replace p338 := eq_true p338
       replace q338 := eq_true q338
       have p339 : 0 ≤ (x5_1 : Int) := lD
       have q339 : x5_1 < (l0.length : Int) := lD
       obtain ⟨ad339, e339, hx339_0, hx339_1⟩ := at_T63 HR0.out x5_1 p339 q339
       obtain rfl : ad338 = ad339 := (by injection e339)
       replace p339 := eq_true p339
       replace q339 := eq_true q339
       first | (go_wp2; go_ret; exact ⟨by first | rfl | (simp; done) | (simp [*]; done), by repeat (first | exact Drawn0.refl _ | apply Drawn0.step)⟩) | (exfalso; simp only [decide_eq_false_iff_not, decide_eq_true_eq] at *; omega)
     ·rw [if_neg c5] at H
      have c5b0 : (((rd_T63 l0 x5_1).f0) == x1_1) = false := beq_eq_false_iff_ne.mpr c5
      have c5b1 : (((rd_T63 l0 x5_1).f0) != x1_1) = true := bne_iff_ne.mpr c5
      obtain rfl := Option.some.inj H
      have p338 : 0 ≤ (x5_1 : Int) := lD
      have q338 : x5_1 < (l0.length : Int) := lD
      obtain ⟨ad338, e338, hx338_0, hx338_1⟩ := at_T63 HR0.out x5_1 p338 q338
      cases e338
      replace p338 := eq_true p338
      replace q338 := eq_true q338
      first | (go_wp2; go_ret; exact ⟨by first | rfl | (simp; done) | (simp [*]; done), by repeat (first | exact Drawn0.refl _ | apply Drawn0.step)⟩) | (exfalso; simp only [decide_eq_false_iff_not, decide_eq_true_eq] at *; omega)
    ·rw [if_neg c4] at H
     exact absurd H (by simp)
   ·rw [if_neg c3] at H
    have c3b0 : decide (x5_1 < (l0.length : Int)) = false := decide_eq_false c3
    clear c3
    obtain rfl := Option.some.inj H
    first | (go_wp2; go_ret; exact ⟨by first | rfl | (simp; done) | (simp [*]; done), by repeat (first | exact Drawn0.refl _ | apply Drawn0.step)⟩) | (exfalso; simp only [decide_eq_false_iff_not, decide_eq_true_eq] at *; omega)

-- NOT PRINTED: function 3 (laws_FnExactBestCover)

/-! ### spec_l9Weight: function 43 -/
def spec_l9Weight.l0 : Nat → Int → List Int → Int → Int → Option (Int)
 | 0, _, _, _, _ => none
 | k + 1, x3, x7, x8, x9 => if x9 < x8 then (if 0 ≤ x9 then (if x9 < (x7.length : Int) then (if (rd x7 x9) = 0 then (spec_l9Weight.l0 k x3 x7 x8 (wrap64 (x9 + 1))) else (spec_l9Weight.l0 k (wrap64 (x3 + 1)) x7 x8 (wrap64 (x9 + 1)))) else (none)) else (none)) else (some x3)
def spec_l9Weight.f (k : Nat) (l0_0 : List Int) (a0_1 : Int) : Option (Int) := spec_l9Weight.l0 k 0 l0_0 (l0_0.length : Int) 0
theorem spec_l9Weight.mono_l : ∀ k, (∀ y0 y1 y2 y3, LeO (spec_l9Weight.l0 k y0 y1 y2 y3) (spec_l9Weight.l0 (k + 1) y0 y1 y2 y3))
 | 0 => fun _ _ _ _ r h => by simp [spec_l9Weight.l0] at h
 | k + 1 => by
  have ih0 := spec_l9Weight.mono_l k
  ·intro y0 y1 y2 y3
   unfold spec_l9Weight.l0
   repeat' first
   | with_reducible apply ih0
   | (with_reducible exact LeO.refl _)
   | (with_reducible exact LeO.none _)
   | (with_reducible refine LeO.ite ?_ ?_)
   | (with_reducible refine LeO.bind ?_ (fun _ => ?_))
   | apply ih0
   | exact LeO.none _
   | refine LeO.ite ?_ ?_
   | refine LeO.bind ?_ (fun _ => ?_)
theorem spec_l9Weight.mono : ∀ a0 a1 k, LeO (spec_l9Weight.f k a0 a1) (spec_l9Weight.f (k + 1) a0 a1) := by
 intro a0 a1 k
 have ih0 := spec_l9Weight.mono_l k
 unfold spec_l9Weight.f
 repeat' first
   | with_reducible apply ih0
   | (with_reducible exact LeO.refl _)
   | (with_reducible exact LeO.none _)
   | (with_reducible refine LeO.ite ?_ ?_)
   | (with_reducible refine LeO.bind ?_ (fun _ => ?_))
   | apply ih0
   | exact LeO.none _
   | refine LeO.ite ?_ ?_
   | refine LeO.bind ?_ (fun _ => ?_)
set_option maxHeartbeats 8000000 in
set_option maxRecDepth 100000 in
theorem spec_l9Weight.calls (k : Nat) (A0_0 : Option Addr) (c0_0 : Nat) (l0_0 : List Int) (a0_1 : Int) (r : Int) (w : World) (hr0_0 : Kd.C (Kd.int .i64) w A0_0 l0_0.length l0_0) (hc0_0 : l0_0.length ≤ c0_0) (h : spec_l9Weight.f k l0_0 a0_1 = some r) :
  Calls Try.prog 43 #[.agg #[.slice A0_0 l0_0.length c0_0, .int .i64 a0_1]] w fun e w' => e = .returned (.int .i64 r) ∧ Below w.heap.size w w' := by
 have hu57 := Try.underlying57
 have HR0_0 := Aside0.mk hr0_0
 have HC0_0 := Aside0.mk hc0_0
 clear hr0_0 hc0_0
 have HB := Aside0.mk (Below.refl w.heap.size w)
 have H : (spec_l9Weight.l0 k 0 l0_0 (l0_0.length : Int) 0) = some r := h
 clear h
 have H' := Aside0.mk H
 clear H
 go_enter Try.func43, Try.ntmps43
 go_wp2_with (first | ((with_reducible refine gate_dst (N := 1) rfl ?_); refine bxe 1 #[.slice A0_0 l0_0.length c0_0, .int .i64 a0_1] 57 ?_; intro gb374 hg w2 hbox hb; have n0_ := Aside0.mk (below_step lB hb); have n1_ := Aside0.mk (hbox); have n2_ := lG w hg; have n3_ := lG w hg; clear HB; have HB := n0_; have BK374 := n1_; have GW374 := n2_; have GE374 := n3_; clear n0_ n1_ n2_ n3_; clear hb hbox hg; obtain ⟨hcz3_0, hfz3_0, hcz3_1, hfz3_1⟩ := bk2 BK374.out))
 go_loopg [3, 9] k (fun kq v3 v9 w' => ∃ (x3_1 : Int) (x9_1 : Int), v3 = .int .i64 x3_1 ∧ v9 = .int .i64 x9_1 ∧ Aside0 (spec_l9Weight.l0 kq x3_1 l0_0 (l0_0.length : Int) x9_1 = some r) ∧ Aside0 (kq ≤ k) ∧ Aside0 (w'.heap[gb374]? = some (.cells #[(.slice A0_0 l0_0.length c0_0), .int .i64 a0_1] 57 (0, 0))) ∧ Aside0 (Below w.heap.size w w'))
 case atStart => exact ⟨(0), (0), lF, lF, H', ⟨Nat.le_refl _⟩, ⟨lK BK374.out⟩, ⟨lB⟩⟩
 case round =>
  clear H'
  try clear p2
  try clear hcz3_0 hcz3_1 hfz3_0 hfz3_1
  obtain ⟨x3_1, x9_1, rfl, rfl, HA, HK1, BK374, HB⟩ := hrel
  cases gk with
  | zero => exact absurd HA.out (by simp [spec_l9Weight.l0])
  | succ k1 =>
   have H := HA.out
   clear HA
   simp only [spec_l9Weight.l0] at H
   by_cases c4 : x9_1 < (l0_0.length : Int)
   ·rw [if_pos c4] at H
    have c4b0 : decide (x9_1 < (l0_0.length : Int)) = true := decide_eq_true c4
    clear c4
    by_cases c5 : 0 ≤ x9_1
    ·rw [if_pos c5] at H
     have c5b0 : decide (0 ≤ x9_1) = true := decide_eq_true c5
     clear c5
     by_cases c6 : x9_1 < (l0_0.length : Int)
     ·rw [if_pos c6] at H
      have c6b0 : decide (x9_1 < (l0_0.length : Int)) = true := decide_eq_true c6
      clear c6
      by_cases c7 : (rd l0_0 x9_1) = 0
      ·rw [if_pos c7] at H
       have c7b0 : ((rd l0_0 x9_1) == 0) = true := beq_iff_eq.mpr c7
       have c7b1 : ((rd l0_0 x9_1) != 0) = false := bne_eq_false_iff_eq.mpr c7
       clear c7
       have H' := Aside0.mk H
       clear H
       have p375 : 0 ≤ (x9_1 : Int) := lD
       have q375 : x9_1 < (l0_0.length : Int) := lD
       obtain ⟨ad375, e375, hx375_0⟩ := Kd.at_int HR0_0.out x9_1 p375 q375
       cases e375
       replace hx375_0 := pw_cell_below HB.out hx375_0
       replace p375 := eq_true p375
       replace q375 := eq_true q375
       go_wp2
       go_roundg k1
       case measure => have := HK1.out; omega
       case rel => exact ⟨(x3_1), (wrap64 (x9_1 + 1)), lF, lF, H', ⟨by have := HK1.out; omega⟩, ⟨lK BK374.out⟩, ⟨lB⟩⟩
      ·rw [if_neg c7] at H
       have c7b0 : ((rd l0_0 x9_1) == 0) = false := beq_eq_false_iff_ne.mpr c7
       have c7b1 : ((rd l0_0 x9_1) != 0) = true := bne_iff_ne.mpr c7
       have H' := Aside0.mk H
       clear H
       have p375 : 0 ≤ (x9_1 : Int) := lD
       have q375 : x9_1 < (l0_0.length : Int) := lD
       obtain ⟨ad375, e375, hx375_0⟩ := Kd.at_int HR0_0.out x9_1 p375 q375
       cases e375
       replace hx375_0 := pw_cell_below HB.out hx375_0
       replace p375 := eq_true p375
       replace q375 := eq_true q375
       go_wp2
       go_roundg k1
       case measure => have := HK1.out; omega
       case rel => exact ⟨(wrap64 (x3_1 + 1)), (wrap64 (x9_1 + 1)), lF, lF, H', ⟨by have := HK1.out; omega⟩, ⟨lK BK374.out⟩, ⟨lB⟩⟩
     ·rw [if_neg c6] at H
      exact absurd H (by simp)
    ·rw [if_neg c5] at H
     exact absurd H (by simp)
   ·rw [if_neg c4] at H
    have c4b0 : decide (x9_1 < (l0_0.length : Int)) = false := decide_eq_false c4
    clear c4
    obtain rfl := Option.some.inj H
    first | (go_wp2; go_ret; exact ⟨lE, lB⟩) | (exfalso; simp only [decide_eq_false_iff_not, decide_eq_true_eq] at *; omega)

/-! ### spec_l9Sum: function 44 -/
def spec_l9Sum.l0 : Nat → List (S57) → Int → List (S63) → Int → Int → Option (Int)
 | 0, _, _, _, _, _ => none
 | k + 1, x0, x5, x8, x9, x10 => if x10 < x9 then (if 0 ≤ x10 then (if x10 < (x8.length : Int) then (if 0 ≤ ((rd_T63 x8 x10).f1) then (if ((rd_T63 x8 x10).f1) < (x0.length : Int) then (spec_l9Sum.l0 k x0 (wrap64 (x5 + ((rd_T57 x0 ((rd_T63 x8 x10).f1)).f1))) x8 x9 (wrap64 (x10 + 1))) else (none)) else (none)) else (none)) else (none)) else (some x5)
def spec_l9Sum.f (k : Nat) (l0 : List (S57)) (l1 : List (S63)) : Option (Int) := spec_l9Sum.l0 k l0 0 l1 (l1.length : Int) 0
theorem spec_l9Sum.mono_l : ∀ k, (∀ y0 y1 y2 y3 y4, LeO (spec_l9Sum.l0 k y0 y1 y2 y3 y4) (spec_l9Sum.l0 (k + 1) y0 y1 y2 y3 y4))
 | 0 => fun _ _ _ _ _ r h => by simp [spec_l9Sum.l0] at h
 | k + 1 => by
  have ih0 := spec_l9Sum.mono_l k
  ·intro y0 y1 y2 y3 y4
   unfold spec_l9Sum.l0
   repeat' first
   | with_reducible apply ih0
   | (with_reducible exact LeO.refl _)
   | (with_reducible exact LeO.none _)
   | (with_reducible refine LeO.ite ?_ ?_)
   | (with_reducible refine LeO.bind ?_ (fun _ => ?_))
   | apply ih0
   | exact LeO.none _
   | refine LeO.ite ?_ ?_
   | refine LeO.bind ?_ (fun _ => ?_)
theorem spec_l9Sum.mono : ∀ a0 a1 k, LeO (spec_l9Sum.f k a0 a1) (spec_l9Sum.f (k + 1) a0 a1) := by
 intro a0 a1 k
 have ih0 := spec_l9Sum.mono_l k
 unfold spec_l9Sum.f
 repeat' first
   | with_reducible apply ih0
   | (with_reducible exact LeO.refl _)
   | (with_reducible exact LeO.none _)
   | (with_reducible refine LeO.ite ?_ ?_)
   | (with_reducible refine LeO.bind ?_ (fun _ => ?_))
   | apply ih0
   | exact LeO.none _
   | refine LeO.ite ?_ ?_
   | refine LeO.bind ?_ (fun _ => ?_)
set_option maxHeartbeats 8000000 in
set_option maxRecDepth 100000 in
theorem spec_l9Sum.calls (k : Nat) (A0 : Option Addr) (c0 : Nat) (l0 : List (S57)) (A1 : Option Addr) (c1 : Nat) (l1 : List (S63)) (r : Int) (w : World) (hr0 : Kd.C k57 w A0 l0.length l0) (hc0 : l0.length ≤ c0) (hr1 : Kd.C k63 w A1 l1.length l1) (hc1 : l1.length ≤ c1) (h : spec_l9Sum.f k l0 l1 = some r) :
  Calls Try.prog 44 #[.slice A0 l0.length c0, .slice A1 l1.length c1] w fun e w' => e = .returned (.int .i64 r) ∧ Below w.heap.size w w' := by
 have hu63 := Try.underlying63
 have HR0 := Aside0.mk hr0
 have HC0 := Aside0.mk hc0
 clear hr0 hc0
 have HR1 := Aside0.mk hr1
 have HC1 := Aside0.mk hc1
 clear hr1 hc1
 have HB := Aside0.mk (Below.refl w.heap.size w)
 have H : (spec_l9Sum.l0 k l0 0 l1 (l1.length : Int) 0) = some r := h
 clear h
 have H' := Aside0.mk H
 clear H
 go_enter Try.func44, Try.ntmps44
 go_wp2
 go_loopg [5, 10] k (fun kq v5 v10 w' => ∃ (x5_1 : Int) (x10_1 : Int), v5 = .int .i64 x5_1 ∧ v10 = .int .i64 x10_1 ∧ Aside0 (spec_l9Sum.l0 kq l0 x5_1 l1 (l1.length : Int) x10_1 = some r) ∧ Aside0 (kq ≤ k) ∧ Aside0 (Below w.heap.size w w'))
 case atStart => exact ⟨(0), (0), lF, lF, H', ⟨Nat.le_refl _⟩, ⟨lB⟩⟩
 case round =>
  clear H'
  try clear c1
  try clear p2
  obtain ⟨x5_1, x10_1, rfl, rfl, HA, HK1, HB⟩ := hrel
  cases gk with
  | zero => exact absurd HA.out (by simp [spec_l9Sum.l0])
  | succ k1 =>
   have H := HA.out
   clear HA
   simp only [spec_l9Sum.l0] at H
   by_cases c3 : x10_1 < (l1.length : Int)
   ·rw [if_pos c3] at H
    have c3b0 : decide (x10_1 < (l1.length : Int)) = true := decide_eq_true c3
    clear c3
    by_cases c4 : 0 ≤ x10_1
    ·rw [if_pos c4] at H
     have c4b0 : decide (0 ≤ x10_1) = true := decide_eq_true c4
     clear c4
     by_cases c5 : x10_1 < (l1.length : Int)
     ·rw [if_pos c5] at H
      have c5b0 : decide (x10_1 < (l1.length : Int)) = true := decide_eq_true c5
      clear c5
      by_cases c6 : 0 ≤ ((rd_T63 l1 x10_1).f1)
      ·rw [if_pos c6] at H
       have c6b0 : decide (0 ≤ ((rd_T63 l1 x10_1).f1)) = true := decide_eq_true c6
       clear c6
       by_cases c7 : ((rd_T63 l1 x10_1).f1) < (l0.length : Int)
       ·rw [if_pos c7] at H
        have c7b0 : decide (((rd_T63 l1 x10_1).f1) < (l0.length : Int)) = true := decide_eq_true c7
        clear c7
        have H' := Aside0.mk H
        clear H
        have p376 : 0 ≤ (x10_1 : Int) := lD
        have q376 : x10_1 < (l1.length : Int) := lD
        obtain ⟨ad376, e376, hx376_0, hx376_1⟩ := at_T63 HR1.out x10_1 p376 q376
        cases e376
        replace hx376_0 := pw_cell_below HB.out hx376_0
        replace hx376_1 := pw_cell_below HB.out hx376_1
        replace p376 := eq_true p376
        replace q376 := eq_true q376
        go_wp2_with (first | ((with_reducible refine gate_dst (N := 7) rfl ?_); refine bxe 7 #[.int .i64 0, .int .i64 0] 63 ?_; intro gb377 hg w8 hbox hb; have n0_ := Aside0.mk (below_step lB hb); have n1_ := Aside0.mk (hbox); have n2_ := lG w hg; have n3_ := lG w hg; clear HB; have HB := n0_; have BK377 := n1_; have GW377 := n2_; have GE377 := n3_; clear n0_ n1_ n2_ n3_; clear hb hbox hg; obtain ⟨hcz9_0, hfz9_0, hcz9_1, hfz9_1⟩ := bk2 BK377.out; have p378 : 0 ≤ (((rd_T63 l1 x10_1).f1) : Int) := lD; have q378 : ((rd_T63 l1 x10_1).f1) < (l0.length : Int) := lD; obtain ⟨ad378, A378_0, c378_0, e378, hx378_0, hx378_1, hl378_0, hi378_0⟩ := at_T57 HR0.out ((rd_T63 l1 x10_1).f1) p378 q378; cases e378; have hn378_0 : ad378.block ≠ gb377 := Nat.ne_of_lt (Nat.lt_of_lt_of_le (by have := World.block_lt_of_cell? _ _ hx378_0; first | rwa [add_block] at this | exact this) GW377.out); have hn378_1 : ad378.block ≠ gb377 := Nat.ne_of_lt (Nat.lt_of_lt_of_le (by have := World.block_lt_of_cell? _ _ hx378_0; first | rwa [add_block] at this | exact this) GW377.out); replace hx378_0 := pw_cell_below HB.out hx378_0; replace hx378_1 := pw_cell_below HB.out hx378_1; have HR378_0 := Aside0.mk hi378_0; have HC378_0 := Aside0.mk hl378_0; clear hi378_0 hl378_0; replace hx378_0 := (cell_far (p := ⟨gb377, 0, none⟩) (by first | (rw [add_block]; exact hn378_0) | (show (Addr.add _ _).block ≠ _; rw [add_block]; exact hn378_0) | exact hn378_0) (.int .i64 ((rd_T63 l1 x10_1).f0))).trans hx378_0; replace hx378_1 := (cell_far (p := ⟨gb377, 0, none⟩) (by first | (rw [add_block]; exact hn378_0) | (show (Addr.add _ _).block ≠ _; rw [add_block]; exact hn378_0) | exact hn378_0) (.int .i64 ((rd_T63 l1 x10_1).f0))).trans hx378_1; replace hx378_0 := (cell_far (p := ⟨gb377, 1, none⟩) (by first | (rw [add_block]; exact hn378_1) | (show (Addr.add _ _).block ≠ _; rw [add_block]; exact hn378_1) | exact hn378_1) (.int .i64 ((rd_T63 l1 x10_1).f1))).trans hx378_0; replace hx378_1 := (cell_far (p := ⟨gb377, 1, none⟩) (by first | (rw [add_block]; exact hn378_1) | (show (Addr.add _ _).block ≠ _; rw [add_block]; exact hn378_1) | exact hn378_1) (.int .i64 ((rd_T63 l1 x10_1).f1))).trans hx378_1; clear hn378_0; clear hn378_1; replace p378 := eq_true p378; replace q378 := eq_true q378))
        go_roundg k1
        case measure => have := HK1.out; omega
        case rel => exact ⟨(wrap64 (x5_1 + ((rd_T57 l0 ((rd_T63 l1 x10_1).f1)).f1))), (wrap64 (x10_1 + 1)), lF, lF, H', ⟨by have := HK1.out; omega⟩, ⟨lB⟩⟩
       ·rw [if_neg c7] at H
        exact absurd H (by simp)
      ·rw [if_neg c6] at H
       exact absurd H (by simp)
     ·rw [if_neg c5] at H
      exact absurd H (by simp)
    ·rw [if_neg c4] at H
     exact absurd H (by simp)
   ·rw [if_neg c3] at H
    have c3b0 : decide (x10_1 < (l1.length : Int)) = false := decide_eq_false c3
    clear c3
    obtain rfl := Option.some.inj H
    first | (go_wp2; go_ret; exact ⟨lE, lB⟩) | (exfalso; simp only [decide_eq_false_iff_not, decide_eq_true_eq] at *; omega)

end Go.Proofs.Ytfdbdbihhgabpaa.Q
