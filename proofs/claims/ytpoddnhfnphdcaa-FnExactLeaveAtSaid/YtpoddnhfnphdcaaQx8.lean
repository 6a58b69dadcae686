-- Written by the program wip/tools/pr.py of this claim's session, over the kit's print.py.
import Derived.Test.YtpoddnhfnphdcaaQx0
import Derived.Test.YtpoddnhfnphdcaaQx1
import Derived.Test.YtpoddnhfnphdcaaQx7
namespace Go.Proofs.Ytpoddnhfnphdcaa.Q
open Go.RowKit Go.Proofs.YtpoddnhfnphdcaaW.PrintWords Go.Proofs.YtpoddnhfnphdcaaW.PrintLast Go.Proofs.YtpoddnhfnphdcaaW.PrintMore
attribute [local go_sem] max2_int min2_int max_two min_two max_three min_three max_four min_four   -- for this text's walks alone
set_option linter.unusedVariables false
set_option linter.unusedSimpArgs false

/-! ### laws_markLocSS: function 60 -/
def markLocS_one (n : Int) (x : S79) : S79 := ⟨(decide ((n) % 3 = 0)), (n + 1)⟩
def markLocS_cnt1 (x : S79) : Nat := 1 + 1
def markLocS_cnt : List S79 → Nat
 | [] => 0
 | x :: xs => markLocS_cnt1 x + markLocS_cnt xs
def markLocS_mk (n : Int) : List S79 → List S79
 | [] => []
 | x :: xs => markLocS_one n x :: markLocS_mk (n + markLocS_cnt1 x) xs
theorem markLocS_mk_length : ∀ (n : Int) (l : List S79), (markLocS_mk n l).length = l.length
 | _, [] => rfl
 | n, x :: xs => by simp [markLocS_mk, markLocS_mk_length _ xs]
theorem markLocS_mk_snoc : ∀ (n : Int) (l : List S79) (x : S79), markLocS_mk n (l ++ [x]) = markLocS_mk n l ++ [markLocS_one (n + markLocS_cnt l) x]
 | n, [], x => by simp [markLocS_mk, markLocS_cnt]
 | n, y :: ys, x => by
  simp only [List.cons_append, markLocS_mk, markLocS_cnt, markLocS_mk_snoc _ ys x]
  rw [show n + (markLocS_cnt1 y : Nat) + (markLocS_cnt ys : Nat) = n + ((markLocS_cnt1 y + markLocS_cnt ys : Nat) : Int) by omega]
theorem markLocS_cnt_snoc : ∀ (l : List S79) (x : S79), markLocS_cnt (l ++ [x]) = markLocS_cnt l + markLocS_cnt1 x
 | [], x => by simp [markLocS_cnt]
 | y :: ys, x => by simp only [List.cons_append, markLocS_cnt, markLocS_cnt_snoc ys x]; omega
theorem markLocS_cnt_app : ∀ (l r : List S79), markLocS_cnt (l ++ r) = markLocS_cnt l + markLocS_cnt r
 | [], r => by simp [markLocS_cnt]
 | y :: ys, r => by simp only [List.cons_append, markLocS_cnt, markLocS_cnt_app ys r]; omega
theorem markLocS_len : ∀ l : List S79, l.length ≤ markLocS_cnt l
 | [] => Nat.le_refl _
 | x :: xs => by
  have := markLocS_len xs
  simp only [markLocS_cnt, markLocS_cnt1, List.length_cons]
  omega
theorem markLocS_l0_ : ∀ (post pre : List S79) (n : Int), pre.length + post.length < 4611686018427387904 → 0 ≤ n → n + (markLocS_cnt post : Nat) < 4611686018427387904 →
  Ev (fun k => laws_markLocS.l0 k (pre ++ post) n (pre.length : Int)) (n + (markLocS_cnt post : Nat), pre ++ markLocS_mk n post)
 | [], pre, n, hb, h0, hn => by
  refine Ev.step (fun k => by simp only [laws_markLocS.l0]; rw [if_neg (by simp)]) ?_
  simpa [markLocS_mk, markLocS_cnt] using Ev.now _
 | x :: post, pre, n, hb, h0, hn => by
  simp only [markLocS_cnt, markLocS_cnt1, List.length_cons] at hn hb
  have ih := markLocS_l0_ post (pre ++ [markLocS_one n x]) (n + (markLocS_cnt1 x : Nat)) (by simp; omega) (by omega) (by simp only [markLocS_cnt1]; omega)
  have hrd : ∀ y : S79, rd_T79 (pre ++ y :: post) (pre.length : Int) = y := fun y => by unfold rd_T79; rw [Int.toNat_natCast]; exact Kit.getD_at rfl
  have e1 : wrap64 (n + 1) = n + 1 := Kit.w64 (by omega) (by omega)
  have e2 : wrap64 ((n + 1) + 1) = (n + 1) + 1 := Kit.w64 (by omega) (by omega)
  have eb0 : (Int.tmod n 3 == 0) = decide (n % 3 = 0) := by rw [Int.tmod_eq_emod_of_nonneg (by omega)]; exact Bool.eq_iff_iff.2 (by simp)
  have ew : wrap64 ((pre.length : Int) + 1) = ((pre.length + 1 : Nat) : Int) := Kit.w_succ (by omega)
  refine Ev.step (fun k => by
   simp only [laws_markLocS.l0]
   rw [if_pos (by simp; omega), if_pos (by omega)]) ?_
  simp only [Option.bind_some, Int.toNat_natCast, Kit.set_mid, hrd, ew, e1, e2]
  (try simp only [eb0])
  simp only [markLocS_mk, markLocS_cnt, markLocS_one, markLocS_cnt1] at ih ⊢
  simpa [Int.add_assoc] using ih
theorem markLocS_flat (l : List S79) (n : Int) (hb : 0 ≤ n) (h0 : 0 ≤ n) (hn : n + (markLocS_cnt l : Nat) < 2305843009213693952) : Ev (fun k => laws_markLocS.f k l n) (n + (markLocS_cnt l : Nat), markLocS_mk n l) := by
 have hlen := markLocS_len l
 have h := markLocS_l0_ l [] n (by simp; omega) h0 (by omega)
 unfold laws_markLocS.f
 simpa using h
def markLocSS_one (n : Int) (x : List (S79)) : List (S79) := (markLocS_mk n x)
def markLocSS_cnt1 (x : List (S79)) : Nat := markLocS_cnt x
def markLocSS_cnt : List (List (S79)) → Nat
 | [] => 0
 | x :: xs => markLocSS_cnt1 x + markLocSS_cnt xs
def markLocSS_mk (n : Int) : List (List (S79)) → List (List (S79))
 | [] => []
 | x :: xs => markLocSS_one n x :: markLocSS_mk (n + markLocSS_cnt1 x) xs
theorem markLocSS_mk_length : ∀ (n : Int) (l : List (List (S79))), (markLocSS_mk n l).length = l.length
 | _, [] => rfl
 | n, x :: xs => by simp [markLocSS_mk, markLocSS_mk_length _ xs]
theorem markLocSS_mk_snoc : ∀ (n : Int) (l : List (List (S79))) (x : List (S79)), markLocSS_mk n (l ++ [x]) = markLocSS_mk n l ++ [markLocSS_one (n + markLocSS_cnt l) x]
 | n, [], x => by simp [markLocSS_mk, markLocSS_cnt]
 | n, y :: ys, x => by
  simp only [List.cons_append, markLocSS_mk, markLocSS_cnt, markLocSS_mk_snoc _ ys x]
  rw [show n + (markLocSS_cnt1 y : Nat) + (markLocSS_cnt ys : Nat) = n + ((markLocSS_cnt1 y + markLocSS_cnt ys : Nat) : Int) by omega]
theorem markLocSS_cnt_snoc : ∀ (l : List (List (S79))) (x : List (S79)), markLocSS_cnt (l ++ [x]) = markLocSS_cnt l + markLocSS_cnt1 x
 | [], x => by simp [markLocSS_cnt]
 | y :: ys, x => by simp only [List.cons_append, markLocSS_cnt, markLocSS_cnt_snoc ys x]; omega
theorem markLocSS_cnt_app : ∀ (l r : List (List (S79))), markLocSS_cnt (l ++ r) = markLocSS_cnt l + markLocSS_cnt r
 | [], r => by simp [markLocSS_cnt]
 | y :: ys, r => by simp only [List.cons_append, markLocSS_cnt, markLocSS_cnt_app ys r]; omega
open Mk in
set_option maxHeartbeats 1600000 in
set_option maxRecDepth 100000 in
theorem laws_markLocSS.calls (P0_ : Nat → Prop) (u9000_ : Value) (l0 : List (List (S79))) (a1 : Int) (w0 w : World) (hB : Below w0.heap.size w0 w) (ho0 : Kd.S (Kd.slice 79 k79) 71 w w0.heap.size P0_ u9000_ l0) (hn0 : 0 ≤ a1) (hn1 : a1 + (markLocSS_cnt l0 : Nat) < 2305843009213693952) :
  Calls Try.prog 60 #[u9000_, .int .i64 a1] w fun e w' => e = .returned (.int .i64 (a1 + (markLocSS_cnt l0 : Nat))) ∧ Kd.S (Kd.slice 79 k79) 71 w' w0.heap.size P0_ u9000_ (markLocSS_mk a1 l0) ∧ Below w0.heap.size w0 w' ∧ Kept w w' P0_ := by
 obtain ⟨A0, c0, rfl⟩ := Kd.S_slice ho0
 have hlen : l0.length ≤ 9223372036854775807 := (Kd.S_reads' ho0).2.2.2.1
 have HS0 := Aside0.mk ho0
 have HB0 := Aside0.mk hB
 clear ho0 hB
 go_enter Try.func60, Try.ntmps60
 go_wp2
 go_loopg [1, 5] l0.length (fun gg v1 v5 wr => ∃ pre post : List (List (S79)), v1 = .int .i64 (a1 + (markLocSS_cnt pre : Nat)) ∧ v5 = .int .i64 (pre.length : Int) ∧ Aside0 (l0 = pre ++ post) ∧ post.length ≤ gg ∧ Aside0 (Kd.S (Kd.slice 79 k79) 71 wr w0.heap.size P0_ (.slice A0 l0.length c0) (markLocSS_mk a1 pre ++ post)) ∧ Aside0 (Below w0.heap.size w0 wr) ∧ Aside0 (Kept w wr P0_))
 case atStart => exact ⟨[], l0, by simp [markLocSS_cnt], rfl, ⟨rfl⟩, Nat.le_refl _, ⟨by simpa [markLocSS_mk] using HS0.out⟩, ⟨HB0.out⟩, ⟨Kept.refl _ _⟩⟩
 case round =>
  obtain ⟨pre, post, rfl, rfl, HL, hg, HS, HB, HK⟩ := hrel
  have hnl : l0.length = pre.length + post.length := by rw [HL.out]; simp
  have hcl : markLocSS_cnt l0 = markLocSS_cnt pre + markLocSS_cnt post := by rw [HL.out, markLocSS_cnt_app]
  cases post with
  | nil =>
   have hd0 : decide (pre.length < l0.length) = false := by simp at hnl; simp [hnl]
   have hle : (l0.length : Int) ≤ (pre.length : Int) := by simp at hnl; omega
   have HF := Aside0.mk (show a1 + (markLocSS_cnt pre : Nat) = a1 + (markLocSS_cnt l0 : Nat) by simp [markLocSS_cnt] at hcl; rw [hcl])
   have HM := Aside0.mk (show markLocSS_mk a1 pre = markLocSS_mk a1 l0 by rw [HL.out, List.append_nil])
   clear hnl hcl
   go_wp2
   go_ret
   exact ⟨by rw [← HF.out]; rfl, by have h_ := HS.out; rwa [List.append_nil, HM.out] at h_, HB.out, HK.out⟩
  | cons x post =>
   simp only [List.length_cons] at hnl hg
   simp only [markLocSS_cnt] at hcl
   have hn2 : a1 + (markLocSS_cnt pre : Nat) + (markLocSS_cnt1 x : Nat) < 2305843009213693952 := by omega
   have hx2 := hn2
   simp only [markLocSS_cnt1] at hx2
   have hlt : pre.length < l0.length := by omega
   have hltz : (pre.length : Int) < (l0.length : Int) := by omega
   have hd0 : decide (pre.length < l0.length) = true := decide_eq_true hlt
   obtain ⟨ad_, hA_⟩ : ∃ ad_, A0 = some ad_ := by
    obtain ⟨ad, hA, _⟩ := (Kd.S_reads' HS.out).2.2.2.2 (by simp [markLocSS_mk_length] <;> omega)
    exact ⟨ad, hA⟩
   subst hA_
   obtain ⟨g, hg_⟩ := Kd.R_head (Kd.S_R HS.out)
   subst hg_
   have hx_ : (markLocSS_mk a1 pre ++ x :: post).getD pre.length [] = x := Kit.getD_at (by rw [markLocSS_mk_length])
   obtain ⟨v_, hHo⟩ := hole_open (di := k79) (ei := 79) (ys := x) [] x (fun v_ => [v_]) HS.out HB.out HK.out hlt hx_ (fun _ _ _ hM => hM)
   clear hx_ HS HB HK hnl
   have HH := Aside0.mk hHo
   have HCL := Aside0.mk hcl
   clear hHo hcl
   obtain ⟨hx0, hf0⟩ := hole_cells (sz := 1) rfl HH.out 0 _ rfl
   simp only [Nat.mul_one, Nat.add_zero] at hx0 hf0
   obtain ⟨kf_, hf_⟩ := Ev.rounds (markLocS_flat x (a1 + (markLocSS_cnt pre : Nat)) (by omega) (by omega) (by omega))
   have HF_ := Aside0.mk hf_
   clear hf_
   have hcall_ := hole_call HH.out (fun oki hb_ hr_ => (laws_markLocS.calls kf_ oki v_ x (a1 + (markLocSS_cnt pre : Nat)) _ _ w0 _ hb_ hr_ HF_.out)) rfl
   clear HH
   go_wp2_with fail
   refine hcall_.mono ?_
   rintro e_ w2 ⟨rfl, hH2_⟩
   clear hcall_ HF_
   clear hx0 hf0
   have HH := Aside0.mk hH2_
   clear hH2_
   obtain ⟨hx0, hf0⟩ := hole_cells (sz := 1) rfl HH.out 0 _ rfl
   simp only [Nat.mul_one, Nat.add_zero] at hx0 hf0
   have hcl_ := hole_close HH.out (markLocSS_one (a1 + (markLocSS_cnt pre : Nat)) x) (fun _ _ hr_ => ⟨_, rfl, hr_⟩)
   clear HH
   have HS2 := Aside0.mk hcl_.1
   have HB2 := Aside0.mk hcl_.2.1
   have HK2 := Aside0.mk hcl_.2.2
   clear hcl_
   have HE := Aside0.mk (show a1 + (markLocSS_cnt (pre ++ [x]) : Nat) = a1 + (markLocSS_cnt pre : Nat) + (markLocS_cnt x : Nat) by rw [markLocSS_cnt_snoc]; simp only [markLocSS_cnt1]; omega)
   have HX := Aside0.mk (show (markLocSS_mk a1 pre ++ x :: post).set pre.length (markLocSS_one (a1 + (markLocSS_cnt pre : Nat)) x) = markLocSS_mk a1 (pre ++ [x]) ++ post by rw [Kit.set_at (by rw [markLocSS_mk_length]), markLocSS_mk_snoc]; simp)
   have HL2 := Aside0.mk (show l0 = (pre ++ [x]) ++ post by rw [HL.out]; simp)
   clear hn2 HL HCL
   go_wp2_with fail
   go_roundg post.length
   case measure => omega
   case rel => exact ⟨pre ++ [x], post, by rw [HE.out], by simp, HL2, Nat.le_refl _, ⟨by have h_ := HS2.out; rwa [HX.out] at h_⟩, HB2, HK2⟩

/-! ### laws_markTranslated: function 33 -/
def markInstrS_one (n : Int) (x : S91) : S91 := ⟨n, (n + 1), ((n + 1) + 1), (((n + 1) + 1) + 1), ((((n + 1) + 1) + 1) + 1)⟩
def markInstrS_cnt1 (x : S91) : Nat := 1 + 1 + 1 + 1 + 1
def markInstrS_cnt : List S91 → Nat
 | [] => 0
 | x :: xs => markInstrS_cnt1 x + markInstrS_cnt xs
def markInstrS_mk (n : Int) : List S91 → List S91
 | [] => []
 | x :: xs => markInstrS_one n x :: markInstrS_mk (n + markInstrS_cnt1 x) xs
theorem markInstrS_mk_length : ∀ (n : Int) (l : List S91), (markInstrS_mk n l).length = l.length
 | _, [] => rfl
 | n, x :: xs => by simp [markInstrS_mk, markInstrS_mk_length _ xs]
theorem markInstrS_mk_snoc : ∀ (n : Int) (l : List S91) (x : S91), markInstrS_mk n (l ++ [x]) = markInstrS_mk n l ++ [markInstrS_one (n + markInstrS_cnt l) x]
 | n, [], x => by simp [markInstrS_mk, markInstrS_cnt]
 | n, y :: ys, x => by
  simp only [List.cons_append, markInstrS_mk, markInstrS_cnt, markInstrS_mk_snoc _ ys x]
  rw [show n + (markInstrS_cnt1 y : Nat) + (markInstrS_cnt ys : Nat) = n + ((markInstrS_cnt1 y + markInstrS_cnt ys : Nat) : Int) by omega]
theorem markInstrS_cnt_snoc : ∀ (l : List S91) (x : S91), markInstrS_cnt (l ++ [x]) = markInstrS_cnt l + markInstrS_cnt1 x
 | [], x => by simp [markInstrS_cnt]
 | y :: ys, x => by simp only [List.cons_append, markInstrS_cnt, markInstrS_cnt_snoc ys x]; omega
theorem markInstrS_cnt_app : ∀ (l r : List S91), markInstrS_cnt (l ++ r) = markInstrS_cnt l + markInstrS_cnt r
 | [], r => by simp [markInstrS_cnt]
 | y :: ys, r => by simp only [List.cons_append, markInstrS_cnt, markInstrS_cnt_app ys r]; omega
theorem markInstrS_len : ∀ l : List S91, l.length ≤ markInstrS_cnt l
 | [] => Nat.le_refl _
 | x :: xs => by
  have := markInstrS_len xs
  simp only [markInstrS_cnt, markInstrS_cnt1, List.length_cons]
  omega
theorem markInstrS_l0_ : ∀ (post pre : List S91) (n : Int), pre.length + post.length < 4611686018427387904 → 0 ≤ n → n + (markInstrS_cnt post : Nat) < 4611686018427387904 →
  Ev (fun k => laws_markInstrS.l0 k (pre ++ post) n (pre.length : Int)) (n + (markInstrS_cnt post : Nat), pre ++ markInstrS_mk n post)
 | [], pre, n, hb, h0, hn => by
  refine Ev.step (fun k => by simp only [laws_markInstrS.l0]; rw [if_neg (by simp)]) ?_
  simpa [markInstrS_mk, markInstrS_cnt] using Ev.now _
 | x :: post, pre, n, hb, h0, hn => by
  simp only [markInstrS_cnt, markInstrS_cnt1, List.length_cons] at hn hb
  have ih := markInstrS_l0_ post (pre ++ [markInstrS_one n x]) (n + (markInstrS_cnt1 x : Nat)) (by simp; omega) (by omega) (by simp only [markInstrS_cnt1]; omega)
  have hrd : ∀ y : S91, rd_T91 (pre ++ y :: post) (pre.length : Int) = y := fun y => by unfold rd_T91; rw [Int.toNat_natCast]; exact Kit.getD_at rfl
  have e1 : wrap64 (n + 1) = n + 1 := Kit.w64 (by omega) (by omega)
  have e2 : wrap64 ((n + 1) + 1) = (n + 1) + 1 := Kit.w64 (by omega) (by omega)
  have e3 : wrap64 (((n + 1) + 1) + 1) = ((n + 1) + 1) + 1 := Kit.w64 (by omega) (by omega)
  have e4 : wrap64 ((((n + 1) + 1) + 1) + 1) = (((n + 1) + 1) + 1) + 1 := Kit.w64 (by omega) (by omega)
  have e5 : wrap64 (((((n + 1) + 1) + 1) + 1) + 1) = ((((n + 1) + 1) + 1) + 1) + 1 := Kit.w64 (by omega) (by omega)
  have ew : wrap64 ((pre.length : Int) + 1) = ((pre.length + 1 : Nat) : Int) := Kit.w_succ (by omega)
  refine Ev.step (fun k => by
   simp only [laws_markInstrS.l0]
   rw [if_pos (by simp; omega), if_pos (by omega)]) ?_
  simp only [Option.bind_some, Int.toNat_natCast, Kit.set_mid, hrd, ew, e1, e2, e3, e4, e5]
  skip
  simp only [markInstrS_mk, markInstrS_cnt, markInstrS_one, markInstrS_cnt1] at ih ⊢
  simpa [Int.add_assoc] using ih
theorem markInstrS_flat (l : List S91) (n : Int) (hb : 0 ≤ n) (h0 : 0 ≤ n) (hn : n + (markInstrS_cnt l : Nat) < 2305843009213693952) : Ev (fun k => laws_markInstrS.f k l n) (n + (markInstrS_cnt l : Nat), markInstrS_mk n l) := by
 have hlen := markInstrS_len l
 have h := markInstrS_l0_ l [] n (by simp; omega) h0 (by omega)
 unfold laws_markInstrS.f
 simpa using h
open Mk in
set_option maxHeartbeats 1600000 in
set_option maxRecDepth 100000 in
theorem laws_markTranslated.calls (P0_ : Nat → Prop) (u9000_ : Value) (l0_0 : List (S91)) (u9001_ : Value) (l0_1 : List Int) (u9002_ : Value) (l0_2 : List (List (S79))) (a1 : Int) (w0 w : World) (hB : Below w0.heap.size w0 w) (ho0_0 : Kd.R k91 91 w w0.heap.size (fun k_ => (P0_ k_) ∧ some k_ = (u9000_ : Value).ownBlock ∧ (some k_ ≠ (u9001_ : Value).ownBlock)) u9000_ l0_0) (ho0_1 : Kd.R (Kd.int .i64) 3 w w0.heap.size (fun k_ => (P0_ k_) ∧ some k_ = (u9001_ : Value).ownBlock ∧ (some k_ ≠ (u9000_ : Value).ownBlock)) u9001_ l0_1) (ho0_2 : Kd.S (Kd.slice 79 k79) 71 w w0.heap.size (fun k_ => (P0_ k_) ∧ (some k_ ≠ (u9000_ : Value).ownBlock ∧ some k_ ≠ (u9001_ : Value).ownBlock)) u9002_ l0_2) (hn0 : 0 ≤ a1) (hn1 : a1 + (markInstrS_cnt l0_0 : Nat) + (l0_1.length : Nat) + (markLocSS_cnt l0_2 : Nat) < 2305843009213693952) :
  Calls Try.prog 33 #[.agg #[u9000_, u9001_, u9002_], .int .i64 a1] w fun e w' => e = .returned (.int .i64 (a1 + (markInstrS_cnt l0_0 : Nat) + (l0_1.length : Nat) + (markLocSS_cnt l0_2 : Nat))) ∧ Kd.R k91 91 w' w0.heap.size (fun k_ => (P0_ k_) ∧ some k_ = (u9000_ : Value).ownBlock ∧ (some k_ ≠ (u9001_ : Value).ownBlock)) u9000_ (markInstrS_mk (a1) l0_0) ∧ Kd.R (Kd.int .i64) 3 w' w0.heap.size (fun k_ => (P0_ k_) ∧ some k_ = (u9001_ : Value).ownBlock ∧ (some k_ ≠ (u9000_ : Value).ownBlock)) u9001_ (Kit.from_ (a1 + (markInstrS_cnt l0_0 : Nat)) l0_1.length) ∧ Kd.S (Kd.slice 79 k79) 71 w' w0.heap.size (fun k_ => (P0_ k_) ∧ (some k_ ≠ (u9000_ : Value).ownBlock ∧ some k_ ≠ (u9001_ : Value).ownBlock)) u9002_ (markLocSS_mk (a1 + (markInstrS_cnt l0_0 : Nat) + (l0_1.length : Nat)) l0_2) ∧ Below w0.heap.size w0 w' ∧ Kept w w' P0_ := by
 have hu55 := Try.underlying55
 have F0 : Aside0 (Kd.R k91 91 w w0.heap.size (fun k_ => (P0_ k_ ∧ k_ < w.heap.size) ∧ some k_ = (u9000_ : Value).ownBlock ∧ (some k_ ≠ (u9001_ : Value).ownBlock)) u9000_ l0_0) := ⟨Kd.R_mono (Kd.R_bound ho0_0) (fun k_ hk => ⟨⟨hk.1.1, hk.2.2.1⟩, hk.1.2⟩)⟩
 clear ho0_0
 have F1 : Aside0 (Kd.R (Kd.int .i64) 3 w w0.heap.size (fun k_ => (P0_ k_ ∧ k_ < w.heap.size) ∧ some k_ = (u9001_ : Value).ownBlock ∧ (some k_ ≠ (u9000_ : Value).ownBlock)) u9001_ l0_1) := ⟨Kd.R_mono (Kd.R_bound ho0_1) (fun k_ hk => ⟨⟨hk.1.1, hk.2.2.1⟩, hk.1.2⟩)⟩
 clear ho0_1
 have F2 : Aside0 (Kd.S (Kd.slice 79 k79) 71 w w0.heap.size (fun k_ => (P0_ k_ ∧ k_ < w.heap.size) ∧ (some k_ ≠ (u9000_ : Value).ownBlock ∧ some k_ ≠ (u9001_ : Value).ownBlock)) u9002_ l0_2) := ⟨Kd.S_mono (Kd.S_bound ho0_2) (fun k_ hk => ⟨⟨hk.1.1, hk.2.2.1⟩, hk.1.2⟩)⟩
 clear ho0_2
 obtain ⟨A0, c0, e_⟩ := Kd.R_slice F0.out
 subst e_
 obtain ⟨A1, c1, e_⟩ := Kd.R_slice F1.out
 subst e_
 obtain ⟨A2, c2, e_⟩ := Kd.S_slice F2.out
 subst e_
 have HN := Aside0.mk hn1
 have HB := Aside0.mk hB
 have HZ0 := Aside0.mk hB.size
 have HK := Aside0.mk (Kept.refl w P0_)
 clear hB hn1
 go_enter Try.func33, Try.ntmps33
 go_wp2_with (first | ((with_reducible refine gate_dst (N := 2) rfl ?_); refine box_event ?hg (N := 2) ?hd (cs := #[.slice A0 l0_0.length c0, .slice A1 l0_1.length c1, .slice A2 l0_2.length c2]) (t := 55) ?hr ?_; (case hd => rfl); (case hg => rfl); (case hr => first | (go_simp; done) | (go_simp; rfl)); intro gb hg_ wb hx_ hb; have hg2_ : gb = w.heap.size := hg_; have hb2_ : Below w.heap.size w wb := ⟨hb.os, hb.tape, hb.output, hb.size, hb.block⟩; have hn_ := Aside0.mk (Kd.R_below F0.out hb2_); clear F0; have F0 := hn_; clear hn_; have hn_ := Aside0.mk (Kd.R_below F1.out hb2_); clear F1; have F1 := hn_; clear hn_; have hn_ := Aside0.mk (Kd.S_below F2.out hb2_); clear F2; have F2 := hn_; clear hn_; have hn_ := Aside0.mk (below_then HB.out HZ0.out hb2_); clear HB; have HB := hn_; clear hn_; have hn_ := Aside0.mk (Kept.below HK.out hb2_); clear HK; have HK := hn_; clear hn_; have BK := Aside0.mk hx_; have GQ := Aside0.mk (show w.heap.size ≤ gb from Nat.le_of_eq hg2_.symm); clear hb hb2_ hg_ hg2_ hx_; have hcz_0 : wb.cell? ⟨gb, 0, none⟩ = some (.slice A0 l0_0.length c0) := (blk_cell BK.out 0).trans rfl; have hfz_0 := blk_frozen BK.out 0; have hcz_1 : wb.cell? ⟨gb, 1, none⟩ = some (.slice A1 l0_1.length c1) := (blk_cell BK.out 1).trans rfl; have hfz_1 := blk_frozen BK.out 1; have hcz_2 : wb.cell? ⟨gb, 2, none⟩ = some (.slice A2 l0_2.length c2) := (blk_cell BK.out 2).trans rfl; have hfz_2 := blk_frozen BK.out 2))
 obtain ⟨kf_, hf_⟩ := Ev.rounds (markInstrS_flat l0_0 (a1) (by have := HN.out; omega) (by omega) (by have := HN.out; omega))
 have HF_ := Aside0.mk hf_
 clear hf_
 refine (laws_markInstrS.calls kf_ (fun k_ => (P0_ k_ ∧ k_ < w.heap.size) ∧ some k_ = (.slice A0 l0_0.length c0 : Value).ownBlock ∧ (some k_ ≠ (.slice A1 l0_1.length c1 : Value).ownBlock)) _ l0_0 (a1) _ _ w0 _ HB.out F0.out HF_.out).mono ?_
 rintro e_ w1 ⟨rfl, f_, hb0_, hk_⟩
 clear HF_
 have hn_ := Aside0.mk (Kd.R_kept F1.out hk_ (fun k_ h1_ h2_ => h1_.2.2 h2_.2.1))
 clear F1
 have F1 := hn_
 clear hn_
 have hn_ := Aside0.mk (Kd.S_kept F2.out hk_ (fun k_ h1_ h2_ => h1_.2.1 h2_.2.1))
 clear F2
 have F2 := hn_
 clear hn_
 have hn_ := Aside0.mk (Kd.R_mono (Kd.R_tight rfl f_) (fun k_ e_ => F0.out.1 k_ e_.symm))
 clear F0 f_
 have F0 := hn_
 clear hn_
 have hn_ := Aside0.mk (blk_kept BK.out hk_ (fun h_ => by have h1_ := h_.1.2; have := GQ.out; omega))
 clear hcz_0 hfz_0 hcz_1 hfz_1 hcz_2 hfz_2
 clear BK
 have BK := hn_
 clear hn_
 have hn_ := Aside0.mk (Kept.then_ HK.out hk_ (fun k_ h_ => .inl h_.1.1))
 clear HK HB
 have HK := hn_
 have HB := Aside0.mk hb0_
 clear hn_ hk_ hb0_
 have hcz_0 : w1.cell? ⟨gb, 0, none⟩ = some (.slice A0 l0_0.length c0) := (blk_cell BK.out 0).trans rfl; have hfz_0 := blk_frozen BK.out 0; have hcz_1 : w1.cell? ⟨gb, 1, none⟩ = some (.slice A1 l0_1.length c1) := (blk_cell BK.out 1).trans rfl; have hfz_1 := blk_frozen BK.out 1; have hcz_2 : w1.cell? ⟨gb, 2, none⟩ = some (.slice A2 l0_2.length c2) := (blk_cell BK.out 2).trans rfl; have hfz_2 := blk_frozen BK.out 2
 go_wp2_with fail
 obtain ⟨kf_, hf_⟩ := Ev.rounds (markIntS_flat l0_1 (a1 + (markInstrS_cnt l0_0 : Nat)) (by have := HN.out; omega) (by omega) (by have := HN.out; omega))
 have HF_ := Aside0.mk hf_
 clear hf_
 refine (laws_markIntS.calls kf_ (fun k_ => (P0_ k_ ∧ k_ < w.heap.size) ∧ some k_ = (.slice A1 l0_1.length c1 : Value).ownBlock ∧ (some k_ ≠ (.slice A0 l0_0.length c0 : Value).ownBlock)) _ l0_1 (a1 + (markInstrS_cnt l0_0 : Nat)) _ _ w0 _ HB.out F1.out HF_.out).mono ?_
 rintro e_ w2 ⟨rfl, f_, hb0_, hk_⟩
 clear HF_
 have hn_ := Aside0.mk (Kd.R_kept F0.out hk_ (fun k_ h1_ h2_ => h1_.2.2 h2_.2.1))
 clear F0
 have F0 := hn_
 clear hn_
 have hn_ := Aside0.mk (Kd.S_kept F2.out hk_ (fun k_ h1_ h2_ => h1_.2.2 h2_.2.1))
 clear F2
 have F2 := hn_
 clear hn_
 have hn_ := Aside0.mk (Kd.R_mono (Kd.R_tight rfl f_) (fun k_ e_ => F1.out.1 k_ e_.symm))
 clear F1 f_
 have F1 := hn_
 clear hn_
 have hn_ := Aside0.mk (blk_kept BK.out hk_ (fun h_ => by have h1_ := h_.1.2; have := GQ.out; omega))
 clear hcz_0 hfz_0 hcz_1 hfz_1 hcz_2 hfz_2
 clear BK
 have BK := hn_
 clear hn_
 have hn_ := Aside0.mk (Kept.then_ HK.out hk_ (fun k_ h_ => .inl h_.1.1))
 clear HK HB
 have HK := hn_
 have HB := Aside0.mk hb0_
 clear hn_ hk_ hb0_
 have hcz_0 : w2.cell? ⟨gb, 0, none⟩ = some (.slice A0 l0_0.length c0) := (blk_cell BK.out 0).trans rfl; have hfz_0 := blk_frozen BK.out 0; have hcz_1 : w2.cell? ⟨gb, 1, none⟩ = some (.slice A1 l0_1.length c1) := (blk_cell BK.out 1).trans rfl; have hfz_1 := blk_frozen BK.out 1; have hcz_2 : w2.cell? ⟨gb, 2, none⟩ = some (.slice A2 l0_2.length c2) := (blk_cell BK.out 2).trans rfl; have hfz_2 := blk_frozen BK.out 2
 go_wp2_with fail
 refine (laws_markLocSS.calls (fun k_ => (P0_ k_ ∧ k_ < w.heap.size) ∧ (some k_ ≠ (.slice A0 l0_0.length c0 : Value).ownBlock ∧ some k_ ≠ (.slice A1 l0_1.length c1 : Value).ownBlock)) _ l0_2 (a1 + (markInstrS_cnt l0_0 : Nat) + (l0_1.length : Nat)) w0 _ HB.out F2.out (by omega) (by have := HN.out; omega)).mono ?_
 rintro e_ w3 ⟨rfl, f_, hb0_, hk_⟩
 have hn_ := Aside0.mk (Kd.R_kept F0.out hk_ (fun k_ h1_ h2_ => h2_.2.1 h1_.2.1))
 clear F0
 have F0 := hn_
 clear hn_
 have hn_ := Aside0.mk (Kd.R_kept F1.out hk_ (fun k_ h1_ h2_ => h2_.2.2 h1_.2.1))
 clear F1
 have F1 := hn_
 clear hn_
 have hn_ := Aside0.mk (f_)
 clear F2 f_
 have F2 := hn_
 clear hn_
 have hn_ := Aside0.mk (blk_kept BK.out hk_ (fun h_ => by have h1_ := h_.1.2; have := GQ.out; omega))
 clear hcz_0 hfz_0 hcz_1 hfz_1 hcz_2 hfz_2
 clear BK
 have BK := hn_
 clear hn_
 have hn_ := Aside0.mk (Kept.then_ HK.out hk_ (fun k_ h_ => .inl h_.1.1))
 clear HK HB
 have HK := hn_
 have HB := Aside0.mk hb0_
 clear hn_ hk_ hb0_
 have hcz_0 : w3.cell? ⟨gb, 0, none⟩ = some (.slice A0 l0_0.length c0) := (blk_cell BK.out 0).trans rfl; have hfz_0 := blk_frozen BK.out 0; have hcz_1 : w3.cell? ⟨gb, 1, none⟩ = some (.slice A1 l0_1.length c1) := (blk_cell BK.out 1).trans rfl; have hfz_1 := blk_frozen BK.out 1; have hcz_2 : w3.cell? ⟨gb, 2, none⟩ = some (.slice A2 l0_2.length c2) := (blk_cell BK.out 2).trans rfl; have hfz_2 := blk_frozen BK.out 2
 go_wp2_with fail
 go_ret
 exact ⟨rfl, Kd.R_mono F0.out (fun k_ hk => ⟨hk.1.1, hk.2⟩), Kd.R_mono F1.out (fun k_ hk => ⟨hk.1.1, hk.2⟩), Kd.S_mono F2.out (fun k_ hk => ⟨hk.1.1, hk.2⟩), HB.out, HK.out⟩

/-! ### laws_heldIntS: function 23 -/
def laws_heldIntS.l0 : Nat → List Int → Int → Int → Option (Int)
 | 0, _, _, _ => none
 | k + 1, x0, x1, x5 => if x5 < (x0.length : Int) then (if 0 ≤ x5 then (if (rd x0 x5) = x1 then (laws_heldIntS.l0 k x0 (wrap64 (x1 + 1)) (wrap64 (x5 + 1))) else (some (-1))) else (none)) else (some x1)
def laws_heldIntS.f (k : Nat) (l0 : List Int) (a1 : Int) : Option (Int) := laws_heldIntS.l0 k l0 a1 0
theorem laws_heldIntS.mono_l : ∀ k, (∀ y0 y1 y2, LeO (laws_heldIntS.l0 k y0 y1 y2) (laws_heldIntS.l0 (k + 1) y0 y1 y2))
 | 0 => fun _ _ _ r h => by simp [laws_heldIntS.l0] at h
 | k + 1 => by
  have ih0 := laws_heldIntS.mono_l k
  ·intro y0 y1 y2
   unfold laws_heldIntS.l0
   repeat' first
   | (with_reducible exact ih0 _ _ _)
   | (with_reducible exact LeO.refl _)
   | (with_reducible exact LeO.none _)
   | (with_reducible refine LeO.ite ?_ ?_)
   | (with_reducible refine LeO.bind ?_ (fun _ => ?_))
   | exact ih0 _ _ _
   | exact LeO.none _
   | refine LeO.ite ?_ ?_
   | refine LeO.bind ?_ (fun _ => ?_)
theorem laws_heldIntS.mono : ∀ a0 a1 k, LeO (laws_heldIntS.f k a0 a1) (laws_heldIntS.f (k + 1) a0 a1) := by
 intro a0 a1 k
 have ih0 := laws_heldIntS.mono_l k
 unfold laws_heldIntS.f
 repeat' first
   | (with_reducible exact ih0 _ _ _)
   | (with_reducible exact LeO.refl _)
   | (with_reducible exact LeO.none _)
   | (with_reducible refine LeO.ite ?_ ?_)
   | (with_reducible refine LeO.bind ?_ (fun _ => ?_))
   | exact ih0 _ _ _
   | exact LeO.none _
   | refine LeO.ite ?_ ?_
   | refine LeO.bind ?_ (fun _ => ?_)
set_option maxHeartbeats 8000000 in
set_option maxRecDepth 100000 in
theorem laws_heldIntS.calls (k : Nat) (A0 : Option Addr) (c0 : Nat) (l0 : List Int) (a1 : Int) (r : Int) (w : World) (hr0 : Kd.C (Kd.int .i64) w A0 l0.length l0) (hc0 : l0.length ≤ c0) (h : laws_heldIntS.f k l0 a1 = some r) :
  Calls Try.prog 23 #[.slice A0 l0.length c0, .int .i64 a1] w fun e w' => e = .returned (.int .i64 r) ∧ Drawn0 w w' := by
 have HR0 := Aside0.mk hr0
 have HC0 := Aside0.mk hc0
 clear hr0 hc0
 have H : (laws_heldIntS.l0 k l0 a1 0) = some r := h
 clear h
 have H' := Aside0.mk H
 clear H
 go_enter Try.func23, Try.ntmps23
 go_wp2
 go_loopg [1, 5] k (fun kq v1 v5 w' => ∃ (x1_1 : Int) (x5_1 : Int), v1 = .int .i64 x1_1 ∧ v5 = .int .i64 x5_1 ∧ Aside0 (laws_heldIntS.l0 kq l0 x1_1 x5_1 = some r) ∧ Aside0 (kq ≤ k) ∧ Drawn0 w w')
 case atStart => exact ⟨(a1), (0), (by first | rfl | (simp; done) | (simp [*]; done)), (by first | rfl | (simp; done) | (simp [*]; done)), H', ⟨Nat.le_refl _⟩, by repeat (first | exact Drawn0.refl _ | apply Drawn0.step)⟩
 case round =>
  clear H'
  try clear c2
  try clear p2
  obtain ⟨x1_1, x5_1, rfl, rfl, HA, HK1, ⟨m1, rfl⟩⟩ := hrel
  cases gk with
  | zero => exact absurd HA.out (by simp [laws_heldIntS.l0])
  | succ k1 =>
   have H := HA.out
   clear HA
   simp only [laws_heldIntS.l0] at H
   by_cases c3 : x5_1 < (l0.length : Int)
   ·rw [if_pos c3] at H
    have c3b0 : decide (x5_1 < (l0.length : Int)) = true := decide_eq_true c3
    clear c3
    by_cases c4 : 0 ≤ x5_1
    ·rw [if_pos c4] at H
     have c4b0 : decide (0 ≤ x5_1) = true := decide_eq_true c4
     clear c4
     by_cases c5 : (rd l0 x5_1) = x1_1
     ·rw [if_pos c5] at H
      have c5b0 : ((rd l0 x5_1) == x1_1) = true := beq_iff_eq.mpr c5
      have c5b1 : ((rd l0 x5_1) != x1_1) = false := bne_eq_false_iff_eq.mpr c5
      clear c5
      have H' := Aside0.mk H
      clear H
      have p277 : 0 ≤ (x5_1 : Int) := of_decide_eq_true (by first | (with_reducible assumption) | assumption)
      have q277 : x5_1 < (l0.length : Int) := of_decide_eq_true (by first | (with_reducible assumption) | assumption)
      obtain ⟨ad277, e277, hx277_0⟩ := Kd.at_int HR0.out x5_1 p277 q277
      cases e277
      replace p277 := eq_true p277
      replace q277 := eq_true q277
      go_wp2
      go_roundg k1
      case measure => have := HK1.out; omega
      case rel => exact ⟨(wrap64 (x1_1 + 1)), (wrap64 (x5_1 + 1)), (by first | rfl | (simp; done) | (simp [*]; done)), (by first | rfl | (simp; done) | (simp [*]; done)), H', ⟨by have := HK1.out; omega⟩, by repeat (first | exact Drawn0.refl _ | apply Drawn0.step)⟩
     ·rw [if_neg c5] at H
      have c5b0 : ((rd l0 x5_1) == x1_1) = false := beq_eq_false_iff_ne.mpr c5
      have c5b1 : ((rd l0 x5_1) != x1_1) = true := bne_iff_ne.mpr c5
      obtain rfl := Option.some.inj H
      have p277 : 0 ≤ (x5_1 : Int) := of_decide_eq_true (by first | (with_reducible assumption) | assumption)
      have q277 : x5_1 < (l0.length : Int) := of_decide_eq_true (by first | (with_reducible assumption) | assumption)
      obtain ⟨ad277, e277, hx277_0⟩ := Kd.at_int HR0.out x5_1 p277 q277
      cases e277
      replace p277 := eq_true p277
      replace q277 := eq_true q277
      first | (go_wp2; go_ret; exact ⟨by first | rfl | (simp; done) | (simp [*]; done), by repeat (first | exact Drawn0.refl _ | apply Drawn0.step)⟩) | (exfalso; simp only [decide_eq_false_iff_not, decide_eq_true_eq] at *; omega)
    ·rw [if_neg c4] at H
     exact absurd H (by simp)
   ·rw [if_neg c3] at H
    have c3b0 : decide (x5_1 < (l0.length : Int)) = false := decide_eq_false c3
    clear c3
    obtain rfl := Option.some.inj H
    first | (go_wp2; go_ret; exact ⟨by first | rfl | (simp; done) | (simp [*]; done), by repeat (first | exact Drawn0.refl _ | apply Drawn0.step)⟩) | (exfalso; simp only [decide_eq_false_iff_not, decide_eq_true_eq] at *; omega)

/-! ### laws_heldFrame: function 34 -/
def laws_heldFrame.f (k : Nat) (l0_0 : List Int) (l0_1 : List Int) (l0_2 : List Int) (a1 : Int) : Option (Int) := (laws_heldIntS.f k l0_0 a1).bind fun t279 => (if t279 < 0 then (some (-1)) else ((laws_heldIntS.f k l0_1 t279).bind fun t280 => (if t280 < 0 then (some (-1)) else ((laws_heldIntS.f k l0_2 t280).bind fun t281 => (if t281 < 0 then (some (-1)) else (some t281))))))
theorem laws_heldFrame.mono : ∀ a0 a1 a2 a3 k, LeO (laws_heldFrame.f k a0 a1 a2 a3) (laws_heldFrame.f (k + 1) a0 a1 a2 a3) := by
 intro a0 a1 a2 a3 k
 unfold laws_heldFrame.f
 repeat' first
   | (with_reducible exact laws_heldIntS.mono _ _ _)
   | (with_reducible exact LeO.refl _)
   | (with_reducible exact LeO.none _)
   | (with_reducible refine LeO.ite ?_ ?_)
   | (with_reducible refine LeO.bind ?_ (fun _ => ?_))
   | exact laws_heldIntS.mono _ _ _
   | exact LeO.none _
   | refine LeO.ite ?_ ?_
   | refine LeO.bind ?_ (fun _ => ?_)
set_option maxHeartbeats 8000000 in
set_option maxRecDepth 100000 in
theorem laws_heldFrame.calls (k : Nat) (A0_0 : Option Addr) (c0_0 : Nat) (l0_0 : List Int) (A0_1 : Option Addr) (c0_1 : Nat) (l0_1 : List Int) (A0_2 : Option Addr) (c0_2 : Nat) (l0_2 : List Int) (a1 : Int) (r : Int) (w : World) (hr0_0 : Kd.C (Kd.int .i64) w A0_0 l0_0.length l0_0) (hc0_0 : l0_0.length ≤ c0_0) (hr0_1 : Kd.C (Kd.int .i64) w A0_1 l0_1.length l0_1) (hc0_1 : l0_1.length ≤ c0_1) (hr0_2 : Kd.C (Kd.int .i64) w A0_2 l0_2.length l0_2) (hc0_2 : l0_2.length ≤ c0_2) (h : laws_heldFrame.f k l0_0 l0_1 l0_2 a1 = some r) :
  Calls Try.prog 34 #[.agg #[.slice A0_0 l0_0.length c0_0, .slice A0_1 l0_1.length c0_1, .slice A0_2 l0_2.length c0_2], .int .i64 a1] w fun e w' => e = .returned (.int .i64 r) ∧ Below w.heap.size w w' := by
 have hu27 := Try.underlying27
 have HR0_0 := Aside0.mk hr0_0
 have HC0_0 := Aside0.mk hc0_0
 clear hr0_0 hc0_0
 have HR0_1 := Aside0.mk hr0_1
 have HC0_1 := Aside0.mk hc0_1
 clear hr0_1 hc0_1
 have HR0_2 := Aside0.mk hr0_2
 have HC0_2 := Aside0.mk hc0_2
 clear hr0_2 hc0_2
 have HB := Aside0.mk (Below.refl w.heap.size w)
 have H : ((laws_heldIntS.f k l0_0 a1).bind fun t279 => (if t279 < 0 then (some (-1)) else ((laws_heldIntS.f k l0_1 t279).bind fun t280 => (if t280 < 0 then (some (-1)) else ((laws_heldIntS.f k l0_2 t280).bind fun t281 => (if t281 < 0 then (some (-1)) else (some t281))))))) = some r := h
 clear h
 replace H := Option.bind_eq_some_iff.mp H
 obtain ⟨t279, A30, H⟩ := H
 replace H : (if t279 < 0 then (some (-1)) else ((laws_heldIntS.f k l0_1 t279).bind fun t280 => (if t280 < 0 then (some (-1)) else ((laws_heldIntS.f k l0_2 t280).bind fun t281 => (if t281 < 0 then (some (-1)) else (some t281)))))) = some r := H
 have A3 := Aside0.mk A30
 clear A30
 by_cases c4 : t279 < 0
 ·rw [if_pos c4] at H
  have c4b0 : decide (t279 < 0) = true := decide_eq_true c4
  clear c4
  obtain rfl := Option.some.inj H
  go_enter Try.func34, Try.ntmps34
  go_wp2_with (first | ((with_reducible refine gate_dst (N := 2) rfl ?_); refine box_event ?hg (N := 2) ?hd (cs := #[.slice A0_0 l0_0.length c0_0, .slice A0_1 l0_1.length c0_1, .slice A0_2 l0_2.length c0_2]) (t := 27) ?hr ?_; (case hd => rfl); (case hg => rfl); (case hr => first | (go_simp; done) | (go_simp; rfl)); intro gb278 hg w5 hbox hb; have n0_ := Aside0.mk (below_step (by repeat (first | (with_reducible first | exact HB.out | apply below_alloc | apply pw_below_drewN | apply below_drew1) | exact HB.out)) hb); have n1_ := Aside0.mk (hbox); have n2_ := Aside0.mk ((by rw [hg]; exact (below_size (by repeat (first | (with_reducible first | exact HB.out | apply below_alloc | apply pw_below_drewN | apply below_drew1) | exact HB.out))) : w.heap.size ≤ gb278)); have n3_ := Aside0.mk ((by rw [hg]; exact (below_size (by repeat (first | (with_reducible first | exact HB.out | apply below_alloc | apply pw_below_drewN | apply below_drew1) | exact HB.out))) : w.heap.size ≤ gb278)); clear HB; have HB := n0_; have BK278 := n1_; have GW278 := n2_; have GE278 := n3_; clear n0_ n1_ n2_ n3_; clear hb hbox hg; have hcz6_0 : w5.cell? ⟨gb278, 0, none⟩ = some (.slice A0_0 l0_0.length c0_0) := (blk_cell BK278.out 0).trans rfl; have hcz6_1 : w5.cell? ⟨gb278, 1, none⟩ = some (.slice A0_1 l0_1.length c0_1) := (blk_cell BK278.out 1).trans rfl; have hcz6_2 : w5.cell? ⟨gb278, 2, none⟩ = some (.slice A0_2 l0_2.length c0_2) := (blk_cell BK278.out 2).trans rfl; have hfz6_0 := blk_frozen BK278.out 0; have hfz6_1 := blk_frozen BK278.out 1; have hfz6_2 := blk_frozen BK278.out 2) | ((with_reducible refine gate_callee (f := 23) rfl ?_); refine goesL_ (some 8) rfl rfl Try.func23 (by kernel_rfl) rfl #[.slice A0_0 l0_0.length c0_0, .int .i64 a1] rfl (by (try simp only [List.map_toArray, List.map_cons, List.map_nil]); first | done | rfl | (simp only [List.length_drop, List.length_take]; rfl)) ?_; (with_reducible refine (laws_heldIntS.calls k _ _ l0_0 a1 t279 _ ?side1 ?side2 A3.out).mono ?_); (case side1 => repeat (first | exact (Kd.C_below HR0_0.out HB.out) | (with_reducible refine Kd.C_alloc ?_ _) | (with_reducible refine Kd.C_drewN ?_ _) | (with_reducible refine Kd.C_drew ?_))); (case side2 => exact HC0_0.out); rintro e w' ⟨rfl, ⟨nd, rfl⟩⟩; refine ⟨_, rfl, ?_⟩))
  go_ret
  exact ⟨by first | rfl | (simp [errW_none, errW_some] <;> rfl) | (simp [*, errW_none, errW_some] <;> rfl), by repeat (first | (with_reducible first | exact HB.out | apply below_alloc | apply pw_below_drewN | apply below_drew1 | refine below_set ?_ GE278.out) | exact HB.out)⟩
 ·rw [if_neg c4] at H
  have c4b0 : decide (t279 < 0) = false := decide_eq_false c4
  clear c4
  replace H := Option.bind_eq_some_iff.mp H
  obtain ⟨t280, A70, H⟩ := H
  replace H : (if t280 < 0 then (some (-1)) else ((laws_heldIntS.f k l0_2 t280).bind fun t281 => (if t281 < 0 then (some (-1)) else (some t281)))) = some r := H
  have A7 := Aside0.mk A70
  clear A70
  by_cases c8 : t280 < 0
  ·rw [if_pos c8] at H
   have c8b0 : decide (t280 < 0) = true := decide_eq_true c8
   clear c8
   obtain rfl := Option.some.inj H
   go_enter Try.func34, Try.ntmps34
   go_wp2_with (first | ((with_reducible refine gate_dst (N := 2) rfl ?_); refine box_event ?hg (N := 2) ?hd (cs := #[.slice A0_0 l0_0.length c0_0, .slice A0_1 l0_1.length c0_1, .slice A0_2 l0_2.length c0_2]) (t := 27) ?hr ?_; (case hd => rfl); (case hg => rfl); (case hr => first | (go_simp; done) | (go_simp; rfl)); intro gb278 hg w9 hbox hb; have n0_ := Aside0.mk (below_step (by repeat (first | (with_reducible first | exact HB.out | apply below_alloc | apply pw_below_drewN | apply below_drew1) | exact HB.out)) hb); have n1_ := Aside0.mk (hbox); have n2_ := Aside0.mk ((by rw [hg]; exact (below_size (by repeat (first | (with_reducible first | exact HB.out | apply below_alloc | apply pw_below_drewN | apply below_drew1) | exact HB.out))) : w.heap.size ≤ gb278)); have n3_ := Aside0.mk ((by rw [hg]; exact (below_size (by repeat (first | (with_reducible first | exact HB.out | apply below_alloc | apply pw_below_drewN | apply below_drew1) | exact HB.out))) : w.heap.size ≤ gb278)); clear HB; have HB := n0_; have BK278 := n1_; have GW278 := n2_; have GE278 := n3_; clear n0_ n1_ n2_ n3_; clear hb hbox hg; have hcz10_0 : w9.cell? ⟨gb278, 0, none⟩ = some (.slice A0_0 l0_0.length c0_0) := (blk_cell BK278.out 0).trans rfl; have hcz10_1 : w9.cell? ⟨gb278, 1, none⟩ = some (.slice A0_1 l0_1.length c0_1) := (blk_cell BK278.out 1).trans rfl; have hcz10_2 : w9.cell? ⟨gb278, 2, none⟩ = some (.slice A0_2 l0_2.length c0_2) := (blk_cell BK278.out 2).trans rfl; have hfz10_0 := blk_frozen BK278.out 0; have hfz10_1 := blk_frozen BK278.out 1; have hfz10_2 := blk_frozen BK278.out 2) | ((with_reducible refine gate_callee (f := 23) rfl ?_); refine goesL_ (some 8) rfl rfl Try.func23 (by kernel_rfl) rfl #[.slice A0_0 l0_0.length c0_0, .int .i64 a1] rfl (by (try simp only [List.map_toArray, List.map_cons, List.map_nil]); first | done | rfl | (simp only [List.length_drop, List.length_take]; rfl)) ?_; (with_reducible refine (laws_heldIntS.calls k _ _ l0_0 a1 t279 _ ?side1 ?side2 A3.out).mono ?_); (case side1 => repeat (first | exact (Kd.C_below HR0_0.out HB.out) | (with_reducible refine Kd.C_alloc ?_ _) | (with_reducible refine Kd.C_drewN ?_ _) | (with_reducible refine Kd.C_drew ?_))); (case side2 => exact HC0_0.out); rintro e w' ⟨rfl, ⟨nd, rfl⟩⟩; refine ⟨_, rfl, ?_⟩) | ((with_reducible refine gate_callee (f := 23) rfl ?_); refine goesL_ (some 14) rfl rfl Try.func23 (by kernel_rfl) rfl #[.slice A0_1 l0_1.length c0_1, .int .i64 t279] rfl (by (try simp only [List.map_toArray, List.map_cons, List.map_nil]); first | done | rfl | (simp only [List.length_drop, List.length_take]; rfl)) ?_; (with_reducible refine (laws_heldIntS.calls k _ _ l0_1 t279 t280 _ ?side1 ?side2 A7.out).mono ?_); (case side1 => repeat (first | exact (Kd.C_below HR0_1.out (by repeat (first | (with_reducible first | exact HB.out | apply below_alloc | apply pw_below_drewN | apply below_drew1 | refine below_set ?_ GE278.out) | exact HB.out))) | (with_reducible refine Kd.C_alloc ?_ _) | (with_reducible refine Kd.C_drewN ?_ _) | (with_reducible refine Kd.C_drew ?_))); (case side2 => exact HC0_1.out); rintro e w' ⟨rfl, ⟨nd, rfl⟩⟩; refine ⟨_, rfl, ?_⟩))
   go_ret
   exact ⟨by first | rfl | (simp [errW_none, errW_some] <;> rfl) | (simp [*, errW_none, errW_some] <;> rfl), by repeat (first | (with_reducible first | exact HB.out | apply below_alloc | apply pw_below_drewN | apply below_drew1 | refine below_set ?_ GE278.out) | exact HB.out)⟩
  ·rw [if_neg c8] at H
   have c8b0 : decide (t280 < 0) = false := decide_eq_false c8
   clear c8
   replace H := Option.bind_eq_some_iff.mp H
   obtain ⟨t281, A110, H⟩ := H
   replace H : (if t281 < 0 then (some (-1)) else (some t281)) = some r := H
   have A11 := Aside0.mk A110
   clear A110
   by_cases c12 : t281 < 0
   ·rw [if_pos c12] at H
    have c12b0 : decide (t281 < 0) = true := decide_eq_true c12
    clear c12
    obtain rfl := Option.some.inj H
    go_enter Try.func34, Try.ntmps34
    go_wp2_with (first | ((with_reducible refine gate_dst (N := 2) rfl ?_); refine box_event ?hg (N := 2) ?hd (cs := #[.slice A0_0 l0_0.length c0_0, .slice A0_1 l0_1.length c0_1, .slice A0_2 l0_2.length c0_2]) (t := 27) ?hr ?_; (case hd => rfl); (case hg => rfl); (case hr => first | (go_simp; done) | (go_simp; rfl)); intro gb278 hg w13 hbox hb; have n0_ := Aside0.mk (below_step (by repeat (first | (with_reducible first | exact HB.out | apply below_alloc | apply pw_below_drewN | apply below_drew1) | exact HB.out)) hb); have n1_ := Aside0.mk (hbox); have n2_ := Aside0.mk ((by rw [hg]; exact (below_size (by repeat (first | (with_reducible first | exact HB.out | apply below_alloc | apply pw_below_drewN | apply below_drew1) | exact HB.out))) : w.heap.size ≤ gb278)); have n3_ := Aside0.mk ((by rw [hg]; exact (below_size (by repeat (first | (with_reducible first | exact HB.out | apply below_alloc | apply pw_below_drewN | apply below_drew1) | exact HB.out))) : w.heap.size ≤ gb278)); clear HB; have HB := n0_; have BK278 := n1_; have GW278 := n2_; have GE278 := n3_; clear n0_ n1_ n2_ n3_; clear hb hbox hg; have hcz14_0 : w13.cell? ⟨gb278, 0, none⟩ = some (.slice A0_0 l0_0.length c0_0) := (blk_cell BK278.out 0).trans rfl; have hcz14_1 : w13.cell? ⟨gb278, 1, none⟩ = some (.slice A0_1 l0_1.length c0_1) := (blk_cell BK278.out 1).trans rfl; have hcz14_2 : w13.cell? ⟨gb278, 2, none⟩ = some (.slice A0_2 l0_2.length c0_2) := (blk_cell BK278.out 2).trans rfl; have hfz14_0 := blk_frozen BK278.out 0; have hfz14_1 := blk_frozen BK278.out 1; have hfz14_2 := blk_frozen BK278.out 2) | ((with_reducible refine gate_callee (f := 23) rfl ?_); refine goesL_ (some 8) rfl rfl Try.func23 (by kernel_rfl) rfl #[.slice A0_0 l0_0.length c0_0, .int .i64 a1] rfl (by (try simp only [List.map_toArray, List.map_cons, List.map_nil]); first | done | rfl | (simp only [List.length_drop, List.length_take]; rfl)) ?_; (with_reducible refine (laws_heldIntS.calls k _ _ l0_0 a1 t279 _ ?side1 ?side2 A3.out).mono ?_); (case side1 => repeat (first | exact (Kd.C_below HR0_0.out HB.out) | (with_reducible refine Kd.C_alloc ?_ _) | (with_reducible refine Kd.C_drewN ?_ _) | (with_reducible refine Kd.C_drew ?_))); (case side2 => exact HC0_0.out); rintro e w' ⟨rfl, ⟨nd, rfl⟩⟩; refine ⟨_, rfl, ?_⟩) | ((with_reducible refine gate_callee (f := 23) rfl ?_); refine goesL_ (some 14) rfl rfl Try.func23 (by kernel_rfl) rfl #[.slice A0_1 l0_1.length c0_1, .int .i64 t279] rfl (by (try simp only [List.map_toArray, List.map_cons, List.map_nil]); first | done | rfl | (simp only [List.length_drop, List.length_take]; rfl)) ?_; (with_reducible refine (laws_heldIntS.calls k _ _ l0_1 t279 t280 _ ?side1 ?side2 A7.out).mono ?_); (case side1 => repeat (first | exact (Kd.C_below HR0_1.out (by repeat (first | (with_reducible first | exact HB.out | apply below_alloc | apply pw_below_drewN | apply below_drew1 | refine below_set ?_ GE278.out) | exact HB.out))) | (with_reducible refine Kd.C_alloc ?_ _) | (with_reducible refine Kd.C_drewN ?_ _) | (with_reducible refine Kd.C_drew ?_))); (case side2 => exact HC0_1.out); rintro e w' ⟨rfl, ⟨nd, rfl⟩⟩; refine ⟨_, rfl, ?_⟩) | ((with_reducible refine gate_callee (f := 23) rfl ?_); refine goesL_ (some 20) rfl rfl Try.func23 (by kernel_rfl) rfl #[.slice A0_2 l0_2.length c0_2, .int .i64 t280] rfl (by (try simp only [List.map_toArray, List.map_cons, List.map_nil]); first | done | rfl | (simp only [List.length_drop, List.length_take]; rfl)) ?_; (with_reducible refine (laws_heldIntS.calls k _ _ l0_2 t280 t281 _ ?side1 ?side2 A11.out).mono ?_); (case side1 => repeat (first | exact (Kd.C_below HR0_2.out (by repeat (first | (with_reducible first | exact HB.out | apply below_alloc | apply pw_below_drewN | apply below_drew1 | refine below_set ?_ GE278.out) | exact HB.out))) | (with_reducible refine Kd.C_alloc ?_ _) | (with_reducible refine Kd.C_drewN ?_ _) | (with_reducible refine Kd.C_drew ?_))); (case side2 => exact HC0_2.out); rintro e w' ⟨rfl, ⟨nd, rfl⟩⟩; refine ⟨_, rfl, ?_⟩))
    go_ret
    exact ⟨by first | rfl | (simp [errW_none, errW_some] <;> rfl) | (simp [*, errW_none, errW_some] <;> rfl), by repeat (first | (with_reducible first | exact HB.out | apply below_alloc | apply pw_below_drewN | apply below_drew1 | refine below_set ?_ GE278.out) | exact HB.out)⟩
   ·rw [if_neg c12] at H
    have c12b0 : decide (t281 < 0) = false := decide_eq_false c12
    clear c12
    obtain rfl := Option.some.inj H
    go_enter Try.func34, Try.ntmps34
    go_wp2_with (first | ((with_reducible refine gate_dst (N := 2) rfl ?_); refine box_event ?hg (N := 2) ?hd (cs := #[.slice A0_0 l0_0.length c0_0, .slice A0_1 l0_1.length c0_1, .slice A0_2 l0_2.length c0_2]) (t := 27) ?hr ?_; (case hd => rfl); (case hg => rfl); (case hr => first | (go_simp; done) | (go_simp; rfl)); intro gb278 hg w15 hbox hb; have n0_ := Aside0.mk (below_step (by repeat (first | (with_reducible first | exact HB.out | apply below_alloc | apply pw_below_drewN | apply below_drew1) | exact HB.out)) hb); have n1_ := Aside0.mk (hbox); have n2_ := Aside0.mk ((by rw [hg]; exact (below_size (by repeat (first | (with_reducible first | exact HB.out | apply below_alloc | apply pw_below_drewN | apply below_drew1) | exact HB.out))) : w.heap.size ≤ gb278)); have n3_ := Aside0.mk ((by rw [hg]; exact (below_size (by repeat (first | (with_reducible first | exact HB.out | apply below_alloc | apply pw_below_drewN | apply below_drew1) | exact HB.out))) : w.heap.size ≤ gb278)); clear HB; have HB := n0_; have BK278 := n1_; have GW278 := n2_; have GE278 := n3_; clear n0_ n1_ n2_ n3_; clear hb hbox hg; have hcz16_0 : w15.cell? ⟨gb278, 0, none⟩ = some (.slice A0_0 l0_0.length c0_0) := (blk_cell BK278.out 0).trans rfl; have hcz16_1 : w15.cell? ⟨gb278, 1, none⟩ = some (.slice A0_1 l0_1.length c0_1) := (blk_cell BK278.out 1).trans rfl; have hcz16_2 : w15.cell? ⟨gb278, 2, none⟩ = some (.slice A0_2 l0_2.length c0_2) := (blk_cell BK278.out 2).trans rfl; have hfz16_0 := blk_frozen BK278.out 0; have hfz16_1 := blk_frozen BK278.out 1; have hfz16_2 := blk_frozen BK278.out 2) | ((with_reducible refine gate_callee (f := 23) rfl ?_); refine goesL_ (some 8) rfl rfl Try.func23 (by kernel_rfl) rfl #[.slice A0_0 l0_0.length c0_0, .int .i64 a1] rfl (by (try simp only [List.map_toArray, List.map_cons, List.map_nil]); first | done | rfl | (simp only [List.length_drop, List.length_take]; rfl)) ?_; (with_reducible refine (laws_heldIntS.calls k _ _ l0_0 a1 t279 _ ?side1 ?side2 A3.out).mono ?_); (case side1 => repeat (first | exact (Kd.C_below HR0_0.out HB.out) | (with_reducible refine Kd.C_alloc ?_ _) | (with_reducible refine Kd.C_drewN ?_ _) | (with_reducible refine Kd.C_drew ?_))); (case side2 => exact HC0_0.out); rintro e w' ⟨rfl, ⟨nd, rfl⟩⟩; refine ⟨_, rfl, ?_⟩) | ((with_reducible refine gate_callee (f := 23) rfl ?_); refine goesL_ (some 14) rfl rfl Try.func23 (by kernel_rfl) rfl #[.slice A0_1 l0_1.length c0_1, .int .i64 t279] rfl (by (try simp only [List.map_toArray, List.map_cons, List.map_nil]); first | done | rfl | (simp only [List.length_drop, List.length_take]; rfl)) ?_; (with_reducible refine (laws_heldIntS.calls k _ _ l0_1 t279 t280 _ ?side1 ?side2 A7.out).mono ?_); (case side1 => repeat (first | exact (Kd.C_below HR0_1.out (by repeat (first | (with_reducible first | exact HB.out | apply below_alloc | apply pw_below_drewN | apply below_drew1 | refine below_set ?_ GE278.out) | exact HB.out))) | (with_reducible refine Kd.C_alloc ?_ _) | (with_reducible refine Kd.C_drewN ?_ _) | (with_reducible refine Kd.C_drew ?_))); (case side2 => exact HC0_1.out); rintro e w' ⟨rfl, ⟨nd, rfl⟩⟩; refine ⟨_, rfl, ?_⟩) | ((with_reducible refine gate_callee (f := 23) rfl ?_); refine goesL_ (some 20) rfl rfl Try.func23 (by kernel_rfl) rfl #[.slice A0_2 l0_2.length c0_2, .int .i64 t280] rfl (by (try simp only [List.map_toArray, List.map_cons, List.map_nil]); first | done | rfl | (simp only [List.length_drop, List.length_take]; rfl)) ?_; (with_reducible refine (laws_heldIntS.calls k _ _ l0_2 t280 t281 _ ?side1 ?side2 A11.out).mono ?_); (case side1 => repeat (first | exact (Kd.C_below HR0_2.out (by repeat (first | (with_reducible first | exact HB.out | apply below_alloc | apply pw_below_drewN | apply below_drew1 | refine below_set ?_ GE278.out) | exact HB.out))) | (with_reducible refine Kd.C_alloc ?_ _) | (with_reducible refine Kd.C_drewN ?_ _) | (with_reducible refine Kd.C_drew ?_))); (case side2 => exact HC0_2.out); rintro e w' ⟨rfl, ⟨nd, rfl⟩⟩; refine ⟨_, rfl, ?_⟩))
    go_ret
    exact ⟨by first | rfl | (simp [errW_none, errW_some] <;> rfl) | (simp [*, errW_none, errW_some] <;> rfl), by repeat (first | (with_reducible first | exact HB.out | apply below_alloc | apply pw_below_drewN | apply below_drew1 | refine below_set ?_ GE278.out) | exact HB.out)⟩

-- NOT PRINTED: function 7 (laws_FnExactLeaveAt)

end Go.Proofs.Ytpoddnhfnphdcaa.Q
