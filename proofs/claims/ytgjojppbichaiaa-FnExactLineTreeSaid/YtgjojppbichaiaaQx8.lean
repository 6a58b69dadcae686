-- Written by the program wip/tools/pr.py of this claim's session, over the kit's print.py.
import Derived.Test.YtgjojppbichaiaaQx0
import Derived.Test.YtgjojppbichaiaaQx6
import Derived.Test.YtgjojppbichaiaaQx7
namespace Go.Proofs.Ytgjojppbichaiaa.Q
open Go.RowKit Go.Proofs.YtgjojppbichaiaaW.PrintWords Go.Proofs.YtgjojppbichaiaaW.PrintLast Go.Proofs.YtgjojppbichaiaaW.PrintMore
attribute [local go_sem] max2_int min2_int max_two min_two max_three min_three max_four min_four   -- for this text's walks alone
set_option linter.unusedVariables false
set_option linter.unusedSimpArgs false

/-! ### impl_liner_lay: function 68 -/
theorem Ll.ret0 {P : Program} {fn : Func} {R : Ending → World → Prop} {a : Act} {w : World} (hr : fn.results = #[]) (hd : a.defers = []) (hR : R (.returned (.tuple #[])) w) : bodyPost P fn R .normal a w :=
  bodyPost_end (results_none hr _ _ _) hd hR
def Ll.put (x : S86) (q : Ll.Q) : Option Ll.Q := if q.s.length < 1000000000000 then some ⟨q.s ++ [x], q.g, q.n⟩ else none
def Ll.grd (x : S63) (q : Ll.Q) : Option Ll.Q := if q.g.length < 1000000000000 then some ⟨q.s, q.g ++ [x], q.n⟩ else none
def Ll.setT (i : Nat) (t : Int) (q : Ll.Q) : Option Ll.Q := if i < q.s.length then some ⟨q.s.set i ⟨(rd_T86 q.s i).f0, (rd_T86 q.s i).f1, t⟩, q.g, q.n⟩ else none
def Ll.setA (i : Nat) (t : Int) (q : Ll.Q) : Option Ll.Q := if i < q.g.length then some ⟨q.s, q.g.set i ⟨(rd_T63 q.g i).f0, (rd_T63 q.g i).f1, (rd_T63 q.g i).f2, t⟩, q.n⟩ else none
abbrev Ll.F := Ll.Q → Option Ll.Q
def Ll.PostV (T B gb : Nat) (w : World) (r : Ll.Q) (e : Ending) (w' : World) : Prop := e = .returned (.tuple #[]) ∧ Ll.Post T B gb w r.s r.g r.n w'
theorem Ll.cell86 {w : World} {B g c : Nat} {S : List S86} (h : k86.R 86 w B (fun _ => True) (.slice (some ⟨g, 0, none⟩) S.length c) S) {i : Nat} (hi : i < S.length) (t : Int) :
  w.cell? ⟨g, i * 3 + 2, none⟩ = some (.int .i64 (rd_T86 S i).f2) ∧ w.frozen? ⟨g, i * 3 + 2, none⟩ = false ∧ k86.R 86 (w.setCell ⟨g, i * 3 + 2, none⟩ (.int .i64 t)) B (fun _ => True) (.slice (some ⟨g, 0, none⟩) S.length c) (S.set i ⟨(rd_T86 S i).f0, (rd_T86 S i).f1, t⟩) ∧ w.grownBy (w.setCell ⟨g, i * 3 + 2, none⟩ (.int .i64 t)) (some g) := by
  obtain ⟨cs, hl, hM, hcc, hf⟩ := Kd.R_elem h z86 (i : Int) (by omega) (by omega)
  have hM' := k86_openM hM
  have e : (S.getD (i : Int).toNat z86) = rd_T86 S (i : Int) := rfl
  rw [e] at hM'
  subst hM'
  have h1 := hcc 2 _ rfl
  have h2 := hf 2
  obtain ⟨h3, h4⟩ := Kd.R_seg (x' := ⟨(rd_T86 S (i : Int)).f0, (rd_T86 S (i : Int)).f1, t⟩) (okp := fun _ => False) h (i : Int) (by omega) (by omega) hl hcc (seg := [.int .i64 t]) (j := 2) (by show 2 + 1 ≤ 3; decide) (k86_mkM _ _ _ ⟨(rd_T86 S (i : Int)).f0, (rd_T86 S (i : Int)).f1, t⟩) (fun _ hk => hk.elim)
  rw [Int.toNat_natCast] at h1 h2 h3 h4
  exact ⟨h1, h2, h3, h4⟩
theorem Ll.cell63 {w : World} {B g c : Nat} {S : List S63} (h : k63.R 63 w B (fun _ => True) (.slice (some ⟨g, 0, none⟩) S.length c) S) {i : Nat} (hi : i < S.length) (t : Int) :
  w.cell? ⟨g, i * 4 + 3, none⟩ = some (.int .i64 (rd_T63 S i).f3) ∧ w.frozen? ⟨g, i * 4 + 3, none⟩ = false ∧ k63.R 63 (w.setCell ⟨g, i * 4 + 3, none⟩ (.int .i64 t)) B (fun _ => True) (.slice (some ⟨g, 0, none⟩) S.length c) (S.set i ⟨(rd_T63 S i).f0, (rd_T63 S i).f1, (rd_T63 S i).f2, t⟩) ∧ w.grownBy (w.setCell ⟨g, i * 4 + 3, none⟩ (.int .i64 t)) (some g) := by
  obtain ⟨cs, hl, hM, hcc, hf⟩ := Kd.R_elem h z63 (i : Int) (by omega) (by omega)
  have hM' := k63_openM hM
  have e : (S.getD (i : Int).toNat z63) = rd_T63 S (i : Int) := rfl
  rw [e] at hM'
  subst hM'
  have h1 := hcc 3 _ rfl
  have h2 := hf 3
  obtain ⟨h3, h4⟩ := Kd.R_seg (x' := ⟨(rd_T63 S (i : Int)).f0, (rd_T63 S (i : Int)).f1, (rd_T63 S (i : Int)).f2, t⟩) (okp := fun _ => False) h (i : Int) (by omega) (by omega) hl hcc (seg := [.int .i64 t]) (j := 3) (by show 3 + 1 ≤ 4; decide) (k63_mkM _ _ _ ⟨(rd_T63 S (i : Int)).f0, (rd_T63 S (i : Int)).f1, (rd_T63 S (i : Int)).f2, t⟩) (fun _ hk => hk.elim)
  rw [Int.toNat_natCast] at h1 h2 h3 h4
  exact ⟨h1, h2, h3, h4⟩
theorem Ll.setT_some {i : Nat} {t : Int} {q r : Ll.Q} (h : Ll.setT i t q = some r) : i < q.s.length ∧ r.s = q.s.set i ⟨(rd_T86 q.s i).f0, (rd_T86 q.s i).f1, t⟩ ∧ r.g = q.g ∧ r.n = q.n := by
  unfold Ll.setT at h
  split at h
  · rename_i hl
    obtain rfl := Option.some.inj h
    exact ⟨hl, rfl, rfl, rfl⟩
  · cases h
theorem Ll.setA_some {i : Nat} {t : Int} {q r : Ll.Q} (h : Ll.setA i t q = some r) : i < q.g.length ∧ r.s = q.s ∧ r.g = q.g.set i ⟨(rd_T63 q.g i).f0, (rd_T63 q.g i).f1, (rd_T63 q.g i).f2, t⟩ ∧ r.n = q.n := by
  unfold Ll.setA at h
  split at h
  · rename_i hl
    obtain rfl := Option.some.inj h
    exact ⟨hl, rfl, rfl, rfl⟩
  · cases h
def Ll.node (k n : Int) (fs : List Ll.F) (q : Ll.Q) : Option Ll.Q :=
  if k = 1 then Ll.put ⟨1, n, 0⟩ q
  else if k = 2 then Ll.put ⟨2, n, 0⟩ q
  else match fs[0]? with
    | none => none
    | some f => if k = 6 then (if q.n < 1000000000000 ∧ -1000000000000 < q.n then (Ll.put ⟨5, q.n, 0⟩ ⟨q.s, q.g, q.n + 1⟩).bind fun q1 => (Ll.put ⟨6, q.n, n⟩ q1).bind fun q2 => (Ll.put ⟨4, 0, 0⟩ q2).bind fun q3 => (f q3).bind fun q4 => (Ll.put ⟨4, 0, (q1.s.length : Nat)⟩ q4).bind fun q5 => Ll.setT q2.s.length (q5.s.length : Nat) q5 else none)
      else (f q).bind fun q1 => match fs[1]? with
        | none => none
        | some f1 => if k = 3 then f1 q1
          else if k = 4 then (Ll.grd ⟨(q.s.length : Nat), (q1.s.length : Nat), n, 0⟩ q1).bind fun q2 => (Ll.put ⟨4, 0, 0⟩ q2).bind fun q3 => (Ll.setA q1.g.length (q3.s.length : Nat) q3).bind fun q4 => (f1 q4).bind fun q5 => Ll.setT q2.s.length (q5.s.length : Nat) q5
          else if k = 5 then (Ll.grd ⟨(q.s.length : Nat), (q1.s.length : Nat), 0, 0⟩ q1).bind fun q2 => (f1 q2).bind fun q3 => (Ll.put ⟨4, 0, 0⟩ q3).bind fun q4 => (Ll.setA q1.g.length (q4.s.length : Nat) q4).bind fun q5 => (f1 q5).bind fun q6 => (Ll.put ⟨3, (q1.g.length : Nat), 0⟩ q6).bind fun q7 => Ll.setT q3.s.length (q7.s.length : Nat) q7
          else none
mutual
/-- A tree is laid behind a line. -/
def Ll.lay : S72 → Ll.F
  | ⟨k, n, ts⟩, q => Ll.node k n (Ll.lays ts) q
def Ll.lays : List S72 → List Ll.F
  | [] => []
  | t :: ts => Ll.lay t :: Ll.lays ts
end
theorem Ll.lays_at : ∀ (ts : List S72) (i : Nat) (f : Ll.F), (Ll.lays ts)[i]? = some f → ∃ t, ts[i]? = some t ∧ f = Ll.lay t
  | [], i, f, h => by simp [Ll.lays] at h
  | t :: ts, 0, f, h => by
    simp only [Ll.lays, List.getElem?_cons_zero, Option.some.injEq] at h
    exact ⟨t, rfl, h.symm⟩
  | t :: ts, i + 1, f, h => by
    simp only [Ll.lays, List.getElem?_cons_succ] at h ⊢
    exact Ll.lays_at ts i f h
abbrev Ll.St (T B gb : Nat) (w : World) (q : Ll.Q) (A1 : Option Addr) (c1 : Nat) (A2 : Option Addr) (c2 : Nat) : Prop := w.heap[gb]? = some (.cells #[.slice A1 q.s.length c1, .slice A2 q.g.length c2, .int .i64 q.n] T (0, 0))
abbrev Ll.Ok (w0 : World) (B gb : Nat) (f : Ll.F) (g : Nat) : Prop :=
  ∀ (w : World) (A1 : Option Addr) (c1 : Nat) (A2 : Option Addr) (c2 : Nat) (q r : Ll.Q), Below B w0 w → Ll.St 109 B gb w q A1 c1 A2 c2 → k86.R 86 w B (fun _ => True) (.slice A1 q.s.length c1) q.s → k63.R 63 w B (fun _ => True) (.slice A2 q.g.length c2) q.g → f q = some r →
    Calls Try.prog 68 #[.pointer (some ⟨gb, 0, none⟩), .pointer (some ⟨g, 0, none⟩)] w (Ll.PostV 109 B gb w r)
structure Ll.Nd (w0 : World) (B gb g : Nat) (k n : Int) (A : Option Addr) (m c : Nat) (fs : List Ll.F) : Prop where
  gB : g < B
  hB : B ≤ gb
  w0B : B ≤ w0.heap.size
  cell : w0.heap[g]? = some (.cells #[.int .i64 k, .int .i64 n, .slice A m c] 135 (0, 0))
  kid : ∀ i f, fs[i]? = some f → ∃ gi h, A = some ⟨h, 0, none⟩ ∧ i < m ∧ h < B ∧ w0.cell? ⟨h, i, none⟩ = some (.pointer (some ⟨gi, 0, none⟩)) ∧ Ll.Ok w0 B gb f gi
theorem Ll.kids0 {w0 : World} {B gb g : Nat} {k n : Int} {A : Option Addr} {m c : Nat} {fs : List Ll.F} (hN : Ll.Nd w0 B gb g k n A m c fs) {i : Nat} {f : Ll.F} (hf : fs[i]? = some f) : ∃ gi h, A = some ⟨h, 0, none⟩ ∧ i < m ∧ (∀ w, Below B w0 w → w.cell? ⟨h, i, none⟩ = some (.pointer (some ⟨gi, 0, none⟩))) ∧ Ll.Ok w0 B gb f gi := by
  obtain ⟨gi, h, h1, h2, h3, h4, h5⟩ := hN.kid i f hf
  exact ⟨gi, h, h1, h2, fun w hw => (hw.cell (p := ⟨h, i, none⟩) h3).trans h4, h5⟩
theorem Ll.put_ok {w : World} {B gb : Nat} {A1 A2 : Option Addr} {c1 c2 : Nat} {x : S86} {q r : Ll.Q} (h : Ll.put x q = some r) (hgb : B ≤ gb) (hBw : B ≤ w.heap.size) (hbx : Ll.St 109 B gb w q A1 c1 A2 c2) (hS : k86.R 86 w B (fun _ => True) (.slice A1 q.s.length c1) q.s) (hG : k63.R 63 w B (fun _ => True) (.slice A2 q.g.length c2) q.g) :
  Calls Try.prog 87 #[.pointer (some ⟨gb, 0, none⟩), .agg #[.int .i64 x.f0, .int .i64 x.f1, .int .i64 x.f2]] w (Ll.PostI 109 B gb w r.s r.g r.n q.s.length) := by
  unfold Ll.put at h
  split at h
  · rename_i hl
    obtain rfl := Option.some.inj h
    exact impl_liner_put.calls w B gb q.s q.g q.n x hgb hBw hbx hS hG hl
  · cases h
theorem Ll.grd_ok {w : World} {B gb : Nat} {A1 A2 : Option Addr} {c1 c2 : Nat} {f kd : Int} {q r : Ll.Q} (h : Ll.grd ⟨f, (q.s.length : Nat), kd, 0⟩ q = some r) (hgb : B ≤ gb) (hBw : B ≤ w.heap.size) (hbx : Ll.St 109 B gb w q A1 c1 A2 c2) (hS : k86.R 86 w B (fun _ => True) (.slice A1 q.s.length c1) q.s) (hG : k63.R 63 w B (fun _ => True) (.slice A2 q.g.length c2) q.g) :
  Calls Try.prog 88 #[.pointer (some ⟨gb, 0, none⟩), .int .i64 f, .int .i64 kd] w (Ll.PostI 109 B gb w r.s r.g r.n q.g.length) := by
  unfold Ll.grd at h
  split at h
  · rename_i hl
    obtain rfl := Option.some.inj h
    exact impl_liner_guard.calls w B gb q.s q.g q.n f kd hgb hBw hbx hS hG hl
  · cases h
set_option maxHeartbeats 8000000 in
set_option maxRecDepth 100000 in
theorem Ll.node_ok {w0 : World} {B gb g : Nat} {k n : Int} {A : Option Addr} {m c : Nat} {fs : List Ll.F} (hN : Ll.Nd w0 B gb g k n A m c fs) : Ll.Ok w0 B gb (Ll.node k n fs) g := by
 intro w A1_ c1_ A2_ c2_ q r hB0 hbx hS hG h
 have hu35 := Try.underlying35
 have hu36 := Try.underlying36
 have hu38 := Try.underlying38
 have hu86 := Try.underlying86
 have hu63 := Try.underlying63
 have hu109 := Try.underlying109
 have hu135 := Try.underlying135
 have hu76 := Try.underlying76
 have hu133 := Try.underlying133
 have HN := Aside0.mk hN
 have BK := Aside0.mk ((hB0.block g hN.gB).trans hN.cell)
 have BX := Aside0.mk hbx
 have HO := Aside0.mk hS
 have HQ := Aside0.mk hG
 have HB := Aside0.mk (Below.refl B w)
 have HB0 := Aside0.mk hB0
 have HG := Aside0.mk hN.gB
 have HGS := Aside0.mk hN.hB
 have HS := Aside0.mk (Nat.le_trans hN.w0B hB0.size)
 clear hbx hS hG hB0 hN
 unfold Ll.node at h
 obtain ⟨hcz0, hfz0, hcz1, hfz1, hcz2, hfz2⟩ := bk3 BK.out; obtain ⟨hbz0, hbf0, hbz1, hbf1, hbz2, hbf2⟩ := bk3 BX.out
 by_cases k1 : k = 1
 ·rw [if_pos k1] at h
  subst k1
  have A1 := Aside0.mk h
  clear h
  go_enter Try.func68, Try.ntmps68
  go_wp2_with (first | (go_at_call 87; (with_reducible refine (Ll.put_ok A1.out HGS.out HS.out BX.out HO.out HQ.out).mono ?_); rintro e w5 ⟨rfl, A1_, c1_, A2_, c2_, hbx_, ho_, hq_, hb_⟩; have n0_ := Aside0.mk (HB.out.trans hb_); have n1_ := Aside0.mk hbx_; have n2_ := Aside0.mk ho_; have n3_ := Aside0.mk hq_; have n4_ := Aside0.mk ((hb_.block g HG.out).trans BK.out); have n5_ := Aside0.mk (Nat.le_trans HS.out hb_.size); clear HB BX HO HQ BK HS hcz0 hfz0 hcz1 hfz1 hcz2 hfz2 hbz0 hbf0 hbz1 hbf1 hbz2 hbf2 hbx_ ho_ hq_ hb_; have HB := n0_; have BX := n1_; have HO := n2_; have HQ := n3_; have BK := n4_; have HS := n5_; clear n0_ n1_ n2_ n3_ n4_ n5_; obtain ⟨hcz0, hfz0, hcz1, hfz1, hcz2, hfz2⟩ := bk3 BK.out; obtain ⟨hbz0, hbf0, hbz1, hbf1, hbz2, hbf2⟩ := bk3 BX.out))
  refine Ll.ret0 rfl rfl ?_
  exact ⟨rfl, _, _, _, _, BX.out, HO.out, HQ.out, HB.out⟩
 ·rw [if_neg k1] at h
  have k1b : (k == 1) = false := beq_eq_false_iff_ne.mpr k1
  by_cases k2 : k = 2
  ·rw [if_pos k2] at h
   subst k2
   have A1 := Aside0.mk h
   clear h
   go_enter Try.func68, Try.ntmps68
   go_wp2_with (first | (go_at_call 87; (with_reducible refine (Ll.put_ok A1.out HGS.out HS.out BX.out HO.out HQ.out).mono ?_); rintro e w5 ⟨rfl, A1_, c1_, A2_, c2_, hbx_, ho_, hq_, hb_⟩; have n0_ := Aside0.mk (HB.out.trans hb_); have n1_ := Aside0.mk hbx_; have n2_ := Aside0.mk ho_; have n3_ := Aside0.mk hq_; have n4_ := Aside0.mk ((hb_.block g HG.out).trans BK.out); have n5_ := Aside0.mk (Nat.le_trans HS.out hb_.size); clear HB BX HO HQ BK HS hcz0 hfz0 hcz1 hfz1 hcz2 hfz2 hbz0 hbf0 hbz1 hbf1 hbz2 hbf2 hbx_ ho_ hq_ hb_; have HB := n0_; have BX := n1_; have HO := n2_; have HQ := n3_; have BK := n4_; have HS := n5_; clear n0_ n1_ n2_ n3_ n4_ n5_; obtain ⟨hcz0, hfz0, hcz1, hfz1, hcz2, hfz2⟩ := bk3 BK.out; obtain ⟨hbz0, hbf0, hbz1, hbf1, hbz2, hbf2⟩ := bk3 BX.out))
   refine Ll.ret0 rfl rfl ?_
   exact ⟨rfl, _, _, _, _, BX.out, HO.out, HQ.out, HB.out⟩
  ·rw [if_neg k2] at h
   have k2b : (k == 2) = false := beq_eq_false_iff_ne.mpr k2
   split at h
   ·cases h
   rename_i f0 hf0
   obtain ⟨gi0, hh0, eA0, hm0, hc0, hok0⟩ := Ll.kids0 HN.out hf0
   have HOK0 := Aside0.mk hok0
   have HC0 := Aside0.mk hc0
   clear hok0 hc0
   have hm0b : (0 < m) = True := eq_true hm0
   have hm0c : ((0 : Int) < (m : Int)) = True := eq_true (by omega)
   clear hm0
   subst eA0
   by_cases k6 : k = 6
   ·rw [if_pos k6] at h
    subst k6
    split at h
    case isFalse => cases h
    rename_i hlim
    obtain ⟨hn1, hn2⟩ := hlim
    replace h := lO h; obtain ⟨q1, B1, h⟩ := h
    replace h := lO h; obtain ⟨q2, B2, h⟩ := h
    replace h := lO h; obtain ⟨q3, B3, h⟩ := h
    replace h := lO h; obtain ⟨q4, B4, h⟩ := h
    replace h := lO h; obtain ⟨q5, B5, h⟩ := h
    have B6 := Aside0.mk h
    clear h
    go_enter Try.func68, Try.ntmps68
    go_upto_region 28 with (fail)
    have hgg_ : g ≠ gb := by have h1 := HG.out; have h2 := HGS.out; omega
    have n0_ : Aside0 (Ll.St 109 B gb (w.setCell ⟨gb, 2, none⟩ (.int .i64 (q.n + 1))) ⟨q.s, q.g, q.n + 1⟩ A1_ c1_ A2_ c2_) := ⟨blk_put BX.out 2 _ rfl⟩
    have n1_ := Aside0.mk (Kd.R_set HO.out BX.out (by decide) 2 (.int .i64 (q.n + 1)))
    have n2_ := Aside0.mk (Kd.R_set HQ.out BX.out (by decide) 2 (.int .i64 (q.n + 1)))
    have n3_ := Aside0.mk (HB.out.setCell (p := ⟨gb, 2, none⟩) HGS.out (.int .i64 (q.n + 1)))
    have n4_ : Aside0 (B ≤ (w.setCell ⟨gb, 2, none⟩ (.int .i64 (q.n + 1))).heap.size) := ⟨Nat.le_trans HS.out n3_.out.size⟩
    have n5_ := Aside0.mk (blk_far BK.out (p := ⟨gb, 2, none⟩) hgg_ (.int .i64 (q.n + 1)))
    clear BX HO HQ HB HS BK hcz0 hfz0 hcz1 hfz1 hcz2 hfz2 hbz0 hbf0 hbz1 hbf1 hbz2 hbf2
    generalize w.setCell ⟨gb, 2, none⟩ (.int .i64 (q.n + 1)) = w4 at n0_ n1_ n2_ n3_ n4_ n5_ ⊢
    have BX := n0_
    have HO := n1_
    have HQ := n2_
    have HB := n3_
    have HS := n4_
    have BK := n5_
    clear n0_ n1_ n2_ n3_ n4_ n5_
    obtain ⟨hcz0, hfz0, hcz1, hfz1, hcz2, hfz2⟩ := bk3 BK.out; obtain ⟨hbz0, hbf0, hbz1, hbf1, hbz2, hbf2⟩ := bk3 BX.out
    go_upto_region 29 with (first | (go_at_call 87; (with_reducible refine (Ll.put_ok B1.out HGS.out HS.out BX.out HO.out HQ.out).mono ?_); rintro e w5 ⟨rfl, A1_, c1_, A2_, c2_, hbx_, ho_, hq_, hb_⟩; have n0_ := Aside0.mk (HB.out.trans hb_); have n1_ := Aside0.mk hbx_; have n2_ := Aside0.mk ho_; have n3_ := Aside0.mk hq_; have n4_ := Aside0.mk ((hb_.block g HG.out).trans BK.out); have n5_ := Aside0.mk (Nat.le_trans HS.out hb_.size); clear HB BX HO HQ BK HS hcz0 hfz0 hcz1 hfz1 hcz2 hfz2 hbz0 hbf0 hbz1 hbf1 hbz2 hbf2 hbx_ ho_ hq_ hb_; have HB := n0_; have BX := n1_; have HO := n2_; have HQ := n3_; have BK := n4_; have HS := n5_; clear n0_ n1_ n2_ n3_ n4_ n5_; obtain ⟨hcz0, hfz0, hcz1, hfz1, hcz2, hfz2⟩ := bk3 BK.out; obtain ⟨hbz0, hbf0, hbz1, hbf1, hbz2, hbf2⟩ := bk3 BX.out))
    go_upto_region 30 with (first | (go_at_call 87; (with_reducible refine (Ll.put_ok B2.out HGS.out HS.out BX.out HO.out HQ.out).mono ?_); rintro e w5 ⟨rfl, A1_, c1_, A2_, c2_, hbx_, ho_, hq_, hb_⟩; have n0_ := Aside0.mk (HB.out.trans hb_); have n1_ := Aside0.mk hbx_; have n2_ := Aside0.mk ho_; have n3_ := Aside0.mk hq_; have n4_ := Aside0.mk ((hb_.block g HG.out).trans BK.out); have n5_ := Aside0.mk (Nat.le_trans HS.out hb_.size); clear HB BX HO HQ BK HS hcz0 hfz0 hcz1 hfz1 hcz2 hfz2 hbz0 hbf0 hbz1 hbf1 hbz2 hbf2 hbx_ ho_ hq_ hb_; have HB := n0_; have BX := n1_; have HO := n2_; have HQ := n3_; have BK := n4_; have HS := n5_; clear n0_ n1_ n2_ n3_ n4_ n5_; obtain ⟨hcz0, hfz0, hcz1, hfz1, hcz2, hfz2⟩ := bk3 BK.out; obtain ⟨hbz0, hbf0, hbz1, hbf1, hbz2, hbf2⟩ := bk3 BX.out))
    go_upto_region 31 with (first | (go_at_call 87; (with_reducible refine (Ll.put_ok B3.out HGS.out HS.out BX.out HO.out HQ.out).mono ?_); rintro e w5 ⟨rfl, A1_, c1_, A2_, c2_, hbx_, ho_, hq_, hb_⟩; have n0_ := Aside0.mk (HB.out.trans hb_); have n1_ := Aside0.mk hbx_; have n2_ := Aside0.mk ho_; have n3_ := Aside0.mk hq_; have n4_ := Aside0.mk ((hb_.block g HG.out).trans BK.out); have n5_ := Aside0.mk (Nat.le_trans HS.out hb_.size); clear HB BX HO HQ BK HS hcz0 hfz0 hcz1 hfz1 hcz2 hfz2 hbz0 hbf0 hbz1 hbf1 hbz2 hbf2 hbx_ ho_ hq_ hb_; have HB := n0_; have BX := n1_; have HO := n2_; have HQ := n3_; have BK := n4_; have HS := n5_; clear n0_ n1_ n2_ n3_ n4_ n5_; obtain ⟨hcz0, hfz0, hcz1, hfz1, hcz2, hfz2⟩ := bk3 BK.out; obtain ⟨hbz0, hbf0, hbz1, hbf1, hbz2, hbf2⟩ := bk3 BX.out))
    have hk0 := HC0.out _ (HB0.out.trans HB.out)
    go_upto_region 32 with (first | (go_at_call 68; (with_reducible refine (HOK0.out _ _ _ _ _ _ _ (HB0.out.trans HB.out) BX.out HO.out HQ.out B4.out).mono ?_); rintro e w5 ⟨rfl, A1_, c1_, A2_, c2_, hbx_, ho_, hq_, hb_⟩; have n0_ := Aside0.mk (HB.out.trans hb_); have n1_ := Aside0.mk hbx_; have n2_ := Aside0.mk ho_; have n3_ := Aside0.mk hq_; have n4_ := Aside0.mk ((hb_.block g HG.out).trans BK.out); have n5_ := Aside0.mk (Nat.le_trans HS.out hb_.size); clear hk0 HB BX HO HQ BK HS hcz0 hfz0 hcz1 hfz1 hcz2 hfz2 hbz0 hbf0 hbz1 hbf1 hbz2 hbf2 hbx_ ho_ hq_ hb_; have HB := n0_; have BX := n1_; have HO := n2_; have HQ := n3_; have BK := n4_; have HS := n5_; clear n0_ n1_ n2_ n3_ n4_ n5_; obtain ⟨hcz0, hfz0, hcz1, hfz1, hcz2, hfz2⟩ := bk3 BK.out; obtain ⟨hbz0, hbf0, hbz1, hbf1, hbz2, hbf2⟩ := bk3 BX.out))
    go_upto_region 33 with (first | (go_at_call 87; (with_reducible refine (Ll.put_ok B5.out HGS.out HS.out BX.out HO.out HQ.out).mono ?_); rintro e w5 ⟨rfl, A1_, c1_, A2_, c2_, hbx_, ho_, hq_, hb_⟩; have n0_ := Aside0.mk (HB.out.trans hb_); have n1_ := Aside0.mk hbx_; have n2_ := Aside0.mk ho_; have n3_ := Aside0.mk hq_; have n4_ := Aside0.mk ((hb_.block g HG.out).trans BK.out); have n5_ := Aside0.mk (Nat.le_trans HS.out hb_.size); clear HB BX HO HQ BK HS hcz0 hfz0 hcz1 hfz1 hcz2 hfz2 hbz0 hbf0 hbz1 hbf1 hbz2 hbf2 hbx_ ho_ hq_ hb_; have HB := n0_; have BX := n1_; have HO := n2_; have HQ := n3_; have BK := n4_; have HS := n5_; clear n0_ n1_ n2_ n3_ n4_ n5_; obtain ⟨hcz0, hfz0, hcz1, hfz1, hcz2, hfz2⟩ := bk3 BK.out; obtain ⟨hbz0, hbf0, hbz1, hbf1, hbz2, hbf2⟩ := bk3 BX.out))
    obtain ⟨hlt_, es_, eg_, en_⟩ := Ll.setT_some B6.out
    have HLT := Aside0.mk hlt_
    obtain ⟨gr, cr, ef_, hgr_, hgr2_, hgr3_⟩ := Kd.R_form HO.out (Nat.lt_of_le_of_lt (Nat.zero_le _) hlt_)
    injection ef_ with ef1_ ef2_ ef3_
    subst ef1_
    subst ef3_
    clear ef2_ hgr_ hgr2_ hgr3_
    obtain ⟨hsc_, hsf_, hsr_, hsg_⟩ := Ll.cell86 HO.out hlt_ ((q5.s.length : Nat) : Int)
    clear hsr_ hsg_
    have hi0_ : (0 : Int) ≤ ((q2.s.length : Nat) : Int) := Int.natCast_nonneg _
    have hi1_ : ((q2.s.length : Nat) : Int) < ((q5.s.length : Nat) : Int) := Int.ofNat_lt.mpr hlt_
    refine start_ (n := 15) (S := fun w' => w'.cell? ⟨gb, 0, none⟩ = some (.slice (some ⟨gr, 0, none⟩) q5.s.length c1_) ∧ w'.cell? ⟨gb, 1, none⟩ = some (.slice A2_ q5.g.length c2_) ∧ w'.cell? ⟨gr, q2.s.length * 3 + 2, none⟩ = some (.int .i64 (rd_T86 q5.s (q2.s.length : Nat)).f2) ∧ w'.frozen? ⟨gr, q2.s.length * 3 + 2, none⟩ = false) (ds := [14]) (bs 15 0) kR rfl kR ⟨hbz0, hbz1, hsc_, hsf_⟩ (fun hHeld => ?_)
    have n0_ := Aside0.mk (blk_drew BX.out)
    have n1_ := Aside0.mk (Kd.R_drew HO.out)
    have n2_ := Aside0.mk (Kd.R_drew HQ.out)
    have n3_ := Aside0.mk HB.out.drew
    have n4_ : Aside0 (B ≤ (World.drew _).heap.size) := HS
    have n5_ := Aside0.mk (blk_drew BK.out)
    clear BX HO HQ HB HS hsc_ hsf_ hbz0 hbf0 hbz1 hbf1 hbz2 hbf2 BK hcz0 hfz0 hcz1 hfz1 hcz2 hfz2
    generalize hwd_ : World.drew _ = w3 at n0_ n1_ n2_ n3_ n4_ n5_ hHeld ⊢
    clear hwd_
    have BX := n0_
    have HO := n1_
    have HQ := n2_
    have HB := n3_
    have HS := n4_
    clear n0_ n1_ n2_ n3_ n4_
    have BK := n5_
    clear n5_
    refine pur_ 0 223 (bs 15 1) kR ?_
    refine pur_ 1 224 (bs 15 3) kR ?_
    refine pur_ 2 225 (bs 15 7) kR ?_
    refine pur_ 3 226 (bs 15 15) kR ?_
    refine pur_ 5 228 (bs 15 47) kR ?_
    refine pur_ 6 229 (bs 15 111) kR ?_
    refine pur_ 7 230 (bs 15 239) kR ?_
    refine pur_ 8 231 (bs 15 495) kR ?_
    refine pur_ 9 232 (bs 15 1007) kR ?_
    refine tak_ 4 227 (bs 15 1023) kR hHeld ?_
    refine tak_ 10 233 (bs 15 2047) kR hHeld ?_
    refine pur_ 11 234 (bs 15 4095) kR ?_
    refine pur_ 12 235 (bs 15 8191) kR ?_
    refine pur_ 13 236 (bs 15 16383) kR ?_
    refine last_ (i := 14) (N := none) (bs 15 32767) rfl rfl kR (by decide) (fun K hK => ?_)
    have hs0_ := hHeld.2.2.1
    have hs1_ := hHeld.2.2.2
    refine skip_ (w1 := World.setCell _ ⟨gr, q2.s.length * 3 + 2, none⟩ (.int .i64 ((q5.s.length : Nat) : Int))) (by rfl) rfl (by first | (go_simp; done) | (go_simp; rfl)) ?_
    refine hK.out _ _ ?_
    clear hK K
    refine done_ kR ?_
    obtain ⟨_, _, hsr_, hsg_⟩ := Ll.cell86 HO.out HLT.out ((q5.s.length : Nat) : Int)
    have hle_ : B ≤ gr := Kd.R_base HO.out gr rfl
    have n0_ := Aside0.mk (blk_grown (lK BX.out) hsg_ (Kd.R_ne HO.out BX.out (by decide)))
    have n1_ := Aside0.mk (Kd.R_over HQ.out HO.out (by decide) hsg_)
    have n2_ := Aside0.mk hsr_
    have n3_ := Aside0.mk (HB.out.setCell (p := ⟨gr, q2.s.length * 3 + 2, none⟩) hle_ (.int .i64 ((q5.s.length : Nat) : Int)))
    have n4_ : Aside0 (B ≤ (World.setCell _ ⟨gr, q2.s.length * 3 + 2, none⟩ (.int .i64 ((q5.s.length : Nat) : Int))).heap.size) := ⟨Nat.le_trans HS.out hsg_.size⟩
    have n5_ := Aside0.mk (blk_grown (lK BK.out) hsg_ (Kd.R_ne HO.out BK.out (by decide)))
    clear BX HO HQ HB HS hHeld hsr_ hsg_ BK
    generalize World.setCell _ ⟨gr, q2.s.length * 3 + 2, none⟩ (.int .i64 ((q5.s.length : Nat) : Int)) = w4 at n0_ n1_ n2_ n3_ n4_ n5_ ⊢
    have BX := n0_
    have HQ := n1_
    have HQ_ := n2_
    have HB := n3_
    have HS := n4_
    have BK := n5_
    clear n5_
    clear n0_ n1_ n2_ n3_ n4_
    have BX : Aside0 (Ll.St 109 B gb _ r (some ⟨gr, 0, none⟩) c1_ A2_ c2_) := ⟨by unfold Ll.St; rw [es_, eg_, en_, List.length_set]; exact BX.out⟩
    have HO : Aside0 (k86.R 86 _ B (fun _ => True) (.slice (some ⟨gr, 0, none⟩) r.s.length c1_) r.s) := ⟨by rw [es_, List.length_set]; exact HQ_.out⟩
    have HQ : Aside0 (k63.R 63 _ B (fun _ => True) (.slice A2_ r.g.length c2_) r.g) := ⟨by rw [eg_]; exact HQ.out⟩
    clear HQ_ es_ eg_ en_
    obtain ⟨hcz0, hfz0, hcz1, hfz1, hcz2, hfz2⟩ := bk3 BK.out; obtain ⟨hbz0, hbf0, hbz1, hbf1, hbz2, hbf2⟩ := bk3 BX.out
    go_wp2
    refine Ll.ret0 rfl rfl ?_
    exact ⟨rfl, _, _, _, _, BX.out, HO.out, HQ.out, HB.out⟩
   ·rw [if_neg k6] at h
    have k6b : (k == 6) = false := beq_eq_false_iff_ne.mpr k6
    replace h := lO h; obtain ⟨q1, B1, h⟩ := h
    split at h
    ·cases h
    rename_i f1 hf1
    obtain ⟨gi1, hh1, eA1, hm1, hc1, hok1⟩ := Ll.kids0 HN.out hf1
    have HOK1 := Aside0.mk hok1
    have HC1 := Aside0.mk hc1
    clear hok1 hc1
    obtain rfl : hh0 = hh1 := by injection eA1 with eA1; injection eA1
    have hm1b : (1 < m) = True := eq_true hm1
    have hm1c : ((1 : Int) < (m : Int)) = True := eq_true (by omega)
    clear hm1 eA1
    have hk0 := HC0.out _ (HB0.out.trans HB.out)
    by_cases k3 : k = 3
    ·rw [if_pos k3] at h
     subst k3
     have B2 := Aside0.mk h
     clear h
     go_enter Try.func68, Try.ntmps68
     go_upto_region 8 with (first | (go_at_call 68; (with_reducible refine (HOK0.out _ _ _ _ _ _ _ (HB0.out.trans HB.out) BX.out HO.out HQ.out B1.out).mono ?_); rintro e w5 ⟨rfl, A1_, c1_, A2_, c2_, hbx_, ho_, hq_, hb_⟩; have n0_ := Aside0.mk (HB.out.trans hb_); have n1_ := Aside0.mk hbx_; have n2_ := Aside0.mk ho_; have n3_ := Aside0.mk hq_; have n4_ := Aside0.mk ((hb_.block g HG.out).trans BK.out); have n5_ := Aside0.mk (Nat.le_trans HS.out hb_.size); clear hk0 HB BX HO HQ BK HS hcz0 hfz0 hcz1 hfz1 hcz2 hfz2 hbz0 hbf0 hbz1 hbf1 hbz2 hbf2 hbx_ ho_ hq_ hb_; have HB := n0_; have BX := n1_; have HO := n2_; have HQ := n3_; have BK := n4_; have HS := n5_; clear n0_ n1_ n2_ n3_ n4_ n5_; obtain ⟨hcz0, hfz0, hcz1, hfz1, hcz2, hfz2⟩ := bk3 BK.out; obtain ⟨hbz0, hbf0, hbz1, hbf1, hbz2, hbf2⟩ := bk3 BX.out))
     have hk1 := HC1.out _ (HB0.out.trans HB.out)
     go_wp2_with (first | (go_at_call 68; (with_reducible refine (HOK1.out _ _ _ _ _ _ _ (HB0.out.trans HB.out) BX.out HO.out HQ.out B2.out).mono ?_); rintro e w5 ⟨rfl, A1_, c1_, A2_, c2_, hbx_, ho_, hq_, hb_⟩; have n0_ := Aside0.mk (HB.out.trans hb_); have n1_ := Aside0.mk hbx_; have n2_ := Aside0.mk ho_; have n3_ := Aside0.mk hq_; have n4_ := Aside0.mk ((hb_.block g HG.out).trans BK.out); have n5_ := Aside0.mk (Nat.le_trans HS.out hb_.size); clear HB BX HO HQ BK HS hcz0 hfz0 hcz1 hfz1 hcz2 hfz2 hbz0 hbf0 hbz1 hbf1 hbz2 hbf2 hbx_ ho_ hq_ hb_; have HB := n0_; have BX := n1_; have HO := n2_; have HQ := n3_; have BK := n4_; have HS := n5_; clear n0_ n1_ n2_ n3_ n4_ n5_; obtain ⟨hcz0, hfz0, hcz1, hfz1, hcz2, hfz2⟩ := bk3 BK.out; obtain ⟨hbz0, hbf0, hbz1, hbf1, hbz2, hbf2⟩ := bk3 BX.out))
     refine Ll.ret0 rfl rfl ?_
     exact ⟨rfl, _, _, _, _, BX.out, HO.out, HQ.out, HB.out⟩
    ·rw [if_neg k3] at h
     have k3b : (k == 3) = false := beq_eq_false_iff_ne.mpr k3
     by_cases k4 : k = 4
     ·rw [if_pos k4] at h
      subst k4
      replace h := lO h; obtain ⟨q2, B2, h⟩ := h
      replace h := lO h; obtain ⟨q3, B3, h⟩ := h
      replace h := lO h; obtain ⟨q4, B4, h⟩ := h
      replace h := lO h; obtain ⟨q5, B5, h⟩ := h
      have B6 := Aside0.mk h
      clear h
      go_enter Try.func68, Try.ntmps68
      go_upto_region 11 with (first | (go_at_call 68; (with_reducible refine (HOK0.out _ _ _ _ _ _ _ (HB0.out.trans HB.out) BX.out HO.out HQ.out B1.out).mono ?_); rintro e w5 ⟨rfl, A1_, c1_, A2_, c2_, hbx_, ho_, hq_, hb_⟩; have n0_ := Aside0.mk (HB.out.trans hb_); have n1_ := Aside0.mk hbx_; have n2_ := Aside0.mk ho_; have n3_ := Aside0.mk hq_; have n4_ := Aside0.mk ((hb_.block g HG.out).trans BK.out); have n5_ := Aside0.mk (Nat.le_trans HS.out hb_.size); clear hk0 HB BX HO HQ BK HS hcz0 hfz0 hcz1 hfz1 hcz2 hfz2 hbz0 hbf0 hbz1 hbf1 hbz2 hbf2 hbx_ ho_ hq_ hb_; have HB := n0_; have BX := n1_; have HO := n2_; have HQ := n3_; have BK := n4_; have HS := n5_; clear n0_ n1_ n2_ n3_ n4_ n5_; obtain ⟨hcz0, hfz0, hcz1, hfz1, hcz2, hfz2⟩ := bk3 BK.out; obtain ⟨hbz0, hbf0, hbz1, hbf1, hbz2, hbf2⟩ := bk3 BX.out))
      go_upto_region 12 with (first | (go_at_call 88; (with_reducible refine (Ll.grd_ok B2.out HGS.out HS.out BX.out HO.out HQ.out).mono ?_); rintro e w5 ⟨rfl, A1_, c1_, A2_, c2_, hbx_, ho_, hq_, hb_⟩; have n0_ := Aside0.mk (HB.out.trans hb_); have n1_ := Aside0.mk hbx_; have n2_ := Aside0.mk ho_; have n3_ := Aside0.mk hq_; have n4_ := Aside0.mk ((hb_.block g HG.out).trans BK.out); have n5_ := Aside0.mk (Nat.le_trans HS.out hb_.size); clear HB BX HO HQ BK HS hcz0 hfz0 hcz1 hfz1 hcz2 hfz2 hbz0 hbf0 hbz1 hbf1 hbz2 hbf2 hbx_ ho_ hq_ hb_; have HB := n0_; have BX := n1_; have HO := n2_; have HQ := n3_; have BK := n4_; have HS := n5_; clear n0_ n1_ n2_ n3_ n4_ n5_; obtain ⟨hcz0, hfz0, hcz1, hfz1, hcz2, hfz2⟩ := bk3 BK.out; obtain ⟨hbz0, hbf0, hbz1, hbf1, hbz2, hbf2⟩ := bk3 BX.out))
      go_upto_region 13 with (first | (go_at_call 87; (with_reducible refine (Ll.put_ok B3.out HGS.out HS.out BX.out HO.out HQ.out).mono ?_); rintro e w5 ⟨rfl, A1_, c1_, A2_, c2_, hbx_, ho_, hq_, hb_⟩; have n0_ := Aside0.mk (HB.out.trans hb_); have n1_ := Aside0.mk hbx_; have n2_ := Aside0.mk ho_; have n3_ := Aside0.mk hq_; have n4_ := Aside0.mk ((hb_.block g HG.out).trans BK.out); have n5_ := Aside0.mk (Nat.le_trans HS.out hb_.size); clear HB BX HO HQ BK HS hcz0 hfz0 hcz1 hfz1 hcz2 hfz2 hbz0 hbf0 hbz1 hbf1 hbz2 hbf2 hbx_ ho_ hq_ hb_; have HB := n0_; have BX := n1_; have HO := n2_; have HQ := n3_; have BK := n4_; have HS := n5_; clear n0_ n1_ n2_ n3_ n4_ n5_; obtain ⟨hcz0, hfz0, hcz1, hfz1, hcz2, hfz2⟩ := bk3 BK.out; obtain ⟨hbz0, hbf0, hbz1, hbf1, hbz2, hbf2⟩ := bk3 BX.out))
      obtain ⟨hlt_, es_, eg_, en_⟩ := Ll.setA_some B4.out
      have HLT := Aside0.mk hlt_
      obtain ⟨gr, cr, ef_, hgr_, hgr2_, hgr3_⟩ := Kd.R_form HQ.out (Nat.lt_of_le_of_lt (Nat.zero_le _) hlt_)
      injection ef_ with ef1_ ef2_ ef3_
      subst ef1_
      subst ef3_
      clear ef2_ hgr_ hgr2_ hgr3_
      obtain ⟨hsc_, hsf_, hsr_, hsg_⟩ := Ll.cell63 HQ.out hlt_ ((q3.s.length : Nat) : Int)
      clear hsr_ hsg_
      have hi0_ : (0 : Int) ≤ ((q1.g.length : Nat) : Int) := Int.natCast_nonneg _
      have hi1_ : ((q1.g.length : Nat) : Int) < ((q3.g.length : Nat) : Int) := Int.ofNat_lt.mpr hlt_
      refine start_ (n := 15) (S := fun w' => w'.cell? ⟨gb, 0, none⟩ = some (.slice A1_ q3.s.length c1_) ∧ w'.cell? ⟨gb, 1, none⟩ = some (.slice (some ⟨gr, 0, none⟩) q3.g.length c2_) ∧ w'.cell? ⟨gr, q1.g.length * 4 + 3, none⟩ = some (.int .i64 (rd_T63 q3.g (q1.g.length : Nat)).f3) ∧ w'.frozen? ⟨gr, q1.g.length * 4 + 3, none⟩ = false) (ds := [14]) (bs 15 0) kR rfl kR ⟨hbz0, hbz1, hsc_, hsf_⟩ (fun hHeld => ?_)
      have n0_ := Aside0.mk (blk_drew BX.out)
      have n1_ := Aside0.mk (Kd.R_drew HO.out)
      have n2_ := Aside0.mk (Kd.R_drew HQ.out)
      have n3_ := Aside0.mk HB.out.drew
      have n4_ : Aside0 (B ≤ (World.drew _).heap.size) := HS
      have n5_ := Aside0.mk (blk_drew BK.out)
      clear BX HO HQ HB HS hsc_ hsf_ hbz0 hbf0 hbz1 hbf1 hbz2 hbf2 BK hcz0 hfz0 hcz1 hfz1 hcz2 hfz2
      generalize hwd_ : World.drew _ = w3 at n0_ n1_ n2_ n3_ n4_ n5_ hHeld ⊢
      clear hwd_
      have BX := n0_
      have HO := n1_
      have HQ := n2_
      have HB := n3_
      have HS := n4_
      clear n0_ n1_ n2_ n3_ n4_
      have BK := n5_
      clear n5_
      refine pur_ 0 82 (bs 15 1) kR ?_
      refine pur_ 1 83 (bs 15 3) kR ?_
      refine pur_ 2 84 (bs 15 7) kR ?_
      refine pur_ 3 85 (bs 15 15) kR ?_
      refine pur_ 5 87 (bs 15 47) kR ?_
      refine pur_ 6 88 (bs 15 111) kR ?_
      refine pur_ 7 89 (bs 15 239) kR ?_
      refine pur_ 8 90 (bs 15 495) kR ?_
      refine pur_ 9 91 (bs 15 1007) kR ?_
      refine tak_ 4 86 (bs 15 1023) kR hHeld ?_
      refine tak_ 10 92 (bs 15 2047) kR hHeld ?_
      refine pur_ 11 93 (bs 15 4095) kR ?_
      refine pur_ 12 94 (bs 15 8191) kR ?_
      refine pur_ 13 95 (bs 15 16383) kR ?_
      refine last_ (i := 14) (N := none) (bs 15 32767) rfl rfl kR (by decide) (fun K hK => ?_)
      have hs0_ := hHeld.2.2.1
      have hs1_ := hHeld.2.2.2
      refine skip_ (w1 := World.setCell _ ⟨gr, q1.g.length * 4 + 3, none⟩ (.int .i64 ((q3.s.length : Nat) : Int))) (by rfl) rfl (by first | (go_simp; done) | (go_simp; rfl)) ?_
      refine hK.out _ _ ?_
      clear hK K
      refine done_ kR ?_
      obtain ⟨_, _, hsr_, hsg_⟩ := Ll.cell63 HQ.out HLT.out ((q3.s.length : Nat) : Int)
      have hle_ : B ≤ gr := Kd.R_base HQ.out gr rfl
      have n0_ := Aside0.mk (blk_grown (lK BX.out) hsg_ (Kd.R_ne HQ.out BX.out (by decide)))
      have n1_ := Aside0.mk (Kd.R_over HO.out HQ.out (by decide) hsg_)
      have n2_ := Aside0.mk hsr_
      have n3_ := Aside0.mk (HB.out.setCell (p := ⟨gr, q1.g.length * 4 + 3, none⟩) hle_ (.int .i64 ((q3.s.length : Nat) : Int)))
      have n4_ : Aside0 (B ≤ (World.setCell _ ⟨gr, q1.g.length * 4 + 3, none⟩ (.int .i64 ((q3.s.length : Nat) : Int))).heap.size) := ⟨Nat.le_trans HS.out hsg_.size⟩
      have n5_ := Aside0.mk (blk_grown (lK BK.out) hsg_ (Kd.R_ne HQ.out BK.out (by decide)))
      clear BX HO HQ HB HS hHeld hsr_ hsg_ BK
      generalize World.setCell _ ⟨gr, q1.g.length * 4 + 3, none⟩ (.int .i64 ((q3.s.length : Nat) : Int)) = w4 at n0_ n1_ n2_ n3_ n4_ n5_ ⊢
      have BX := n0_
      have HO := n1_
      have HQ_ := n2_
      have HB := n3_
      have HS := n4_
      have BK := n5_
      clear n5_
      clear n0_ n1_ n2_ n3_ n4_
      have BX : Aside0 (Ll.St 109 B gb _ q4 A1_ c1_ (some ⟨gr, 0, none⟩) c2_) := ⟨by unfold Ll.St; rw [es_, eg_, en_, List.length_set]; exact BX.out⟩
      have HQ : Aside0 (k63.R 63 _ B (fun _ => True) (.slice (some ⟨gr, 0, none⟩) q4.g.length c2_) q4.g) := ⟨by rw [eg_, List.length_set]; exact HQ_.out⟩
      have HO : Aside0 (k86.R 86 _ B (fun _ => True) (.slice A1_ q4.s.length c1_) q4.s) := ⟨by rw [es_]; exact HO.out⟩
      clear HQ_ es_ eg_ en_
      obtain ⟨hcz0, hfz0, hcz1, hfz1, hcz2, hfz2⟩ := bk3 BK.out; obtain ⟨hbz0, hbf0, hbz1, hbf1, hbz2, hbf2⟩ := bk3 BX.out
      have hk1 := HC1.out _ (HB0.out.trans HB.out)
      go_upto_region 15 with (first | (go_at_call 68; (with_reducible refine (HOK1.out _ _ _ _ _ _ _ (HB0.out.trans HB.out) BX.out HO.out HQ.out B5.out).mono ?_); rintro e w5 ⟨rfl, A1_, c1_, A2_, c2_, hbx_, ho_, hq_, hb_⟩; have n0_ := Aside0.mk (HB.out.trans hb_); have n1_ := Aside0.mk hbx_; have n2_ := Aside0.mk ho_; have n3_ := Aside0.mk hq_; have n4_ := Aside0.mk ((hb_.block g HG.out).trans BK.out); have n5_ := Aside0.mk (Nat.le_trans HS.out hb_.size); clear hk1 HB BX HO HQ BK HS hcz0 hfz0 hcz1 hfz1 hcz2 hfz2 hbz0 hbf0 hbz1 hbf1 hbz2 hbf2 hbx_ ho_ hq_ hb_; have HB := n0_; have BX := n1_; have HO := n2_; have HQ := n3_; have BK := n4_; have HS := n5_; clear n0_ n1_ n2_ n3_ n4_ n5_; obtain ⟨hcz0, hfz0, hcz1, hfz1, hcz2, hfz2⟩ := bk3 BK.out; obtain ⟨hbz0, hbf0, hbz1, hbf1, hbz2, hbf2⟩ := bk3 BX.out))
      obtain ⟨hlt_, es_, eg_, en_⟩ := Ll.setT_some B6.out
      have HLT := Aside0.mk hlt_
      obtain ⟨gr, cr, ef_, hgr_, hgr2_, hgr3_⟩ := Kd.R_form HO.out (Nat.lt_of_le_of_lt (Nat.zero_le _) hlt_)
      injection ef_ with ef1_ ef2_ ef3_
      subst ef1_
      subst ef3_
      clear ef2_ hgr_ hgr2_ hgr3_
      obtain ⟨hsc_, hsf_, hsr_, hsg_⟩ := Ll.cell86 HO.out hlt_ ((q5.s.length : Nat) : Int)
      clear hsr_ hsg_
      have hi0_ : (0 : Int) ≤ ((q2.s.length : Nat) : Int) := Int.natCast_nonneg _
      have hi1_ : ((q2.s.length : Nat) : Int) < ((q5.s.length : Nat) : Int) := Int.ofNat_lt.mpr hlt_
      refine start_ (n := 15) (S := fun w' => w'.cell? ⟨gb, 0, none⟩ = some (.slice (some ⟨gr, 0, none⟩) q5.s.length c1_) ∧ w'.cell? ⟨gb, 1, none⟩ = some (.slice A2_ q5.g.length c2_) ∧ w'.cell? ⟨gr, q2.s.length * 3 + 2, none⟩ = some (.int .i64 (rd_T86 q5.s (q2.s.length : Nat)).f2) ∧ w'.frozen? ⟨gr, q2.s.length * 3 + 2, none⟩ = false) (ds := [14]) (bs 15 0) kR rfl kR ⟨hbz0, hbz1, hsc_, hsf_⟩ (fun hHeld => ?_)
      have n0_ := Aside0.mk (blk_drew BX.out)
      have n1_ := Aside0.mk (Kd.R_drew HO.out)
      have n2_ := Aside0.mk (Kd.R_drew HQ.out)
      have n3_ := Aside0.mk HB.out.drew
      have n4_ : Aside0 (B ≤ (World.drew _).heap.size) := HS
      have n5_ := Aside0.mk (blk_drew BK.out)
      clear BX HO HQ HB HS hsc_ hsf_ hbz0 hbf0 hbz1 hbf1 hbz2 hbf2 BK hcz0 hfz0 hcz1 hfz1 hcz2 hfz2
      generalize hwd_ : World.drew _ = w3 at n0_ n1_ n2_ n3_ n4_ n5_ hHeld ⊢
      clear hwd_
      have BX := n0_
      have HO := n1_
      have HQ := n2_
      have HB := n3_
      have HS := n4_
      clear n0_ n1_ n2_ n3_ n4_
      have BK := n5_
      clear n5_
      refine pur_ 0 104 (bs 15 1) kR ?_
      refine pur_ 1 105 (bs 15 3) kR ?_
      refine pur_ 2 106 (bs 15 7) kR ?_
      refine pur_ 3 107 (bs 15 15) kR ?_
      refine pur_ 5 109 (bs 15 47) kR ?_
      refine pur_ 6 110 (bs 15 111) kR ?_
      refine pur_ 7 111 (bs 15 239) kR ?_
      refine pur_ 8 112 (bs 15 495) kR ?_
      refine pur_ 9 113 (bs 15 1007) kR ?_
      refine tak_ 4 108 (bs 15 1023) kR hHeld ?_
      refine tak_ 10 114 (bs 15 2047) kR hHeld ?_
      refine pur_ 11 115 (bs 15 4095) kR ?_
      refine pur_ 12 116 (bs 15 8191) kR ?_
      refine pur_ 13 117 (bs 15 16383) kR ?_
      refine last_ (i := 14) (N := none) (bs 15 32767) rfl rfl kR (by decide) (fun K hK => ?_)
      have hs0_ := hHeld.2.2.1
      have hs1_ := hHeld.2.2.2
      refine skip_ (w1 := World.setCell _ ⟨gr, q2.s.length * 3 + 2, none⟩ (.int .i64 ((q5.s.length : Nat) : Int))) (by rfl) rfl (by first | (go_simp; done) | (go_simp; rfl)) ?_
      refine hK.out _ _ ?_
      clear hK K
      refine done_ kR ?_
      obtain ⟨_, _, hsr_, hsg_⟩ := Ll.cell86 HO.out HLT.out ((q5.s.length : Nat) : Int)
      have hle_ : B ≤ gr := Kd.R_base HO.out gr rfl
      have n0_ := Aside0.mk (blk_grown (lK BX.out) hsg_ (Kd.R_ne HO.out BX.out (by decide)))
      have n1_ := Aside0.mk (Kd.R_over HQ.out HO.out (by decide) hsg_)
      have n2_ := Aside0.mk hsr_
      have n3_ := Aside0.mk (HB.out.setCell (p := ⟨gr, q2.s.length * 3 + 2, none⟩) hle_ (.int .i64 ((q5.s.length : Nat) : Int)))
      have n4_ : Aside0 (B ≤ (World.setCell _ ⟨gr, q2.s.length * 3 + 2, none⟩ (.int .i64 ((q5.s.length : Nat) : Int))).heap.size) := ⟨Nat.le_trans HS.out hsg_.size⟩
      have n5_ := Aside0.mk (blk_grown (lK BK.out) hsg_ (Kd.R_ne HO.out BK.out (by decide)))
      clear BX HO HQ HB HS hHeld hsr_ hsg_ BK
      generalize World.setCell _ ⟨gr, q2.s.length * 3 + 2, none⟩ (.int .i64 ((q5.s.length : Nat) : Int)) = w4 at n0_ n1_ n2_ n3_ n4_ n5_ ⊢
      have BX := n0_
      have HQ := n1_
      have HQ_ := n2_
      have HB := n3_
      have HS := n4_
      have BK := n5_
      clear n5_
      clear n0_ n1_ n2_ n3_ n4_
      have BX : Aside0 (Ll.St 109 B gb _ r (some ⟨gr, 0, none⟩) c1_ A2_ c2_) := ⟨by unfold Ll.St; rw [es_, eg_, en_, List.length_set]; exact BX.out⟩
      have HO : Aside0 (k86.R 86 _ B (fun _ => True) (.slice (some ⟨gr, 0, none⟩) r.s.length c1_) r.s) := ⟨by rw [es_, List.length_set]; exact HQ_.out⟩
      have HQ : Aside0 (k63.R 63 _ B (fun _ => True) (.slice A2_ r.g.length c2_) r.g) := ⟨by rw [eg_]; exact HQ.out⟩
      clear HQ_ es_ eg_ en_
      obtain ⟨hcz0, hfz0, hcz1, hfz1, hcz2, hfz2⟩ := bk3 BK.out; obtain ⟨hbz0, hbf0, hbz1, hbf1, hbz2, hbf2⟩ := bk3 BX.out
      go_wp2
      refine Ll.ret0 rfl rfl ?_
      exact ⟨rfl, _, _, _, _, BX.out, HO.out, HQ.out, HB.out⟩
     ·rw [if_neg k4] at h
      have k4b : (k == 4) = false := beq_eq_false_iff_ne.mpr k4
      by_cases k5 : k = 5
      ·rw [if_pos k5] at h
       subst k5
       replace h := lO h; obtain ⟨q2, B2, h⟩ := h
       replace h := lO h; obtain ⟨q3, B3, h⟩ := h
       replace h := lO h; obtain ⟨q4, B4, h⟩ := h
       replace h := lO h; obtain ⟨q5, B5, h⟩ := h
       replace h := lO h; obtain ⟨q6, B6, h⟩ := h
       replace h := lO h; obtain ⟨q7, B7, h⟩ := h
       have B8 := Aside0.mk h
       clear h
       go_enter Try.func68, Try.ntmps68
       go_upto_region 18 with (first | (go_at_call 68; (with_reducible refine (HOK0.out _ _ _ _ _ _ _ (HB0.out.trans HB.out) BX.out HO.out HQ.out B1.out).mono ?_); rintro e w5 ⟨rfl, A1_, c1_, A2_, c2_, hbx_, ho_, hq_, hb_⟩; have n0_ := Aside0.mk (HB.out.trans hb_); have n1_ := Aside0.mk hbx_; have n2_ := Aside0.mk ho_; have n3_ := Aside0.mk hq_; have n4_ := Aside0.mk ((hb_.block g HG.out).trans BK.out); have n5_ := Aside0.mk (Nat.le_trans HS.out hb_.size); clear hk0 HB BX HO HQ BK HS hcz0 hfz0 hcz1 hfz1 hcz2 hfz2 hbz0 hbf0 hbz1 hbf1 hbz2 hbf2 hbx_ ho_ hq_ hb_; have HB := n0_; have BX := n1_; have HO := n2_; have HQ := n3_; have BK := n4_; have HS := n5_; clear n0_ n1_ n2_ n3_ n4_ n5_; obtain ⟨hcz0, hfz0, hcz1, hfz1, hcz2, hfz2⟩ := bk3 BK.out; obtain ⟨hbz0, hbf0, hbz1, hbf1, hbz2, hbf2⟩ := bk3 BX.out))
       go_upto_region 19 with (first | (go_at_call 88; (with_reducible refine (Ll.grd_ok B2.out HGS.out HS.out BX.out HO.out HQ.out).mono ?_); rintro e w5 ⟨rfl, A1_, c1_, A2_, c2_, hbx_, ho_, hq_, hb_⟩; have n0_ := Aside0.mk (HB.out.trans hb_); have n1_ := Aside0.mk hbx_; have n2_ := Aside0.mk ho_; have n3_ := Aside0.mk hq_; have n4_ := Aside0.mk ((hb_.block g HG.out).trans BK.out); have n5_ := Aside0.mk (Nat.le_trans HS.out hb_.size); clear HB BX HO HQ BK HS hcz0 hfz0 hcz1 hfz1 hcz2 hfz2 hbz0 hbf0 hbz1 hbf1 hbz2 hbf2 hbx_ ho_ hq_ hb_; have HB := n0_; have BX := n1_; have HO := n2_; have HQ := n3_; have BK := n4_; have HS := n5_; clear n0_ n1_ n2_ n3_ n4_ n5_; obtain ⟨hcz0, hfz0, hcz1, hfz1, hcz2, hfz2⟩ := bk3 BK.out; obtain ⟨hbz0, hbf0, hbz1, hbf1, hbz2, hbf2⟩ := bk3 BX.out))
       have hk1 := HC1.out _ (HB0.out.trans HB.out)
       go_upto_region 20 with (first | (go_at_call 68; (with_reducible refine (HOK1.out _ _ _ _ _ _ _ (HB0.out.trans HB.out) BX.out HO.out HQ.out B3.out).mono ?_); rintro e w5 ⟨rfl, A1_, c1_, A2_, c2_, hbx_, ho_, hq_, hb_⟩; have n0_ := Aside0.mk (HB.out.trans hb_); have n1_ := Aside0.mk hbx_; have n2_ := Aside0.mk ho_; have n3_ := Aside0.mk hq_; have n4_ := Aside0.mk ((hb_.block g HG.out).trans BK.out); have n5_ := Aside0.mk (Nat.le_trans HS.out hb_.size); clear hk1 HB BX HO HQ BK HS hcz0 hfz0 hcz1 hfz1 hcz2 hfz2 hbz0 hbf0 hbz1 hbf1 hbz2 hbf2 hbx_ ho_ hq_ hb_; have HB := n0_; have BX := n1_; have HO := n2_; have HQ := n3_; have BK := n4_; have HS := n5_; clear n0_ n1_ n2_ n3_ n4_ n5_; obtain ⟨hcz0, hfz0, hcz1, hfz1, hcz2, hfz2⟩ := bk3 BK.out; obtain ⟨hbz0, hbf0, hbz1, hbf1, hbz2, hbf2⟩ := bk3 BX.out))
       go_upto_region 21 with (first | (go_at_call 87; (with_reducible refine (Ll.put_ok B4.out HGS.out HS.out BX.out HO.out HQ.out).mono ?_); rintro e w5 ⟨rfl, A1_, c1_, A2_, c2_, hbx_, ho_, hq_, hb_⟩; have n0_ := Aside0.mk (HB.out.trans hb_); have n1_ := Aside0.mk hbx_; have n2_ := Aside0.mk ho_; have n3_ := Aside0.mk hq_; have n4_ := Aside0.mk ((hb_.block g HG.out).trans BK.out); have n5_ := Aside0.mk (Nat.le_trans HS.out hb_.size); clear HB BX HO HQ BK HS hcz0 hfz0 hcz1 hfz1 hcz2 hfz2 hbz0 hbf0 hbz1 hbf1 hbz2 hbf2 hbx_ ho_ hq_ hb_; have HB := n0_; have BX := n1_; have HO := n2_; have HQ := n3_; have BK := n4_; have HS := n5_; clear n0_ n1_ n2_ n3_ n4_ n5_; obtain ⟨hcz0, hfz0, hcz1, hfz1, hcz2, hfz2⟩ := bk3 BK.out; obtain ⟨hbz0, hbf0, hbz1, hbf1, hbz2, hbf2⟩ := bk3 BX.out))
       obtain ⟨hlt_, es_, eg_, en_⟩ := Ll.setA_some B5.out
       have HLT := Aside0.mk hlt_
       obtain ⟨gr, cr, ef_, hgr_, hgr2_, hgr3_⟩ := Kd.R_form HQ.out (Nat.lt_of_le_of_lt (Nat.zero_le _) hlt_)
       injection ef_ with ef1_ ef2_ ef3_
       subst ef1_
       subst ef3_
       clear ef2_ hgr_ hgr2_ hgr3_
       obtain ⟨hsc_, hsf_, hsr_, hsg_⟩ := Ll.cell63 HQ.out hlt_ ((q4.s.length : Nat) : Int)
       clear hsr_ hsg_
       have hi0_ : (0 : Int) ≤ ((q1.g.length : Nat) : Int) := Int.natCast_nonneg _
       have hi1_ : ((q1.g.length : Nat) : Int) < ((q4.g.length : Nat) : Int) := Int.ofNat_lt.mpr hlt_
       refine start_ (n := 15) (S := fun w' => w'.cell? ⟨gb, 0, none⟩ = some (.slice A1_ q4.s.length c1_) ∧ w'.cell? ⟨gb, 1, none⟩ = some (.slice (some ⟨gr, 0, none⟩) q4.g.length c2_) ∧ w'.cell? ⟨gr, q1.g.length * 4 + 3, none⟩ = some (.int .i64 (rd_T63 q4.g (q1.g.length : Nat)).f3) ∧ w'.frozen? ⟨gr, q1.g.length * 4 + 3, none⟩ = false) (ds := [14]) (bs 15 0) kR rfl kR ⟨hbz0, hbz1, hsc_, hsf_⟩ (fun hHeld => ?_)
       have n0_ := Aside0.mk (blk_drew BX.out)
       have n1_ := Aside0.mk (Kd.R_drew HO.out)
       have n2_ := Aside0.mk (Kd.R_drew HQ.out)
       have n3_ := Aside0.mk HB.out.drew
       have n4_ : Aside0 (B ≤ (World.drew _).heap.size) := HS
       have n5_ := Aside0.mk (blk_drew BK.out)
       clear BX HO HQ HB HS hsc_ hsf_ hbz0 hbf0 hbz1 hbf1 hbz2 hbf2 BK hcz0 hfz0 hcz1 hfz1 hcz2 hfz2
       generalize hwd_ : World.drew _ = w3 at n0_ n1_ n2_ n3_ n4_ n5_ hHeld ⊢
       clear hwd_
       have BX := n0_
       have HO := n1_
       have HQ := n2_
       have HB := n3_
       have HS := n4_
       clear n0_ n1_ n2_ n3_ n4_
       have BK := n5_
       clear n5_
       refine pur_ 0 142 (bs 15 1) kR ?_
       refine pur_ 1 143 (bs 15 3) kR ?_
       refine pur_ 2 144 (bs 15 7) kR ?_
       refine pur_ 3 145 (bs 15 15) kR ?_
       refine pur_ 5 147 (bs 15 47) kR ?_
       refine pur_ 6 148 (bs 15 111) kR ?_
       refine pur_ 7 149 (bs 15 239) kR ?_
       refine pur_ 8 150 (bs 15 495) kR ?_
       refine pur_ 9 151 (bs 15 1007) kR ?_
       refine tak_ 4 146 (bs 15 1023) kR hHeld ?_
       refine tak_ 10 152 (bs 15 2047) kR hHeld ?_
       refine pur_ 11 153 (bs 15 4095) kR ?_
       refine pur_ 12 154 (bs 15 8191) kR ?_
       refine pur_ 13 155 (bs 15 16383) kR ?_
       refine last_ (i := 14) (N := none) (bs 15 32767) rfl rfl kR (by decide) (fun K hK => ?_)
       have hs0_ := hHeld.2.2.1
       have hs1_ := hHeld.2.2.2
       refine skip_ (w1 := World.setCell _ ⟨gr, q1.g.length * 4 + 3, none⟩ (.int .i64 ((q4.s.length : Nat) : Int))) (by rfl) rfl (by first | (go_simp; done) | (go_simp; rfl)) ?_
       refine hK.out _ _ ?_
       clear hK K
       refine done_ kR ?_
       obtain ⟨_, _, hsr_, hsg_⟩ := Ll.cell63 HQ.out HLT.out ((q4.s.length : Nat) : Int)
       have hle_ : B ≤ gr := Kd.R_base HQ.out gr rfl
       have n0_ := Aside0.mk (blk_grown (lK BX.out) hsg_ (Kd.R_ne HQ.out BX.out (by decide)))
       have n1_ := Aside0.mk (Kd.R_over HO.out HQ.out (by decide) hsg_)
       have n2_ := Aside0.mk hsr_
       have n3_ := Aside0.mk (HB.out.setCell (p := ⟨gr, q1.g.length * 4 + 3, none⟩) hle_ (.int .i64 ((q4.s.length : Nat) : Int)))
       have n4_ : Aside0 (B ≤ (World.setCell _ ⟨gr, q1.g.length * 4 + 3, none⟩ (.int .i64 ((q4.s.length : Nat) : Int))).heap.size) := ⟨Nat.le_trans HS.out hsg_.size⟩
       have n5_ := Aside0.mk (blk_grown (lK BK.out) hsg_ (Kd.R_ne HQ.out BK.out (by decide)))
       clear BX HO HQ HB HS hHeld hsr_ hsg_ BK
       generalize World.setCell _ ⟨gr, q1.g.length * 4 + 3, none⟩ (.int .i64 ((q4.s.length : Nat) : Int)) = w4 at n0_ n1_ n2_ n3_ n4_ n5_ ⊢
       have BX := n0_
       have HO := n1_
       have HQ_ := n2_
       have HB := n3_
       have HS := n4_
       have BK := n5_
       clear n5_
       clear n0_ n1_ n2_ n3_ n4_
       have BX : Aside0 (Ll.St 109 B gb _ q5 A1_ c1_ (some ⟨gr, 0, none⟩) c2_) := ⟨by unfold Ll.St; rw [es_, eg_, en_, List.length_set]; exact BX.out⟩
       have HQ : Aside0 (k63.R 63 _ B (fun _ => True) (.slice (some ⟨gr, 0, none⟩) q5.g.length c2_) q5.g) := ⟨by rw [eg_, List.length_set]; exact HQ_.out⟩
       have HO : Aside0 (k86.R 86 _ B (fun _ => True) (.slice A1_ q5.s.length c1_) q5.s) := ⟨by rw [es_]; exact HO.out⟩
       clear HQ_ es_ eg_ en_
       obtain ⟨hcz0, hfz0, hcz1, hfz1, hcz2, hfz2⟩ := bk3 BK.out; obtain ⟨hbz0, hbf0, hbz1, hbf1, hbz2, hbf2⟩ := bk3 BX.out
       have hk1 := HC1.out _ (HB0.out.trans HB.out)
       go_upto_region 23 with (first | (go_at_call 68; (with_reducible refine (HOK1.out _ _ _ _ _ _ _ (HB0.out.trans HB.out) BX.out HO.out HQ.out B6.out).mono ?_); rintro e w5 ⟨rfl, A1_, c1_, A2_, c2_, hbx_, ho_, hq_, hb_⟩; have n0_ := Aside0.mk (HB.out.trans hb_); have n1_ := Aside0.mk hbx_; have n2_ := Aside0.mk ho_; have n3_ := Aside0.mk hq_; have n4_ := Aside0.mk ((hb_.block g HG.out).trans BK.out); have n5_ := Aside0.mk (Nat.le_trans HS.out hb_.size); clear hk1 HB BX HO HQ BK HS hcz0 hfz0 hcz1 hfz1 hcz2 hfz2 hbz0 hbf0 hbz1 hbf1 hbz2 hbf2 hbx_ ho_ hq_ hb_; have HB := n0_; have BX := n1_; have HO := n2_; have HQ := n3_; have BK := n4_; have HS := n5_; clear n0_ n1_ n2_ n3_ n4_ n5_; obtain ⟨hcz0, hfz0, hcz1, hfz1, hcz2, hfz2⟩ := bk3 BK.out; obtain ⟨hbz0, hbf0, hbz1, hbf1, hbz2, hbf2⟩ := bk3 BX.out))
       go_upto_region 24 with (first | (go_at_call 87; (with_reducible refine (Ll.put_ok B7.out HGS.out HS.out BX.out HO.out HQ.out).mono ?_); rintro e w5 ⟨rfl, A1_, c1_, A2_, c2_, hbx_, ho_, hq_, hb_⟩; have n0_ := Aside0.mk (HB.out.trans hb_); have n1_ := Aside0.mk hbx_; have n2_ := Aside0.mk ho_; have n3_ := Aside0.mk hq_; have n4_ := Aside0.mk ((hb_.block g HG.out).trans BK.out); have n5_ := Aside0.mk (Nat.le_trans HS.out hb_.size); clear HB BX HO HQ BK HS hcz0 hfz0 hcz1 hfz1 hcz2 hfz2 hbz0 hbf0 hbz1 hbf1 hbz2 hbf2 hbx_ ho_ hq_ hb_; have HB := n0_; have BX := n1_; have HO := n2_; have HQ := n3_; have BK := n4_; have HS := n5_; clear n0_ n1_ n2_ n3_ n4_ n5_; obtain ⟨hcz0, hfz0, hcz1, hfz1, hcz2, hfz2⟩ := bk3 BK.out; obtain ⟨hbz0, hbf0, hbz1, hbf1, hbz2, hbf2⟩ := bk3 BX.out))
       obtain ⟨hlt_, es_, eg_, en_⟩ := Ll.setT_some B8.out
       have HLT := Aside0.mk hlt_
       obtain ⟨gr, cr, ef_, hgr_, hgr2_, hgr3_⟩ := Kd.R_form HO.out (Nat.lt_of_le_of_lt (Nat.zero_le _) hlt_)
       injection ef_ with ef1_ ef2_ ef3_
       subst ef1_
       subst ef3_
       clear ef2_ hgr_ hgr2_ hgr3_
       obtain ⟨hsc_, hsf_, hsr_, hsg_⟩ := Ll.cell86 HO.out hlt_ ((q7.s.length : Nat) : Int)
       clear hsr_ hsg_
       have hi0_ : (0 : Int) ≤ ((q3.s.length : Nat) : Int) := Int.natCast_nonneg _
       have hi1_ : ((q3.s.length : Nat) : Int) < ((q7.s.length : Nat) : Int) := Int.ofNat_lt.mpr hlt_
       refine start_ (n := 15) (S := fun w' => w'.cell? ⟨gb, 0, none⟩ = some (.slice (some ⟨gr, 0, none⟩) q7.s.length c1_) ∧ w'.cell? ⟨gb, 1, none⟩ = some (.slice A2_ q7.g.length c2_) ∧ w'.cell? ⟨gr, q3.s.length * 3 + 2, none⟩ = some (.int .i64 (rd_T86 q7.s (q3.s.length : Nat)).f2) ∧ w'.frozen? ⟨gr, q3.s.length * 3 + 2, none⟩ = false) (ds := [14]) (bs 15 0) kR rfl kR ⟨hbz0, hbz1, hsc_, hsf_⟩ (fun hHeld => ?_)
       have n0_ := Aside0.mk (blk_drew BX.out)
       have n1_ := Aside0.mk (Kd.R_drew HO.out)
       have n2_ := Aside0.mk (Kd.R_drew HQ.out)
       have n3_ := Aside0.mk HB.out.drew
       have n4_ : Aside0 (B ≤ (World.drew _).heap.size) := HS
       have n5_ := Aside0.mk (blk_drew BK.out)
       clear BX HO HQ HB HS hsc_ hsf_ hbz0 hbf0 hbz1 hbf1 hbz2 hbf2 BK hcz0 hfz0 hcz1 hfz1 hcz2 hfz2
       generalize hwd_ : World.drew _ = w3 at n0_ n1_ n2_ n3_ n4_ n5_ hHeld ⊢
       clear hwd_
       have BX := n0_
       have HO := n1_
       have HQ := n2_
       have HB := n3_
       have HS := n4_
       clear n0_ n1_ n2_ n3_ n4_
       have BK := n5_
       clear n5_
       refine pur_ 0 168 (bs 15 1) kR ?_
       refine pur_ 1 169 (bs 15 3) kR ?_
       refine pur_ 2 170 (bs 15 7) kR ?_
       refine pur_ 3 171 (bs 15 15) kR ?_
       refine pur_ 5 173 (bs 15 47) kR ?_
       refine pur_ 6 174 (bs 15 111) kR ?_
       refine pur_ 7 175 (bs 15 239) kR ?_
       refine pur_ 8 176 (bs 15 495) kR ?_
       refine pur_ 9 177 (bs 15 1007) kR ?_
       refine tak_ 4 172 (bs 15 1023) kR hHeld ?_
       refine tak_ 10 178 (bs 15 2047) kR hHeld ?_
       refine pur_ 11 179 (bs 15 4095) kR ?_
       refine pur_ 12 180 (bs 15 8191) kR ?_
       refine pur_ 13 181 (bs 15 16383) kR ?_
       refine last_ (i := 14) (N := none) (bs 15 32767) rfl rfl kR (by decide) (fun K hK => ?_)
       have hs0_ := hHeld.2.2.1
       have hs1_ := hHeld.2.2.2
       refine skip_ (w1 := World.setCell _ ⟨gr, q3.s.length * 3 + 2, none⟩ (.int .i64 ((q7.s.length : Nat) : Int))) (by rfl) rfl (by first | (go_simp; done) | (go_simp; rfl)) ?_
       refine hK.out _ _ ?_
       clear hK K
       refine done_ kR ?_
       obtain ⟨_, _, hsr_, hsg_⟩ := Ll.cell86 HO.out HLT.out ((q7.s.length : Nat) : Int)
       have hle_ : B ≤ gr := Kd.R_base HO.out gr rfl
       have n0_ := Aside0.mk (blk_grown (lK BX.out) hsg_ (Kd.R_ne HO.out BX.out (by decide)))
       have n1_ := Aside0.mk (Kd.R_over HQ.out HO.out (by decide) hsg_)
       have n2_ := Aside0.mk hsr_
       have n3_ := Aside0.mk (HB.out.setCell (p := ⟨gr, q3.s.length * 3 + 2, none⟩) hle_ (.int .i64 ((q7.s.length : Nat) : Int)))
       have n4_ : Aside0 (B ≤ (World.setCell _ ⟨gr, q3.s.length * 3 + 2, none⟩ (.int .i64 ((q7.s.length : Nat) : Int))).heap.size) := ⟨Nat.le_trans HS.out hsg_.size⟩
       have n5_ := Aside0.mk (blk_grown (lK BK.out) hsg_ (Kd.R_ne HO.out BK.out (by decide)))
       clear BX HO HQ HB HS hHeld hsr_ hsg_ BK
       generalize World.setCell _ ⟨gr, q3.s.length * 3 + 2, none⟩ (.int .i64 ((q7.s.length : Nat) : Int)) = w4 at n0_ n1_ n2_ n3_ n4_ n5_ ⊢
       have BX := n0_
       have HQ := n1_
       have HQ_ := n2_
       have HB := n3_
       have HS := n4_
       have BK := n5_
       clear n5_
       clear n0_ n1_ n2_ n3_ n4_
       have BX : Aside0 (Ll.St 109 B gb _ r (some ⟨gr, 0, none⟩) c1_ A2_ c2_) := ⟨by unfold Ll.St; rw [es_, eg_, en_, List.length_set]; exact BX.out⟩
       have HO : Aside0 (k86.R 86 _ B (fun _ => True) (.slice (some ⟨gr, 0, none⟩) r.s.length c1_) r.s) := ⟨by rw [es_, List.length_set]; exact HQ_.out⟩
       have HQ : Aside0 (k63.R 63 _ B (fun _ => True) (.slice A2_ r.g.length c2_) r.g) := ⟨by rw [eg_]; exact HQ.out⟩
       clear HQ_ es_ eg_ en_
       obtain ⟨hcz0, hfz0, hcz1, hfz1, hcz2, hfz2⟩ := bk3 BK.out; obtain ⟨hbz0, hbf0, hbz1, hbf1, hbz2, hbf2⟩ := bk3 BX.out
       go_wp2
       refine Ll.ret0 rfl rfl ?_
       exact ⟨rfl, _, _, _, _, BX.out, HO.out, HQ.out, HB.out⟩
      ·rw [if_neg k5] at h
       cases h
theorem impl_liner_lay.calls : ∀ (t : S72) (w0 : World) (B gb g : Nat), B ≤ gb → B ≤ w0.heap.size → Xn.In w0 0 (fun k => k < B) t g → Ll.Ok w0 B gb (Ll.lay t) g := by
 intro t
 induction hN : SizeOf.sizeOf t using Nat.strongRecOn generalizing t with
 | _ N ih =>
 subst hN
 intro w0 B gb g h1 h2 h
 obtain ⟨k, n, ks⟩ := t
 unfold Xn.In at h
 obtain ⟨⟨hg, _⟩, v, gl, hc, hR, hI⟩ := h
 obtain ⟨A, c, rfl⟩ := Kd.R_slice hR
 have e : Ll.lay ⟨k, n, ks⟩ = Ll.node k n (Ll.lays ks) := by funext q; unfold Ll.lay; rfl
 rw [e]
 refine Ll.node_ok (A := A) (m := gl.length) (c := c) ⟨hg, h1, h2, hc, fun i f hf => ?_⟩
 obtain ⟨t, ht, rfl⟩ := Ll.lays_at ks i f hf
 obtain ⟨gi, hgi, hin⟩ := hI.at_ i t ht
 have hil : i < gl.length := by
  by_cases hl : i < gl.length
  ·exact hl
  ·rw [List.getElem?_eq_none (by omega)] at hgi; cases hgi
 obtain ⟨hh, cap, he, _, _, hcl⟩ := Kd.R_form hR (by omega)
 injection he with he1 he2 he3
 subst he1
 have hcell := (Kd.R_celln 0 hR (i : Int) (by omega) (by omega)).1
 have hlt : hh < B := hR.1 hh (by simp [Value.ownBlock])
 refine ⟨gi, hh, rfl, hil, hlt, ?_, ih (SizeOf.sizeOf t) ?_ t rfl w0 B gb gi h1 h2 hin⟩
 ·rw [Int.toNat_natCast] at hcell
  rw [hcell]
  have e2 : rdOf 0 gl (i : Int) = gi := by unfold rdOf; rw [Int.toNat_natCast, List.getD, hgi]; rfl
  rw [e2]
  rfl
 ·have hm : t ∈ ks := List.mem_of_getElem? ht
  have := List.sizeOf_lt_of_mem hm
  simp
  omega


/-! ### impl_LineTree: function 36 -/
theorem Ll.res {fn : Func} {p u : Tmp} {ty : TypeId} (h : fn.results = #[.cell p ty, .tmp u]) (tmps : Array Value) (P : Program) (w : World) (g : Nat) (cs : Array Value)
    (hp : tmps.getD p undef = .pointer (some ⟨g, 0, none⟩)) (hl : (loadVar ty ⟨g, 0, none⟩).run P w = .ok (.agg cs) w) :
    (results fn tmps).run P w = .ok (.tuple #[.agg cs, tmps.getD u undef]) w := by
  have hp' : tmps[p]?.getD undef = .pointer (some ⟨g, 0, none⟩) := by simpa using hp
  rw [results_cell_tmp h]
  simp [hp', asAddr, hl]
theorem Ll.info38 : (Try.prog.info? 38).map (·.size) = some 2 := by kernel_rfl
def impl_LineTree.f (k : Nat) (l : List S76) : Option (List S86 × List S63 × Bool) := (impl_parseTree.f l).bind fun r => if r.2 = true then (match r.1 with
  | none => none
  | some t => (Ll.lay t ⟨[], [], 20⟩).bind fun q => (impl_isLined.f k q.s q.g).bind fun b => if b = true then some (q.s, q.g, true) else some ([], [], false)) else some ([], [], false)
theorem impl_LineTree.mono : ∀ a0 k, LeO (impl_LineTree.f k a0) (impl_LineTree.f (k + 1) a0) := by
 intro a0 k
 unfold impl_LineTree.f
 refine LeO.bind (LeO.refl _) (fun r => ?_)
 split
 ·split
  ·exact LeO.refl _
  ·refine LeO.bind (LeO.refl _) (fun q => ?_)
   exact LeO.bind (impl_isLined.mono _ _ _) (fun _ => LeO.refl _)
 ·exact LeO.refl _
set_option maxHeartbeats 8000000 in
set_option maxRecDepth 100000 in
theorem impl_LineTree.calls (k : Nat) (A0 : Option Addr) (c0 : Nat) (l0 : List S76) (r1 : List S86) (r2 : List S63) (r3 : Bool) (w : World) (hr0 : Kd.C k76 w A0 l0.length l0) (hc0 : l0.length ≤ c0) (h : impl_LineTree.f k l0 = some (r1, r2, r3)) :
  Calls Try.prog 36 #[.slice A0 l0.length c0] w fun e w' => ∃ v0_ v1_ : Value, e = .returned (.tuple #[.agg #[v0_, v1_], .bool r3]) ∧ Kd.R k86 86 w' w.heap.size (fun _ => True) v0_ r1 ∧ Kd.R k63 63 w' w.heap.size (fun _ => True) v1_ r2 ∧ Below w.heap.size w w' := by
 unfold impl_LineTree.f at h
 have hu38 := Try.underlying38
 have hu109 := Try.underlying109
 have hu35 := Try.underlying35
 have hu36 := Try.underlying36
 have HR0 := Aside0.mk hr0
 have HC0 := Aside0.mk hc0
 clear hr0 hc0
 replace h := lO h
 obtain ⟨⟨ro, rb⟩, A1, h⟩ := h
 cases rb with
 | false =>
  rw [if_neg (by simp)] at h
  simp only [Option.some.injEq, Prod.mk.injEq] at h
  obtain ⟨rfl, rfl, rfl⟩ := h
  go_enter Try.func36, Try.ntmps36
  go_upto_region 1 with (fail)
  have n0_ : Aside0 ((w.alloc (Obj.cells #[Value.slice none 0 0, Value.slice none 0 0] 38)).heap[w.heap.size]? = some (Obj.cells #[Value.slice none 0 0, Value.slice none 0 0] 38)) := ⟨blk_new w _⟩
  have n1_ := Aside0.mk (below_alloc (Below.refl w.heap.size w) (Obj.cells #[Value.slice none 0 0, Value.slice none 0 0] 38))
  have n2_ := Aside0.mk (Kd.C_alloc HR0.out (Obj.cells #[Value.slice none 0 0, Value.slice none 0 0] 38))
  have HGR := Aside0.mk (Nat.le_refl w.heap.size)
  generalize w.alloc (Obj.cells #[Value.slice none 0 0, Value.slice none 0 0] 38) = w1 at n0_ n1_ n2_ ⊢
  generalize hgr_ : w.heap.size = gr at n0_ ⊢
  have HGR : Aside0 (w.heap.size ≤ gr) := ⟨Nat.le_of_eq hgr_⟩
  clear hgr_ HR0
  have BR := n0_
  have HB := n1_
  have HR0 := n2_
  clear n0_ n1_ n2_
  obtain ⟨hrz0, hrf0, hrz1, hrf1⟩ := bk2 BR.out
  go_wp2_with (first | (go_at_call 46; (with_reducible refine (impl_parseTree.calls _ _ l0 (ro, false) _ (lC HR0.out) HC0.out A1.out).mono ?_); rintro e w5 ⟨p, rfl, hopt, hb⟩; clear hopt; have n0_ := Aside0.mk (below_step HB.out hb); have n1_ := Aside0.mk (blk_below BR.out hb); clear HB BR hrz0 hrf0 hrz1 hrf1; have HB := n0_; have BR := n1_; clear n0_ n1_ hb; obtain ⟨hrz0, hrf0, hrz1, hrf1⟩ := bk2 BR.out))
  refine bodyPost_ret (Ll.res rfl _ _ _ gr #[.slice none 0 0, .slice none 0 0] rfl (run_loadVar_row _ gr 38 38 #[.slice none 0 0, .slice none 0 0] (0, 0) _ (blk_put (cs := #[.slice none 0 0, .slice none 0 0]) (blk_put (cs := #[.slice none 0 0, .slice none 0 0]) BR.out 0 _ rfl) 1 _ rfl) hu38 rfl Ll.info38)) rfl ?_
  exact ⟨_, _, rfl, Kd.R_nil _ _ _ _ _, Kd.R_nil _ _ _ _ _, below_set (below_set HB.out HGR.out) HGR.out⟩
 | true =>
  rw [if_pos rfl] at h
  cases ro with
  | none => cases h
  | some t =>
   simp only at h
   replace h := lO h
   obtain ⟨q, A2, h⟩ := h
   replace h := lO h
   obtain ⟨b, A3, h⟩ := h
   go_enter Try.func36, Try.ntmps36
   go_upto_region 1 with (fail)
   have n0_ : Aside0 ((w.alloc (Obj.cells #[Value.slice none 0 0, Value.slice none 0 0] 38)).heap[w.heap.size]? = some (Obj.cells #[Value.slice none 0 0, Value.slice none 0 0] 38)) := ⟨blk_new w _⟩
   have n1_ := Aside0.mk (below_alloc (Below.refl w.heap.size w) (Obj.cells #[Value.slice none 0 0, Value.slice none 0 0] 38))
   have n2_ := Aside0.mk (Kd.C_alloc HR0.out (Obj.cells #[Value.slice none 0 0, Value.slice none 0 0] 38))
   have HGR := Aside0.mk (Nat.le_refl w.heap.size)
   generalize w.alloc (Obj.cells #[Value.slice none 0 0, Value.slice none 0 0] 38) = w1 at n0_ n1_ n2_ ⊢
   generalize hgr_ : w.heap.size = gr at n0_ ⊢
   have HGR : Aside0 (w.heap.size ≤ gr) := ⟨Nat.le_of_eq hgr_⟩
   clear hgr_ HR0
   have BR := n0_
   have HB := n1_
   have HR0 := n2_
   clear n0_ n1_ n2_
   obtain ⟨hrz0, hrf0, hrz1, hrf1⟩ := bk2 BR.out
   go_upto_region 4 with (first | (go_at_call 46; (with_reducible refine (impl_parseTree.calls _ _ l0 (some t, true) _ (lC HR0.out) HC0.out A1.out).mono ?_); rintro e w5 ⟨p, rfl, ⟨g, rfl, hin1⟩, hb⟩; have n0_ := Aside0.mk (below_step HB.out hb); have n1_ := Aside0.mk hin1; have n2_ := Aside0.mk (blk_below BR.out hb); clear HB BR hrz0 hrf0 hrz1 hrf1; have HB := n0_; have HI := n1_; have BR := n2_; clear n0_ n1_ n2_ hb hin1))
   go_upto_region 5 with (first | ((with_reducible refine gate_dst (N := 16) rfl ?_); refine bxe 16 #[.slice none 0 0, .slice none 0 0, .int .i64 20] 109 ?_; intro gb hg w7 hbox hb; subst hg; have n0_ := Aside0.mk hbox; have n1_ := Aside0.mk hb; clear hbox hb; have BX := n0_; have HX := n1_; clear n0_ n1_))
   have HWB := Aside0.mk (below_size HB.out)
   have hOk := impl_liner_lay.calls t w7 w5.heap.size w5.heap.size g (Nat.le_refl _) HX.out.size (HI.out.move (S1 := fun k => k < w5.heap.size) (fun k hk _ => HX.out.block k hk) (fun _ hk _ => hk) (Nat.zero_le _))
   have HOK := Aside0.mk (hOk w7 none 0 none 0 ⟨[], [], 20⟩ q (Below.refl _ _) BX.out (Kd.R_nil _ _ _ _ _) (Kd.R_nil _ _ _ _ _) A2.out)
   clear hOk
   go_upto_region 6 with (first | (go_at_call 68; (with_reducible refine HOK.out.mono ?_); rintro e w8 ⟨rfl, A1_, c1_, A2_, c2_, hbx_, ho_, hq_, hb_⟩; have n0_ := Aside0.mk hbx_; have n1_ := Aside0.mk ho_; have n2_ := Aside0.mk hq_; have n3_ : Aside0 (Below w.heap.size w w8) := ⟨HB.out.trans ((HX.out.trans hb_).mono HWB.out)⟩; have n4_ := Aside0.mk (((HX.out.trans hb_).block gr (blk_lt BR.out)).trans BR.out); clear BX HX HB BR HI hbx_ ho_ hq_ hb_; have BX := n0_; have HO := n1_; have HQ := n2_; have HB := n3_; have BR := n4_; clear n0_ n1_ n2_ n3_ n4_; obtain ⟨hrz0, hrf0, hrz1, hrf1⟩ := bk2 BR.out; obtain ⟨hbz0, hbf0, hbz1, hbf1, hbz2, hbf2⟩ := bk3 BX.out))
   have HS8 := Aside0.mk ((Kd.R_reads' HO.out).2)
   have HG8 := Aside0.mk ((Kd.R_reads' HQ.out).2)
   cases b with
   | false =>
    rw [if_neg (by simp)] at h
    simp only [Option.some.injEq, Prod.mk.injEq] at h
    obtain ⟨rfl, rfl, rfl⟩ := h
    go_wp2_with (first | (go_at_call 54; (with_reducible refine (impl_isLined.calls k _ _ q.s _ _ q.g _ _ HS8.out.2 HS8.out.1 HG8.out.2 HG8.out.1 A3.out).mono ?_); rintro e w9 ⟨rfl, hb⟩; have n0_ := Aside0.mk (below_step HB.out hb); have n1_ := Aside0.mk (blk_below BR.out hb); have n2_ := Aside0.mk (blk_below BX.out hb); have n3_ := Aside0.mk (Kd.R_below HO.out hb); have n4_ := Aside0.mk (Kd.R_below HQ.out hb); clear HB BR BX HO HQ HS8 HG8 hrz0 hrf0 hrz1 hrf1 hbz0 hbf0 hbz1 hbf1 hbz2 hbf2 hb; have HB := n0_; have BR := n1_; have BX := n2_; have HO := n3_; have HQ := n4_; clear n0_ n1_ n2_ n3_ n4_; obtain ⟨hrz0, hrf0, hrz1, hrf1⟩ := bk2 BR.out; obtain ⟨hbz0, hbf0, hbz1, hbf1, hbz2, hbf2⟩ := bk3 BX.out))
    refine bodyPost_ret (Ll.res rfl _ _ _ gr #[.slice none 0 0, .slice none 0 0] rfl (run_loadVar_row _ gr 38 38 #[.slice none 0 0, .slice none 0 0] (0, 0) _ (blk_put (cs := #[.slice none 0 0, .slice none 0 0]) (blk_put (cs := #[.slice none 0 0, .slice none 0 0]) BR.out 0 _ rfl) 1 _ rfl) hu38 rfl Ll.info38)) rfl ?_
    exact ⟨_, _, rfl, Kd.R_nil _ _ _ _ _, Kd.R_nil _ _ _ _ _, below_set (below_set HB.out HGR.out) HGR.out⟩
   | true =>
    rw [if_pos rfl] at h
    simp only [Option.some.injEq, Prod.mk.injEq] at h
    obtain ⟨rfl, rfl, rfl⟩ := h
    go_wp2_with (first | (go_at_call 54; (with_reducible refine (impl_isLined.calls k _ _ q.s _ _ q.g _ _ HS8.out.2 HS8.out.1 HG8.out.2 HG8.out.1 A3.out).mono ?_); rintro e w9 ⟨rfl, hb⟩; have n0_ := Aside0.mk (below_step HB.out hb); have n1_ := Aside0.mk (blk_below BR.out hb); have n2_ := Aside0.mk (blk_below BX.out hb); have n3_ := Aside0.mk (Kd.R_below HO.out hb); have n4_ := Aside0.mk (Kd.R_below HQ.out hb); clear HB BR BX HO HQ HS8 HG8 hrz0 hrf0 hrz1 hrf1 hbz0 hbf0 hbz1 hbf1 hbz2 hbf2 hb; have HB := n0_; have BR := n1_; have BX := n2_; have HO := n3_; have HQ := n4_; clear n0_ n1_ n2_ n3_ n4_; obtain ⟨hrz0, hrf0, hrz1, hrf1⟩ := bk2 BR.out; obtain ⟨hbz0, hbf0, hbz1, hbf1, hbz2, hbf2⟩ := bk3 BX.out))
    have n0_ := Aside0.mk (Kd.R_set HO.out BR.out (by decide) 0 (.slice A1_ q.s.length c1_))
    have n1_ := Aside0.mk (Kd.R_set HQ.out BR.out (by decide) 0 (.slice A1_ q.s.length c1_))
    have BR2 := Aside0.mk (blk_put (cs := #[.slice none 0 0, .slice none 0 0]) BR.out 0 (.slice A1_ q.s.length c1_) rfl)
    have n2_ := Aside0.mk (Kd.R_set n0_.out BR2.out (by decide) 1 (.slice A2_ q.g.length c2_))
    have n3_ := Aside0.mk (Kd.R_set n1_.out BR2.out (by decide) 1 (.slice A2_ q.g.length c2_))
    refine bodyPost_ret (Ll.res rfl _ _ _ gr #[.slice A1_ q.s.length c1_, .slice A2_ q.g.length c2_] rfl (run_loadVar_row _ gr 38 38 #[.slice A1_ q.s.length c1_, .slice A2_ q.g.length c2_] (0, 0) _ (blk_put (cs := #[.slice A1_ q.s.length c1_, .slice none 0 0]) BR2.out 1 _ rfl) hu38 rfl Ll.info38)) rfl ?_
    exact ⟨_, _, rfl, Kd.R_lower n2_.out HWB.out, Kd.R_lower n3_.out HWB.out, below_set (below_set HB.out HGR.out) HGR.out⟩


end Go.Proofs.Ytgjojppbichaiaa.Q
