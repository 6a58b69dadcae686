-- Written by the program wip/tools/pr.py of this claim's session, over the kit's print.py.
import Derived.Test.YtgjojppbichaiaaQx0
import Derived.Test.YtgjojppbichaiaaQx3
import Derived.Test.YtgjojppbichaiaaQx4
import Derived.Test.YtgjojppbichaiaaQx14
namespace Go.Proofs.Ytgjojppbichaiaa.Q
open Go.RowKit Go.Proofs.YtgjojppbichaiaaW.PrintWords Go.Proofs.YtgjojppbichaiaaW.PrintLast Go.Proofs.YtgjojppbichaiaaW.PrintMore
attribute [local go_sem] max2_int min2_int max_two min_two max_three min_three max_four min_four   -- for this text's walks alone
set_option linter.unusedVariables false
set_option linter.unusedSimpArgs false
theorem Ll.ret0 {P : Program} {fn : Func} {R : Ending → World → Prop} {a : Act} {w : World} (hr : fn.results = #[]) (hd : a.defers = []) (hR : R (.returned (.tuple #[])) w) : bodyPost P fn R .normal a w :=
  bodyPost_end (results_none hr _ _ _) hd hR
def Ll.put (x : S86) (q : Ll.Q) : Option Ll.Q := if q.s.length < 1000000000000 then some ⟨q.s ++ [x], q.g, q.n⟩ else none
def Ll.grd (x : S63) (q : Ll.Q) : Option Ll.Q := if q.g.length < 1000000000000 then some ⟨q.s, q.g ++ [x], q.n⟩ else none
def Ll.setT (i : Nat) (t : Int) (q : Ll.Q) : Option Ll.Q := if i < q.s.length then some ⟨q.s.set i ⟨(rd_T86 q.s i).f0, (rd_T86 q.s i).f1, t⟩, q.g, q.n⟩ else none
def Ll.setA (i : Nat) (t : Int) (q : Ll.Q) : Option Ll.Q := if i < q.g.length then some ⟨q.s, q.g.set i ⟨(rd_T63 q.g i).f0, (rd_T63 q.g i).f1, (rd_T63 q.g i).f2, t⟩, q.n⟩ else none
abbrev Ll.F := Ll.Q → Option Ll.Q
def Ll.PostV (T B gb : Nat) (w : World) (r : Ll.Q) (e : Ending) (w' : World) : Prop := e = .returned (.tuple #[]) ∧ Ll.Post T B gb w r.s r.g r.n w'
theorem Ll.cell86 {w : World} {B g c : Nat} {S : List S86} (h : k86.R 86 w B (fun _ => True) (.slice (some ⟨g, 0, none⟩) S.length c) S) {i : Nat} (hi : i < S.length) (t : Int) :
  w.cell? ⟨g, i * 3 + 2, none⟩ = some (.int .i64 (rd_T86 S i).f2) ∧ w.frozen? ⟨g, i * 3 + 2, none⟩ = false ∧ k86.R 86 (w.setCell ⟨g, i * 3 + 2, none⟩ (.int .i64 t)) B (fun _ => True) (.slice (some ⟨g, 0, none⟩) S.length c) (S.set i ⟨(rd_T86 S i).f0, (rd_T86 S i).f1, t⟩) ∧ w.grownBy (w.setCell ⟨g, i * 3 + 2, none⟩ (.int .i64 t)) (some g) := by
  obtain ⟨cs, hl, hM, hcc, hf⟩ := Kd.R_elem h z86 (i : Int) (by omega) (by omega)
  have hM' := k86_openM hM
  have e : (S.getD (i : Int).toNat z86) = rd_T86 S (i : Int) := rfl
  rw [e] at hM'
  subst hM'
  have h1 := hcc 2 _ rfl
  have h2 := hf 2
  obtain ⟨h3, h4⟩ := Kd.R_seg (x' := ⟨(rd_T86 S (i : Int)).f0, (rd_T86 S (i : Int)).f1, t⟩) (okp := fun _ => False) h (i : Int) (by omega) (by omega) hl hcc (seg := [.int .i64 t]) (j := 2) (by show 2 + 1 ≤ 3; decide) (k86_mkM _ _ _ ⟨(rd_T86 S (i : Int)).f0, (rd_T86 S (i : Int)).f1, t⟩) (fun _ hk => hk.elim)
  rw [Int.toNat_natCast] at h1 h2 h3 h4
  exact ⟨h1, h2, h3, h4⟩
theorem Ll.cell63 {w : World} {B g c : Nat} {S : List S63} (h : k63.R 63 w B (fun _ => True) (.slice (some ⟨g, 0, none⟩) S.length c) S) {i : Nat} (hi : i < S.length) (t : Int) :
  w.cell? ⟨g, i * 4 + 3, none⟩ = some (.int .i64 (rd_T63 S i).f3) ∧ w.frozen? ⟨g, i * 4 + 3, none⟩ = false ∧ k63.R 63 (w.setCell ⟨g, i * 4 + 3, none⟩ (.int .i64 t)) B (fun _ => True) (.slice (some ⟨g, 0, none⟩) S.length c) (S.set i ⟨(rd_T63 S i).f0, (rd_T63 S i).f1, (rd_T63 S i).f2, t⟩) ∧ w.grownBy (w.setCell ⟨g, i * 4 + 3, none⟩ (.int .i64 t)) (some g) := by
  obtain ⟨cs, hl, hM, hcc, hf⟩ := Kd.R_elem h z63 (i : Int) (by omega) (by omega)
  have hM' := k63_openM hM
  have e : (S.getD (i : Int).toNat z63) = rd_T63 S (i : Int) := rfl
  rw [e] at hM'
  subst hM'
  have h1 := hcc 3 _ rfl
  have h2 := hf 3
  obtain ⟨h3, h4⟩ := Kd.R_seg (x' := ⟨(rd_T63 S (i : Int)).f0, (rd_T63 S (i : Int)).f1, (rd_T63 S (i : Int)).f2, t⟩) (okp := fun _ => False) h (i : Int) (by omega) (by omega) hl hcc (seg := [.int .i64 t]) (j := 3) (by show 3 + 1 ≤ 4; decide) (k63_mkM _ _ _ ⟨(rd_T63 S (i : Int)).f0, (rd_T63 S (i : Int)).f1, (rd_T63 S (i : Int)).f2, t⟩) (fun _ hk => hk.elim)
  rw [Int.toNat_natCast] at h1 h2 h3 h4
  exact ⟨h1, h2, h3, h4⟩
theorem Ll.setT_some {i : Nat} {t : Int} {q r : Ll.Q} (h : Ll.setT i t q = some r) : i < q.s.length ∧ r.s = q.s.set i ⟨(rd_T86 q.s i).f0, (rd_T86 q.s i).f1, t⟩ ∧ r.g = q.g ∧ r.n = q.n := by
  unfold Ll.setT at h
  split at h
  · rename_i hl
    obtain rfl := Option.some.inj h
    exact ⟨hl, rfl, rfl, rfl⟩
  · cases h
theorem Ll.setA_some {i : Nat} {t : Int} {q r : Ll.Q} (h : Ll.setA i t q = some r) : i < q.g.length ∧ r.s = q.s ∧ r.g = q.g.set i ⟨(rd_T63 q.g i).f0, (rd_T63 q.g i).f1, (rd_T63 q.g i).f2, t⟩ ∧ r.n = q.n := by
  unfold Ll.setA at h
  split at h
  · rename_i hl
    obtain rfl := Option.some.inj h
    exact ⟨hl, rfl, rfl, rfl⟩
  · cases h
def Ll.node (k n : Int) (fs : List Ll.F) (q : Ll.Q) : Option Ll.Q :=
  if k = 1 then Ll.put ⟨1, n, 0⟩ q
  else if k = 2 then Ll.put ⟨2, n, 0⟩ q
  else match fs[0]? with
    | none => none
    | some f => if k = 6 then (if q.n < 1000000000000 ∧ -1000000000000 < q.n then (Ll.put ⟨5, q.n, 0⟩ ⟨q.s, q.g, q.n + 1⟩).bind fun q1 => (Ll.put ⟨6, q.n, n⟩ q1).bind fun q2 => (Ll.put ⟨4, 0, 0⟩ q2).bind fun q3 => (f q3).bind fun q4 => (Ll.put ⟨4, 0, (q1.s.length : Nat)⟩ q4).bind fun q5 => Ll.setT q2.s.length (q5.s.length : Nat) q5 else none)
      else (f q).bind fun q1 => match fs[1]? with
        | none => none
        | some f1 => if k = 3 then f1 q1
          else if k = 4 then (Ll.grd ⟨(q.s.length : Nat), (q1.s.length : Nat), n, 0⟩ q1).bind fun q2 => (Ll.put ⟨4, 0, 0⟩ q2).bind fun q3 => (Ll.setA q1.g.length (q3.s.length : Nat) q3).bind fun q4 => (f1 q4).bind fun q5 => Ll.setT q2.s.length (q5.s.length : Nat) q5
          else if k = 5 then (Ll.grd ⟨(q.s.length : Nat), (q1.s.length : Nat), 0, 0⟩ q1).bind fun q2 => (f1 q2).bind fun q3 => (Ll.put ⟨4, 0, 0⟩ q3).bind fun q4 => (Ll.setA q1.g.length (q4.s.length : Nat) q4).bind fun q5 => (f1 q5).bind fun q6 => (Ll.put ⟨3, (q1.g.length : Nat), 0⟩ q6).bind fun q7 => Ll.setT q3.s.length (q7.s.length : Nat) q7
          else none
mutual
/-- A tree is laid behind a line. -/
def Ll.lay : S72 → Ll.F
  | ⟨k, n, ts⟩, q => Ll.node k n (Ll.lays ts) q
def Ll.lays : List S72 → List Ll.F
  | [] => []
  | t :: ts => Ll.lay t :: Ll.lays ts
end
theorem Ll.lays_at : ∀ (ts : List S72) (i : Nat) (f : Ll.F), (Ll.lays ts)[i]? = some f → ∃ t, ts[i]? = some t ∧ f = Ll.lay t
  | [], i, f, h => by simp [Ll.lays] at h
  | t :: ts, 0, f, h => by
    simp only [Ll.lays, List.getElem?_cons_zero, Option.some.injEq] at h
    exact ⟨t, rfl, h.symm⟩
  | t :: ts, i + 1, f, h => by
    simp only [Ll.lays, List.getElem?_cons_succ] at h ⊢
    exact Ll.lays_at ts i f h
abbrev Ll.St (T B gb : Nat) (w : World) (q : Ll.Q) (A1 : Option Addr) (c1 : Nat) (A2 : Option Addr) (c2 : Nat) : Prop := w.heap[gb]? = some (.cells #[.slice A1 q.s.length c1, .slice A2 q.g.length c2, .int .i64 q.n] T (0, 0))
abbrev Ll.Ok (w0 : World) (B gb : Nat) (f : Ll.F) (g : Nat) : Prop :=
  ∀ (w : World) (A1 : Option Addr) (c1 : Nat) (A2 : Option Addr) (c2 : Nat) (q r : Ll.Q), Below B w0 w → Ll.St 109 B gb w q A1 c1 A2 c2 → k86.R 86 w B (fun _ => True) (.slice A1 q.s.length c1) q.s → k63.R 63 w B (fun _ => True) (.slice A2 q.g.length c2) q.g → f q = some r →
    Calls Try.prog 68 #[.pointer (some ⟨gb, 0, none⟩), .pointer (some ⟨g, 0, none⟩)] w (Ll.PostV 109 B gb w r)
structure Ll.Nd (w0 : World) (B gb g : Nat) (k n : Int) (A : Option Addr) (m c : Nat) (fs : List Ll.F) : Prop where
  gB : g < B
  hB : B ≤ gb
  w0B : B ≤ w0.heap.size
  cell : w0.heap[g]? = some (.cells #[.int .i64 k, .int .i64 n, .slice A m c] 135 (0, 0))
  kid : ∀ i f, fs[i]? = some f → ∃ gi h, A = some ⟨h, 0, none⟩ ∧ i < m ∧ h < B ∧ w0.cell? ⟨h, i, none⟩ = some (.pointer (some ⟨gi, 0, none⟩)) ∧ Ll.Ok w0 B gb f gi
theorem Ll.kids0 {w0 : World} {B gb g : Nat} {k n : Int} {A : Option Addr} {m c : Nat} {fs : List Ll.F} (hN : Ll.Nd w0 B gb g k n A m c fs) {i : Nat} {f : Ll.F} (hf : fs[i]? = some f) : ∃ gi h, A = some ⟨h, 0, none⟩ ∧ i < m ∧ (∀ w, Below B w0 w → w.cell? ⟨h, i, none⟩ = some (.pointer (some ⟨gi, 0, none⟩))) ∧ Ll.Ok w0 B gb f gi := by
  obtain ⟨gi, h, h1, h2, h3, h4, h5⟩ := hN.kid i f hf
  exact ⟨gi, h, h1, h2, fun w hw => (hw.cell (p := ⟨h, i, none⟩) h3).trans h4, h5⟩
theorem Ll.put_ok {w : World} {B gb : Nat} {A1 A2 : Option Addr} {c1 c2 : Nat} {x : S86} {q r : Ll.Q} (h : Ll.put x q = some r) (hgb : B ≤ gb) (hBw : B ≤ w.heap.size) (hbx : Ll.St 109 B gb w q A1 c1 A2 c2) (hS : k86.R 86 w B (fun _ => True) (.slice A1 q.s.length c1) q.s) (hG : k63.R 63 w B (fun _ => True) (.slice A2 q.g.length c2) q.g) :
  Calls Try.prog 87 #[.pointer (some ⟨gb, 0, none⟩), .agg #[.int .i64 x.f0, .int .i64 x.f1, .int .i64 x.f2]] w (Ll.PostI 109 B gb w r.s r.g r.n q.s.length) := by
  unfold Ll.put at h
  split at h
  · rename_i hl
    obtain rfl := Option.some.inj h
    exact impl_liner_put.calls w B gb q.s q.g q.n x hgb hBw hbx hS hG hl
  · cases h
theorem Ll.grd_ok {w : World} {B gb : Nat} {A1 A2 : Option Addr} {c1 c2 : Nat} {f kd : Int} {q r : Ll.Q} (h : Ll.grd ⟨f, (q.s.length : Nat), kd, 0⟩ q = some r) (hgb : B ≤ gb) (hBw : B ≤ w.heap.size) (hbx : Ll.St 109 B gb w q A1 c1 A2 c2) (hS : k86.R 86 w B (fun _ => True) (.slice A1 q.s.length c1) q.s) (hG : k63.R 63 w B (fun _ => True) (.slice A2 q.g.length c2) q.g) :
  Calls Try.prog 88 #[.pointer (some ⟨gb, 0, none⟩), .int .i64 f, .int .i64 kd] w (Ll.PostI 109 B gb w r.s r.g r.n q.g.length) := by
  unfold Ll.grd at h
  split at h
  · rename_i hl
    obtain rfl := Option.some.inj h
    exact impl_liner_guard.calls w B gb q.s q.g q.n f kd hgb hBw hbx hS hG hl
  · cases h
structure Ll.I (B gb g : Nat) (cs : Array Value) (w W : World) (q : Ll.Q) (A1 : Option Addr) (c1 : Nat) (A2 : Option Addr) (c2 : Nat) : Prop where
  bx : Ll.St 109 B gb W q A1 c1 A2 c2
  ho : k86.R 86 W B (fun _ => True) (.slice A1 q.s.length c1) q.s
  hq : k63.R 63 W B (fun _ => True) (.slice A2 q.g.length c2) q.g
  hb : Below B w W
  hs : B ≤ W.heap.size
  bk : W.heap[g]? = some (.cells cs 135 (0, 0))
section
variable {w W w6 : World} {B gb g c1 c2 : Nat} {cs : Array Value} {q r : Ll.Q} {A1 A2 : Option Addr}
theorem Ll.I.drew (h : Ll.I B gb g cs w W q A1 c1 A2 c2) : Ll.I B gb g cs w W.drew q A1 c1 A2 c2 :=
  ⟨blk_drew h.bx, Kd.R_drew h.ho, Kd.R_drew h.hq, h.hb.drew, h.hs, blk_drew h.bk⟩
theorem Ll.I.post (h : Ll.I B gb g cs w W q A1 c1 A2 c2) (hg : g < B) (hp : Ll.Post 109 B gb W r.s r.g r.n w6) : ∃ A1 c1 A2 c2, Ll.I B gb g cs w w6 r A1 c1 A2 c2 := by
  obtain ⟨A1, c1, A2, c2, h1, h2, h3, h4⟩ := hp
  exact ⟨A1, c1, A2, c2, h1, h2, h3, h.hb.trans h4, Nat.le_trans h.hs h4.size, (h4.block g hg).trans h.bk⟩
theorem Ll.I.formT {i : Nat} (h : Ll.I B gb g cs w W q A1 c1 A2 c2) (hi : i < q.s.length) : ∃ g, A1 = some ⟨g, 0, none⟩ ∧ W.cell? ⟨g, i * 3 + 2, none⟩ = some (.int .i64 (rd_T86 q.s i).f2) ∧ W.frozen? ⟨g, i * 3 + 2, none⟩ = false := by
  obtain ⟨g, c, e, _, _, _⟩ := Kd.R_form h.ho (Nat.lt_of_le_of_lt (Nat.zero_le _) hi)
  injection e with e1 e2 e3
  subst e1
  obtain ⟨h1, h2, _, _⟩ := Ll.cell86 h.ho hi 0
  exact ⟨g, rfl, h1, h2⟩
theorem Ll.I.formA {i : Nat} (h : Ll.I B gb g cs w W q A1 c1 A2 c2) (hi : i < q.g.length) : ∃ g, A2 = some ⟨g, 0, none⟩ ∧ W.cell? ⟨g, i * 4 + 3, none⟩ = some (.int .i64 (rd_T63 q.g i).f3) ∧ W.frozen? ⟨g, i * 4 + 3, none⟩ = false := by
  obtain ⟨g, c, e, _, _, _⟩ := Kd.R_form h.hq (Nat.lt_of_le_of_lt (Nat.zero_le _) hi)
  injection e with e1 e2 e3
  subst e1
  obtain ⟨h1, h2, _, _⟩ := Ll.cell63 h.hq hi 0
  exact ⟨g, rfl, h1, h2⟩
theorem Ll.I.setT {i gr : Nat} {t : Int} (h : Ll.I B gb g cs w W q (some ⟨gr, 0, none⟩) c1 A2 c2) (hs : Ll.setT i t q = some r) : Ll.I B gb g cs w (W.setCell ⟨gr, i * 3 + 2, none⟩ (.int .i64 t)) r (some ⟨gr, 0, none⟩) c1 A2 c2 := by
  obtain ⟨hi, es, eg, en⟩ := Ll.setT_some hs
  obtain ⟨_, _, hr, hg⟩ := Ll.cell86 h.ho hi t
  refine ⟨?_, ?_, ?_, h.hb.setCell (p := ⟨gr, i * 3 + 2, none⟩) (Kd.R_base h.ho gr rfl) _, Nat.le_trans h.hs hg.size, blk_grown h.bk hg (Kd.R_ne h.ho h.bk (by decide))⟩
  · unfold Ll.St; rw [es, eg, en, List.length_set]; exact blk_grown h.bx hg (Kd.R_ne h.ho h.bx (by decide))
  · rw [es, List.length_set]; exact hr
  · rw [eg]; exact Kd.R_over h.hq h.ho (by decide) hg
theorem Ll.I.setA {i gr : Nat} {t : Int} (h : Ll.I B gb g cs w W q A1 c1 (some ⟨gr, 0, none⟩) c2) (hs : Ll.setA i t q = some r) : Ll.I B gb g cs w (W.setCell ⟨gr, i * 4 + 3, none⟩ (.int .i64 t)) r A1 c1 (some ⟨gr, 0, none⟩) c2 := by
  obtain ⟨hi, es, eg, en⟩ := Ll.setA_some hs
  obtain ⟨_, _, hr, hg⟩ := Ll.cell63 h.hq hi t
  refine ⟨?_, ?_, ?_, h.hb.setCell (p := ⟨gr, i * 4 + 3, none⟩) (Kd.R_base h.hq gr rfl) _, Nat.le_trans h.hs hg.size, blk_grown h.bk hg (Kd.R_ne h.hq h.bk (by decide))⟩
  · unfold Ll.St; rw [es, eg, en, List.length_set]; exact blk_grown h.bx hg (Kd.R_ne h.hq h.bx (by decide))
  · rw [es]; exact Kd.R_over h.ho h.hq (by decide) hg
  · rw [eg, List.length_set]; exact hr
theorem Ll.I.inc {m : Int} (h : Ll.I B gb g cs w W q A1 c1 A2 c2) (hgb : B ≤ gb) (hg : g < B) : Ll.I B gb g cs w (W.setCell ⟨gb, 2, none⟩ (.int .i64 m)) ⟨q.s, q.g, m⟩ A1 c1 A2 c2 :=
  ⟨blk_put h.bx 2 _ rfl, Kd.R_set h.ho h.bx (by decide) 2 _, Kd.R_set h.hq h.bx (by decide) 2 _, h.hb.setCell (p := ⟨gb, 2, none⟩) hgb _, Nat.le_trans h.hs (by simp [World.setCell]), blk_far h.bk (Nat.ne_of_lt (Nat.lt_of_lt_of_le hg hgb)) _⟩
end
set_option maxHeartbeats 8000000 in
set_option maxRecDepth 100000 in
theorem Ll.node_ok {w0 : World} {B gb g : Nat} {k n : Int} {A : Option Addr} {m c : Nat} {fs : List Ll.F} (hN : Ll.Nd w0 B gb g k n A m c fs) : Ll.Ok w0 B gb (Ll.node k n fs) g := by
 intro w A1_ c1_ A2_ c2_ q r hB0 hbx hS hG h
 have hu35 := Try.underlying35
 have hu36 := Try.underlying36
 have hu38 := Try.underlying38
 have hu86 := Try.underlying86
 have hu63 := Try.underlying63
 have hu109 := Try.underlying109
 have hu135 := Try.underlying135
 have hu76 := Try.underlying76
 have hu133 := Try.underlying133
 have HN := Aside0.mk hN
 have II := Aside0.mk (Ll.I.mk (g := g) hbx hS hG (Below.refl B w) (Nat.le_trans hN.w0B hB0.size) ((hB0.block g hN.gB).trans hN.cell))
 have HB0 := Aside0.mk hB0
 have HG := Aside0.mk hN.gB
 have HGS := Aside0.mk hN.hB
 clear hbx hS hG hB0 hN
 unfold Ll.node at h
 obtain ⟨hcz0, hfz0, hcz1, hfz1, hcz2, hfz2⟩ := bk3 II.out.bk; obtain ⟨hbz0, hbf0, hbz1, hbf1, hbz2, hbf2⟩ := bk3 II.out.bx
 by_cases k1 : k = 1
 ·rw [if_pos k1] at h
  subst k1
  have A1 := Aside0.mk h
  clear h
  go_enter Try.func68, Try.ntmps68
  go_wp2_with (first | (go_at_call 87; (with_reducible refine (Ll.put_ok A1.out HGS.out II.out.hs II.out.bx II.out.ho II.out.hq).mono ?_); rintro e w5 ⟨rfl, hp_⟩; obtain ⟨A1_, c1_, A2_, c2_, hI⟩ := II.out.post HG.out hp_; clear II hp_ hcz0 hfz0 hcz1 hfz1 hcz2 hfz2 hbz0 hbf0 hbz1 hbf1 hbz2 hbf2; have II := Aside0.mk hI; clear hI; obtain ⟨hcz0, hfz0, hcz1, hfz1, hcz2, hfz2⟩ := bk3 II.out.bk; obtain ⟨hbz0, hbf0, hbz1, hbf1, hbz2, hbf2⟩ := bk3 II.out.bx))
  refine Ll.ret0 rfl rfl ?_
  exact ⟨rfl, _, _, _, _, II.out.bx, II.out.ho, II.out.hq, II.out.hb⟩
 ·rw [if_neg k1] at h
  have k1b : (k == 1) = false := beq_eq_false_iff_ne.mpr k1
  by_cases k2 : k = 2
  ·rw [if_pos k2] at h
   subst k2
   have A1 := Aside0.mk h
   clear h
   go_enter Try.func68, Try.ntmps68
   go_wp2_with (first | (go_at_call 87; (with_reducible refine (Ll.put_ok A1.out HGS.out II.out.hs II.out.bx II.out.ho II.out.hq).mono ?_); rintro e w5 ⟨rfl, hp_⟩; obtain ⟨A1_, c1_, A2_, c2_, hI⟩ := II.out.post HG.out hp_; clear II hp_ hcz0 hfz0 hcz1 hfz1 hcz2 hfz2 hbz0 hbf0 hbz1 hbf1 hbz2 hbf2; have II := Aside0.mk hI; clear hI; obtain ⟨hcz0, hfz0, hcz1, hfz1, hcz2, hfz2⟩ := bk3 II.out.bk; obtain ⟨hbz0, hbf0, hbz1, hbf1, hbz2, hbf2⟩ := bk3 II.out.bx))
   refine Ll.ret0 rfl rfl ?_
   exact ⟨rfl, _, _, _, _, II.out.bx, II.out.ho, II.out.hq, II.out.hb⟩
  ·rw [if_neg k2] at h
   have k2b : (k == 2) = false := beq_eq_false_iff_ne.mpr k2
   split at h
   ·cases h
   rename_i f0 hf0
   obtain ⟨gi0, hh0, eA0, hm0, hc0, hok0⟩ := Ll.kids0 HN.out hf0
   have HOK0 := Aside0.mk hok0
   have HC0 := Aside0.mk hc0
   clear hok0 hc0
   have hm0b : (0 < m) = True := eq_true hm0
   have hm0c : ((0 : Int) < (m : Int)) = True := eq_true (by omega)
   clear hm0
   subst eA0
   by_cases k6 : k = 6
   ·rw [if_pos k6] at h
    subst k6
    split at h
    case isFalse => cases h
    rename_i hlim
    obtain ⟨hn1, hn2⟩ := hlim
    replace h := lO h; obtain ⟨q1, B1, h⟩ := h
    replace h := lO h; obtain ⟨q2, B2, h⟩ := h
    replace h := lO h; obtain ⟨q3, B3, h⟩ := h
    replace h := lO h; obtain ⟨q4, B4, h⟩ := h
    replace h := lO h; obtain ⟨q5, B5, h⟩ := h
    have B6 := Aside0.mk h
    clear h
    go_enter Try.func68, Try.ntmps68
    go_upto_region 28 with (fail)
    have hI := II.out.inc (m := q.n + 1) HGS.out HG.out
    clear II hcz0 hfz0 hcz1 hfz1 hcz2 hfz2 hbz0 hbf0 hbz1 hbf1 hbz2 hbf2
    generalize w.setCell ⟨gb, 2, none⟩ (.int .i64 (q.n + 1)) = w4 at hI ⊢
    have II := Aside0.mk hI
    clear hI
    obtain ⟨hcz0, hfz0, hcz1, hfz1, hcz2, hfz2⟩ := bk3 II.out.bk; obtain ⟨hbz0, hbf0, hbz1, hbf1, hbz2, hbf2⟩ := bk3 II.out.bx
    go_upto_region 29 with (first | (go_at_call 87; (with_reducible refine (Ll.put_ok B1.out HGS.out II.out.hs II.out.bx II.out.ho II.out.hq).mono ?_); rintro e w5 ⟨rfl, hp_⟩; obtain ⟨A1_, c1_, A2_, c2_, hI⟩ := II.out.post HG.out hp_; clear II hp_ hcz0 hfz0 hcz1 hfz1 hcz2 hfz2 hbz0 hbf0 hbz1 hbf1 hbz2 hbf2; have II := Aside0.mk hI; clear hI; obtain ⟨hcz0, hfz0, hcz1, hfz1, hcz2, hfz2⟩ := bk3 II.out.bk; obtain ⟨hbz0, hbf0, hbz1, hbf1, hbz2, hbf2⟩ := bk3 II.out.bx))
    go_upto_region 30 with (first | (go_at_call 87; (with_reducible refine (Ll.put_ok B2.out HGS.out II.out.hs II.out.bx II.out.ho II.out.hq).mono ?_); rintro e w5 ⟨rfl, hp_⟩; obtain ⟨A1_, c1_, A2_, c2_, hI⟩ := II.out.post HG.out hp_; clear II hp_ hcz0 hfz0 hcz1 hfz1 hcz2 hfz2 hbz0 hbf0 hbz1 hbf1 hbz2 hbf2; have II := Aside0.mk hI; clear hI; obtain ⟨hcz0, hfz0, hcz1, hfz1, hcz2, hfz2⟩ := bk3 II.out.bk; obtain ⟨hbz0, hbf0, hbz1, hbf1, hbz2, hbf2⟩ := bk3 II.out.bx))
    go_upto_region 31 with (first | (go_at_call 87; (with_reducible refine (Ll.put_ok B3.out HGS.out II.out.hs II.out.bx II.out.ho II.out.hq).mono ?_); rintro e w5 ⟨rfl, hp_⟩; obtain ⟨A1_, c1_, A2_, c2_, hI⟩ := II.out.post HG.out hp_; clear II hp_ hcz0 hfz0 hcz1 hfz1 hcz2 hfz2 hbz0 hbf0 hbz1 hbf1 hbz2 hbf2; have II := Aside0.mk hI; clear hI; obtain ⟨hcz0, hfz0, hcz1, hfz1, hcz2, hfz2⟩ := bk3 II.out.bk; obtain ⟨hbz0, hbf0, hbz1, hbf1, hbz2, hbf2⟩ := bk3 II.out.bx))
    have hk0 := HC0.out _ (HB0.out.trans II.out.hb)
    go_upto_region 32 with (first | (go_at_call 68; (with_reducible refine (HOK0.out _ _ _ _ _ _ _ (HB0.out.trans II.out.hb) II.out.bx II.out.ho II.out.hq B4.out).mono ?_); rintro e w5 ⟨rfl, hp_⟩; obtain ⟨A1_, c1_, A2_, c2_, hI⟩ := II.out.post HG.out hp_; clear hk0 II hp_ hcz0 hfz0 hcz1 hfz1 hcz2 hfz2 hbz0 hbf0 hbz1 hbf1 hbz2 hbf2; have II := Aside0.mk hI; clear hI; obtain ⟨hcz0, hfz0, hcz1, hfz1, hcz2, hfz2⟩ := bk3 II.out.bk; obtain ⟨hbz0, hbf0, hbz1, hbf1, hbz2, hbf2⟩ := bk3 II.out.bx))
    go_upto_region 33 with (first | (go_at_call 87; (with_reducible refine (Ll.put_ok B5.out HGS.out II.out.hs II.out.bx II.out.ho II.out.hq).mono ?_); rintro e w5 ⟨rfl, hp_⟩; obtain ⟨A1_, c1_, A2_, c2_, hI⟩ := II.out.post HG.out hp_; clear II hp_ hcz0 hfz0 hcz1 hfz1 hcz2 hfz2 hbz0 hbf0 hbz1 hbf1 hbz2 hbf2; have II := Aside0.mk hI; clear hI; obtain ⟨hcz0, hfz0, hcz1, hfz1, hcz2, hfz2⟩ := bk3 II.out.bk; obtain ⟨hbz0, hbf0, hbz1, hbf1, hbz2, hbf2⟩ := bk3 II.out.bx))
    have hlt_ := (Ll.setT_some B6.out).1
    obtain ⟨gr, rfl, hsc_, hsf_⟩ := II.out.formT hlt_
    have hi0_ : (0 : Int) ≤ ((q2.s.length : Nat) : Int) := Int.natCast_nonneg _
    have hi1_ : ((q2.s.length : Nat) : Int) < ((q5.s.length : Nat) : Int) := Int.ofNat_lt.mpr hlt_
    refine start_ (n := 15) (S := fun w' => w'.cell? ⟨gb, 0, none⟩ = some (.slice (some ⟨gr, 0, none⟩) q5.s.length c1_) ∧ w'.cell? ⟨gb, 1, none⟩ = some (.slice A2_ q5.g.length c2_) ∧ w'.cell? ⟨gr, q2.s.length * 3 + 2, none⟩ = some (.int .i64 (rd_T86 q5.s (q2.s.length : Nat)).f2) ∧ w'.frozen? ⟨gr, q2.s.length * 3 + 2, none⟩ = false) (ds := [14]) (bs 15 0) kR rfl kR ⟨hbz0, hbz1, hsc_, hsf_⟩ (fun hHeld => ?_)
    have hI := II.out.drew
    clear II hsc_ hsf_ hcz0 hfz0 hcz1 hfz1 hcz2 hfz2 hbz0 hbf0 hbz1 hbf1 hbz2 hbf2
    generalize hwd_ : World.drew _ = w3 at hI hHeld ⊢
    have II := Aside0.mk hI
    clear hwd_ hI
    refine pur_ 0 223 (bs 15 1) kR ?_
    refine pur_ 1 224 (bs 15 3) kR ?_
    refine pur_ 2 225 (bs 15 7) kR ?_
    refine pur_ 3 226 (bs 15 15) kR ?_
    refine pur_ 5 228 (bs 15 47) kR ?_
    refine pur_ 6 229 (bs 15 111) kR ?_
    refine pur_ 7 230 (bs 15 239) kR ?_
    refine pur_ 8 231 (bs 15 495) kR ?_
    refine pur_ 9 232 (bs 15 1007) kR ?_
    refine tak_ 4 227 (bs 15 1023) kR hHeld ?_
    refine tak_ 10 233 (bs 15 2047) kR hHeld ?_
    refine pur_ 11 234 (bs 15 4095) kR ?_
    refine pur_ 12 235 (bs 15 8191) kR ?_
    refine pur_ 13 236 (bs 15 16383) kR ?_
    refine last_ (i := 14) (N := none) (bs 15 32767) rfl rfl kR (by decide) (fun K hK => ?_)
    have hs0_ := hHeld.2.2.1
    have hs1_ := hHeld.2.2.2
    refine skip_ (w1 := World.setCell _ ⟨gr, q2.s.length * 3 + 2, none⟩ (.int .i64 ((q5.s.length : Nat) : Int))) (by rfl) rfl (by first | (go_simp; done) | (go_simp; rfl)) ?_
    refine hK.out _ _ ?_
    clear hK K
    refine done_ kR ?_
    clear hHeld hs0_ hs1_ hi0_ hi1_ hlt_
    have hI := II.out.setT B6.out
    clear II
    generalize World.setCell _ ⟨gr, q2.s.length * 3 + 2, none⟩ (.int .i64 ((q5.s.length : Nat) : Int)) = w4 at hI ⊢
    have II := Aside0.mk hI
    clear hI
    obtain ⟨hcz0, hfz0, hcz1, hfz1, hcz2, hfz2⟩ := bk3 II.out.bk; obtain ⟨hbz0, hbf0, hbz1, hbf1, hbz2, hbf2⟩ := bk3 II.out.bx
    go_wp2
    refine Ll.ret0 rfl rfl ?_
    exact ⟨rfl, _, _, _, _, II.out.bx, II.out.ho, II.out.hq, II.out.hb⟩
   ·rw [if_neg k6] at h
    have k6b : (k == 6) = false := beq_eq_false_iff_ne.mpr k6
    replace h := lO h; obtain ⟨q1, B1, h⟩ := h
    split at h
    ·cases h
    rename_i f1 hf1
    obtain ⟨gi1, hh1, eA1, hm1, hc1, hok1⟩ := Ll.kids0 HN.out hf1
    have HOK1 := Aside0.mk hok1
    have HC1 := Aside0.mk hc1
    clear hok1 hc1
    obtain rfl : hh0 = hh1 := by injection eA1 with eA1; injection eA1
    have hm1b : (1 < m) = True := eq_true hm1
    have hm1c : ((1 : Int) < (m : Int)) = True := eq_true (by omega)
    clear hm1 eA1
    have hk0 := HC0.out _ (HB0.out.trans II.out.hb)
    by_cases k3 : k = 3
    ·rw [if_pos k3] at h
     subst k3
     have B2 := Aside0.mk h
     clear h
     go_enter Try.func68, Try.ntmps68
     go_upto_region 8 with (first | (go_at_call 68; (with_reducible refine (HOK0.out _ _ _ _ _ _ _ (HB0.out.trans II.out.hb) II.out.bx II.out.ho II.out.hq B1.out).mono ?_); rintro e w5 ⟨rfl, hp_⟩; obtain ⟨A1_, c1_, A2_, c2_, hI⟩ := II.out.post HG.out hp_; clear hk0 II hp_ hcz0 hfz0 hcz1 hfz1 hcz2 hfz2 hbz0 hbf0 hbz1 hbf1 hbz2 hbf2; have II := Aside0.mk hI; clear hI; obtain ⟨hcz0, hfz0, hcz1, hfz1, hcz2, hfz2⟩ := bk3 II.out.bk; obtain ⟨hbz0, hbf0, hbz1, hbf1, hbz2, hbf2⟩ := bk3 II.out.bx))
     have hk1 := HC1.out _ (HB0.out.trans II.out.hb)
     go_wp2_with (first | (go_at_call 68; (with_reducible refine (HOK1.out _ _ _ _ _ _ _ (HB0.out.trans II.out.hb) II.out.bx II.out.ho II.out.hq B2.out).mono ?_); rintro e w5 ⟨rfl, hp_⟩; obtain ⟨A1_, c1_, A2_, c2_, hI⟩ := II.out.post HG.out hp_; clear II hp_ hcz0 hfz0 hcz1 hfz1 hcz2 hfz2 hbz0 hbf0 hbz1 hbf1 hbz2 hbf2; have II := Aside0.mk hI; clear hI; obtain ⟨hcz0, hfz0, hcz1, hfz1, hcz2, hfz2⟩ := bk3 II.out.bk; obtain ⟨hbz0, hbf0, hbz1, hbf1, hbz2, hbf2⟩ := bk3 II.out.bx))
     refine Ll.ret0 rfl rfl ?_
     exact ⟨rfl, _, _, _, _, II.out.bx, II.out.ho, II.out.hq, II.out.hb⟩
    ·rw [if_neg k3] at h
     have k3b : (k == 3) = false := beq_eq_false_iff_ne.mpr k3
     by_cases k4 : k = 4
     ·rw [if_pos k4] at h
      subst k4
      replace h := lO h; obtain ⟨q2, B2, h⟩ := h
      replace h := lO h; obtain ⟨q3, B3, h⟩ := h
      replace h := lO h; obtain ⟨q4, B4, h⟩ := h
      replace h := lO h; obtain ⟨q5, B5, h⟩ := h
      have B6 := Aside0.mk h
      clear h
      go_enter Try.func68, Try.ntmps68
      go_upto_region 11 with (first | (go_at_call 68; (with_reducible refine (HOK0.out _ _ _ _ _ _ _ (HB0.out.trans II.out.hb) II.out.bx II.out.ho II.out.hq B1.out).mono ?_); rintro e w5 ⟨rfl, hp_⟩; obtain ⟨A1_, c1_, A2_, c2_, hI⟩ := II.out.post HG.out hp_; clear hk0 II hp_ hcz0 hfz0 hcz1 hfz1 hcz2 hfz2 hbz0 hbf0 hbz1 hbf1 hbz2 hbf2; have II := Aside0.mk hI; clear hI; obtain ⟨hcz0, hfz0, hcz1, hfz1, hcz2, hfz2⟩ := bk3 II.out.bk; obtain ⟨hbz0, hbf0, hbz1, hbf1, hbz2, hbf2⟩ := bk3 II.out.bx))
      go_upto_region 12 with (first | (go_at_call 88; (with_reducible refine (Ll.grd_ok B2.out HGS.out II.out.hs II.out.bx II.out.ho II.out.hq).mono ?_); rintro e w5 ⟨rfl, hp_⟩; obtain ⟨A1_, c1_, A2_, c2_, hI⟩ := II.out.post HG.out hp_; clear II hp_ hcz0 hfz0 hcz1 hfz1 hcz2 hfz2 hbz0 hbf0 hbz1 hbf1 hbz2 hbf2; have II := Aside0.mk hI; clear hI; obtain ⟨hcz0, hfz0, hcz1, hfz1, hcz2, hfz2⟩ := bk3 II.out.bk; obtain ⟨hbz0, hbf0, hbz1, hbf1, hbz2, hbf2⟩ := bk3 II.out.bx))
      go_upto_region 13 with (first | (go_at_call 87; (with_reducible refine (Ll.put_ok B3.out HGS.out II.out.hs II.out.bx II.out.ho II.out.hq).mono ?_); rintro e w5 ⟨rfl, hp_⟩; obtain ⟨A1_, c1_, A2_, c2_, hI⟩ := II.out.post HG.out hp_; clear II hp_ hcz0 hfz0 hcz1 hfz1 hcz2 hfz2 hbz0 hbf0 hbz1 hbf1 hbz2 hbf2; have II := Aside0.mk hI; clear hI; obtain ⟨hcz0, hfz0, hcz1, hfz1, hcz2, hfz2⟩ := bk3 II.out.bk; obtain ⟨hbz0, hbf0, hbz1, hbf1, hbz2, hbf2⟩ := bk3 II.out.bx))
      have hlt_ := (Ll.setA_some B4.out).1
      obtain ⟨gr, rfl, hsc_, hsf_⟩ := II.out.formA hlt_
      have hi0_ : (0 : Int) ≤ ((q1.g.length : Nat) : Int) := Int.natCast_nonneg _
      have hi1_ : ((q1.g.length : Nat) : Int) < ((q3.g.length : Nat) : Int) := Int.ofNat_lt.mpr hlt_
      refine start_ (n := 15) (S := fun w' => w'.cell? ⟨gb, 0, none⟩ = some (.slice A1_ q3.s.length c1_) ∧ w'.cell? ⟨gb, 1, none⟩ = some (.slice (some ⟨gr, 0, none⟩) q3.g.length c2_) ∧ w'.cell? ⟨gr, q1.g.length * 4 + 3, none⟩ = some (.int .i64 (rd_T63 q3.g (q1.g.length : Nat)).f3) ∧ w'.frozen? ⟨gr, q1.g.length * 4 + 3, none⟩ = false) (ds := [14]) (bs 15 0) kR rfl kR ⟨hbz0, hbz1, hsc_, hsf_⟩ (fun hHeld => ?_)
      have hI := II.out.drew
      clear II hsc_ hsf_ hcz0 hfz0 hcz1 hfz1 hcz2 hfz2 hbz0 hbf0 hbz1 hbf1 hbz2 hbf2
      generalize hwd_ : World.drew _ = w3 at hI hHeld ⊢
      have II := Aside0.mk hI
      clear hwd_ hI
      refine pur_ 0 82 (bs 15 1) kR ?_
      refine pur_ 1 83 (bs 15 3) kR ?_
      refine pur_ 2 84 (bs 15 7) kR ?_
      refine pur_ 3 85 (bs 15 15) kR ?_
      refine pur_ 5 87 (bs 15 47) kR ?_
      refine pur_ 6 88 (bs 15 111) kR ?_
      refine pur_ 7 89 (bs 15 239) kR ?_
      refine pur_ 8 90 (bs 15 495) kR ?_
      refine pur_ 9 91 (bs 15 1007) kR ?_
      refine tak_ 4 86 (bs 15 1023) kR hHeld ?_
      refine tak_ 10 92 (bs 15 2047) kR hHeld ?_
      refine pur_ 11 93 (bs 15 4095) kR ?_
      refine pur_ 12 94 (bs 15 8191) kR ?_
      refine pur_ 13 95 (bs 15 16383) kR ?_
      refine last_ (i := 14) (N := none) (bs 15 32767) rfl rfl kR (by decide) (fun K hK => ?_)
      have hs0_ := hHeld.2.2.1
      have hs1_ := hHeld.2.2.2
      refine skip_ (w1 := World.setCell _ ⟨gr, q1.g.length * 4 + 3, none⟩ (.int .i64 ((q3.s.length : Nat) : Int))) (by rfl) rfl (by first | (go_simp; done) | (go_simp; rfl)) ?_
      refine hK.out _ _ ?_
      clear hK K
      refine done_ kR ?_
      clear hHeld hs0_ hs1_ hi0_ hi1_ hlt_
      have hI := II.out.setA B4.out
      clear II
      generalize World.setCell _ ⟨gr, q1.g.length * 4 + 3, none⟩ (.int .i64 ((q3.s.length : Nat) : Int)) = w4 at hI ⊢
      have II := Aside0.mk hI
      clear hI
      obtain ⟨hcz0, hfz0, hcz1, hfz1, hcz2, hfz2⟩ := bk3 II.out.bk; obtain ⟨hbz0, hbf0, hbz1, hbf1, hbz2, hbf2⟩ := bk3 II.out.bx
      have hk1 := HC1.out _ (HB0.out.trans II.out.hb)
      go_upto_region 15 with (first | (go_at_call 68; (with_reducible refine (HOK1.out _ _ _ _ _ _ _ (HB0.out.trans II.out.hb) II.out.bx II.out.ho II.out.hq B5.out).mono ?_); rintro e w5 ⟨rfl, hp_⟩; obtain ⟨A1_, c1_, A2_, c2_, hI⟩ := II.out.post HG.out hp_; clear hk1 II hp_ hcz0 hfz0 hcz1 hfz1 hcz2 hfz2 hbz0 hbf0 hbz1 hbf1 hbz2 hbf2; have II := Aside0.mk hI; clear hI; obtain ⟨hcz0, hfz0, hcz1, hfz1, hcz2, hfz2⟩ := bk3 II.out.bk; obtain ⟨hbz0, hbf0, hbz1, hbf1, hbz2, hbf2⟩ := bk3 II.out.bx))
      have hlt_ := (Ll.setT_some B6.out).1
      obtain ⟨gr, rfl, hsc_, hsf_⟩ := II.out.formT hlt_
      have hi0_ : (0 : Int) ≤ ((q2.s.length : Nat) : Int) := Int.natCast_nonneg _
      have hi1_ : ((q2.s.length : Nat) : Int) < ((q5.s.length : Nat) : Int) := Int.ofNat_lt.mpr hlt_
      refine start_ (n := 15) (S := fun w' => w'.cell? ⟨gb, 0, none⟩ = some (.slice (some ⟨gr, 0, none⟩) q5.s.length c1_) ∧ w'.cell? ⟨gb, 1, none⟩ = some (.slice A2_ q5.g.length c2_) ∧ w'.cell? ⟨gr, q2.s.length * 3 + 2, none⟩ = some (.int .i64 (rd_T86 q5.s (q2.s.length : Nat)).f2) ∧ w'.frozen? ⟨gr, q2.s.length * 3 + 2, none⟩ = false) (ds := [14]) (bs 15 0) kR rfl kR ⟨hbz0, hbz1, hsc_, hsf_⟩ (fun hHeld => ?_)
      have hI := II.out.drew
      clear II hsc_ hsf_ hcz0 hfz0 hcz1 hfz1 hcz2 hfz2 hbz0 hbf0 hbz1 hbf1 hbz2 hbf2
      generalize hwd_ : World.drew _ = w3 at hI hHeld ⊢
      have II := Aside0.mk hI
      clear hwd_ hI
      refine pur_ 0 104 (bs 15 1) kR ?_
      refine pur_ 1 105 (bs 15 3) kR ?_
      refine pur_ 2 106 (bs 15 7) kR ?_
      refine pur_ 3 107 (bs 15 15) kR ?_
      refine pur_ 5 109 (bs 15 47) kR ?_
      refine pur_ 6 110 (bs 15 111) kR ?_
      refine pur_ 7 111 (bs 15 239) kR ?_
      refine pur_ 8 112 (bs 15 495) kR ?_
      refine pur_ 9 113 (bs 15 1007) kR ?_
      refine tak_ 4 108 (bs 15 1023) kR hHeld ?_
      refine tak_ 10 114 (bs 15 2047) kR hHeld ?_
      refine pur_ 11 115 (bs 15 4095) kR ?_
      refine pur_ 12 116 (bs 15 8191) kR ?_
      refine pur_ 13 117 (bs 15 16383) kR ?_
      refine last_ (i := 14) (N := none) (bs 15 32767) rfl rfl kR (by decide) (fun K hK => ?_)
      have hs0_ := hHeld.2.2.1
      have hs1_ := hHeld.2.2.2
      refine skip_ (w1 := World.setCell _ ⟨gr, q2.s.length * 3 + 2, none⟩ (.int .i64 ((q5.s.length : Nat) : Int))) (by rfl) rfl (by first | (go_simp; done) | (go_simp; rfl)) ?_
      refine hK.out _ _ ?_
      clear hK K
      refine done_ kR ?_
      clear hHeld hs0_ hs1_ hi0_ hi1_ hlt_
      have hI := II.out.setT B6.out
      clear II
      generalize World.setCell _ ⟨gr, q2.s.length * 3 + 2, none⟩ (.int .i64 ((q5.s.length : Nat) : Int)) = w4 at hI ⊢
      have II := Aside0.mk hI
      clear hI
      obtain ⟨hcz0, hfz0, hcz1, hfz1, hcz2, hfz2⟩ := bk3 II.out.bk; obtain ⟨hbz0, hbf0, hbz1, hbf1, hbz2, hbf2⟩ := bk3 II.out.bx
      go_wp2
      refine Ll.ret0 rfl rfl ?_
      exact ⟨rfl, _, _, _, _, II.out.bx, II.out.ho, II.out.hq, II.out.hb⟩
     ·rw [if_neg k4] at h
      have k4b : (k == 4) = false := beq_eq_false_iff_ne.mpr k4
      by_cases k5 : k = 5
      ·rw [if_pos k5] at h
       subst k5
       replace h := lO h; obtain ⟨q2, B2, h⟩ := h
       replace h := lO h; obtain ⟨q3, B3, h⟩ := h
       replace h := lO h; obtain ⟨q4, B4, h⟩ := h
       replace h := lO h; obtain ⟨q5, B5, h⟩ := h
       replace h := lO h; obtain ⟨q6, B6, h⟩ := h
       replace h := lO h; obtain ⟨q7, B7, h⟩ := h
       have B8 := Aside0.mk h
       clear h
       go_enter Try.func68, Try.ntmps68
       go_upto_region 18 with (first | (go_at_call 68; (with_reducible refine (HOK0.out _ _ _ _ _ _ _ (HB0.out.trans II.out.hb) II.out.bx II.out.ho II.out.hq B1.out).mono ?_); rintro e w5 ⟨rfl, hp_⟩; obtain ⟨A1_, c1_, A2_, c2_, hI⟩ := II.out.post HG.out hp_; clear hk0 II hp_ hcz0 hfz0 hcz1 hfz1 hcz2 hfz2 hbz0 hbf0 hbz1 hbf1 hbz2 hbf2; have II := Aside0.mk hI; clear hI; obtain ⟨hcz0, hfz0, hcz1, hfz1, hcz2, hfz2⟩ := bk3 II.out.bk; obtain ⟨hbz0, hbf0, hbz1, hbf1, hbz2, hbf2⟩ := bk3 II.out.bx))
       go_upto_region 19 with (first | (go_at_call 88; (with_reducible refine (Ll.grd_ok B2.out HGS.out II.out.hs II.out.bx II.out.ho II.out.hq).mono ?_); rintro e w5 ⟨rfl, hp_⟩; obtain ⟨A1_, c1_, A2_, c2_, hI⟩ := II.out.post HG.out hp_; clear II hp_ hcz0 hfz0 hcz1 hfz1 hcz2 hfz2 hbz0 hbf0 hbz1 hbf1 hbz2 hbf2; have II := Aside0.mk hI; clear hI; obtain ⟨hcz0, hfz0, hcz1, hfz1, hcz2, hfz2⟩ := bk3 II.out.bk; obtain ⟨hbz0, hbf0, hbz1, hbf1, hbz2, hbf2⟩ := bk3 II.out.bx))
       have hk1 := HC1.out _ (HB0.out.trans II.out.hb)
       go_upto_region 20 with (first | (go_at_call 68; (with_reducible refine (HOK1.out _ _ _ _ _ _ _ (HB0.out.trans II.out.hb) II.out.bx II.out.ho II.out.hq B3.out).mono ?_); rintro e w5 ⟨rfl, hp_⟩; obtain ⟨A1_, c1_, A2_, c2_, hI⟩ := II.out.post HG.out hp_; clear hk1 II hp_ hcz0 hfz0 hcz1 hfz1 hcz2 hfz2 hbz0 hbf0 hbz1 hbf1 hbz2 hbf2; have II := Aside0.mk hI; clear hI; obtain ⟨hcz0, hfz0, hcz1, hfz1, hcz2, hfz2⟩ := bk3 II.out.bk; obtain ⟨hbz0, hbf0, hbz1, hbf1, hbz2, hbf2⟩ := bk3 II.out.bx))
       go_upto_region 21 with (first | (go_at_call 87; (with_reducible refine (Ll.put_ok B4.out HGS.out II.out.hs II.out.bx II.out.ho II.out.hq).mono ?_); rintro e w5 ⟨rfl, hp_⟩; obtain ⟨A1_, c1_, A2_, c2_, hI⟩ := II.out.post HG.out hp_; clear II hp_ hcz0 hfz0 hcz1 hfz1 hcz2 hfz2 hbz0 hbf0 hbz1 hbf1 hbz2 hbf2; have II := Aside0.mk hI; clear hI; obtain ⟨hcz0, hfz0, hcz1, hfz1, hcz2, hfz2⟩ := bk3 II.out.bk; obtain ⟨hbz0, hbf0, hbz1, hbf1, hbz2, hbf2⟩ := bk3 II.out.bx))
       have hlt_ := (Ll.setA_some B5.out).1
       obtain ⟨gr, rfl, hsc_, hsf_⟩ := II.out.formA hlt_
       have hi0_ : (0 : Int) ≤ ((q1.g.length : Nat) : Int) := Int.natCast_nonneg _
       have hi1_ : ((q1.g.length : Nat) : Int) < ((q4.g.length : Nat) : Int) := Int.ofNat_lt.mpr hlt_
       refine start_ (n := 15) (S := fun w' => w'.cell? ⟨gb, 0, none⟩ = some (.slice A1_ q4.s.length c1_) ∧ w'.cell? ⟨gb, 1, none⟩ = some (.slice (some ⟨gr, 0, none⟩) q4.g.length c2_) ∧ w'.cell? ⟨gr, q1.g.length * 4 + 3, none⟩ = some (.int .i64 (rd_T63 q4.g (q1.g.length : Nat)).f3) ∧ w'.frozen? ⟨gr, q1.g.length * 4 + 3, none⟩ = false) (ds := [14]) (bs 15 0) kR rfl kR ⟨hbz0, hbz1, hsc_, hsf_⟩ (fun hHeld => ?_)
       have hI := II.out.drew
       clear II hsc_ hsf_ hcz0 hfz0 hcz1 hfz1 hcz2 hfz2 hbz0 hbf0 hbz1 hbf1 hbz2 hbf2
       generalize hwd_ : World.drew _ = w3 at hI hHeld ⊢
       have II := Aside0.mk hI
       clear hwd_ hI
       refine pur_ 0 142 (bs 15 1) kR ?_
       refine pur_ 1 143 (bs 15 3) kR ?_
       refine pur_ 2 144 (bs 15 7) kR ?_
       refine pur_ 3 145 (bs 15 15) kR ?_
       refine pur_ 5 147 (bs 15 47) kR ?_
       refine pur_ 6 148 (bs 15 111) kR ?_
       refine pur_ 7 149 (bs 15 239) kR ?_
       refine pur_ 8 150 (bs 15 495) kR ?_
       refine pur_ 9 151 (bs 15 1007) kR ?_
       refine tak_ 4 146 (bs 15 1023) kR hHeld ?_
       refine tak_ 10 152 (bs 15 2047) kR hHeld ?_
       refine pur_ 11 153 (bs 15 4095) kR ?_
       refine pur_ 12 154 (bs 15 8191) kR ?_
       refine pur_ 13 155 (bs 15 16383) kR ?_
       refine last_ (i := 14) (N := none) (bs 15 32767) rfl rfl kR (by decide) (fun K hK => ?_)
       have hs0_ := hHeld.2.2.1
       have hs1_ := hHeld.2.2.2
       refine skip_ (w1 := World.setCell _ ⟨gr, q1.g.length * 4 + 3, none⟩ (.int .i64 ((q4.s.length : Nat) : Int))) (by rfl) rfl (by first | (go_simp; done) | (go_simp; rfl)) ?_
       refine hK.out _ _ ?_
       clear hK K
       refine done_ kR ?_
       clear hHeld hs0_ hs1_ hi0_ hi1_ hlt_
       have hI := II.out.setA B5.out
       clear II
       generalize World.setCell _ ⟨gr, q1.g.length * 4 + 3, none⟩ (.int .i64 ((q4.s.length : Nat) : Int)) = w4 at hI ⊢
       have II := Aside0.mk hI
       clear hI
       obtain ⟨hcz0, hfz0, hcz1, hfz1, hcz2, hfz2⟩ := bk3 II.out.bk; obtain ⟨hbz0, hbf0, hbz1, hbf1, hbz2, hbf2⟩ := bk3 II.out.bx
       have hk1 := HC1.out _ (HB0.out.trans II.out.hb)
       go_upto_region 23 with (first | (go_at_call 68; (with_reducible refine (HOK1.out _ _ _ _ _ _ _ (HB0.out.trans II.out.hb) II.out.bx II.out.ho II.out.hq B6.out).mono ?_); rintro e w5 ⟨rfl, hp_⟩; obtain ⟨A1_, c1_, A2_, c2_, hI⟩ := II.out.post HG.out hp_; clear hk1 II hp_ hcz0 hfz0 hcz1 hfz1 hcz2 hfz2 hbz0 hbf0 hbz1 hbf1 hbz2 hbf2; have II := Aside0.mk hI; clear hI; obtain ⟨hcz0, hfz0, hcz1, hfz1, hcz2, hfz2⟩ := bk3 II.out.bk; obtain ⟨hbz0, hbf0, hbz1, hbf1, hbz2, hbf2⟩ := bk3 II.out.bx))
       go_upto_region 24 with (first | (go_at_call 87; (with_reducible refine (Ll.put_ok B7.out HGS.out II.out.hs II.out.bx II.out.ho II.out.hq).mono ?_); rintro e w5 ⟨rfl, hp_⟩; obtain ⟨A1_, c1_, A2_, c2_, hI⟩ := II.out.post HG.out hp_; clear II hp_ hcz0 hfz0 hcz1 hfz1 hcz2 hfz2 hbz0 hbf0 hbz1 hbf1 hbz2 hbf2; have II := Aside0.mk hI; clear hI; obtain ⟨hcz0, hfz0, hcz1, hfz1, hcz2, hfz2⟩ := bk3 II.out.bk; obtain ⟨hbz0, hbf0, hbz1, hbf1, hbz2, hbf2⟩ := bk3 II.out.bx))
       have hlt_ := (Ll.setT_some B8.out).1
       obtain ⟨gr, rfl, hsc_, hsf_⟩ := II.out.formT hlt_
       have hi0_ : (0 : Int) ≤ ((q3.s.length : Nat) : Int) := Int.natCast_nonneg _
       have hi1_ : ((q3.s.length : Nat) : Int) < ((q7.s.length : Nat) : Int) := Int.ofNat_lt.mpr hlt_
       refine start_ (n := 15) (S := fun w' => w'.cell? ⟨gb, 0, none⟩ = some (.slice (some ⟨gr, 0, none⟩) q7.s.length c1_) ∧ w'.cell? ⟨gb, 1, none⟩ = some (.slice A2_ q7.g.length c2_) ∧ w'.cell? ⟨gr, q3.s.length * 3 + 2, none⟩ = some (.int .i64 (rd_T86 q7.s (q3.s.length : Nat)).f2) ∧ w'.frozen? ⟨gr, q3.s.length * 3 + 2, none⟩ = false) (ds := [14]) (bs 15 0) kR rfl kR ⟨hbz0, hbz1, hsc_, hsf_⟩ (fun hHeld => ?_)
       have hI := II.out.drew
       clear II hsc_ hsf_ hcz0 hfz0 hcz1 hfz1 hcz2 hfz2 hbz0 hbf0 hbz1 hbf1 hbz2 hbf2
       generalize hwd_ : World.drew _ = w3 at hI hHeld ⊢
       have II := Aside0.mk hI
       clear hwd_ hI
       refine pur_ 0 168 (bs 15 1) kR ?_
       refine pur_ 1 169 (bs 15 3) kR ?_
       refine pur_ 2 170 (bs 15 7) kR ?_
       refine pur_ 3 171 (bs 15 15) kR ?_
       refine pur_ 5 173 (bs 15 47) kR ?_
       refine pur_ 6 174 (bs 15 111) kR ?_
       refine pur_ 7 175 (bs 15 239) kR ?_
       refine pur_ 8 176 (bs 15 495) kR ?_
       refine pur_ 9 177 (bs 15 1007) kR ?_
       refine tak_ 4 172 (bs 15 1023) kR hHeld ?_
       refine tak_ 10 178 (bs 15 2047) kR hHeld ?_
       refine pur_ 11 179 (bs 15 4095) kR ?_
       refine pur_ 12 180 (bs 15 8191) kR ?_
       refine pur_ 13 181 (bs 15 16383) kR ?_
       refine last_ (i := 14) (N := none) (bs 15 32767) rfl rfl kR (by decide) (fun K hK => ?_)
       have hs0_ := hHeld.2.2.1
       have hs1_ := hHeld.2.2.2
       refine skip_ (w1 := World.setCell _ ⟨gr, q3.s.length * 3 + 2, none⟩ (.int .i64 ((q7.s.length : Nat) : Int))) (by rfl) rfl (by first | (go_simp; done) | (go_simp; rfl)) ?_
       refine hK.out _ _ ?_
       clear hK K
       refine done_ kR ?_
       clear hHeld hs0_ hs1_ hi0_ hi1_ hlt_
       have hI := II.out.setT B8.out
       clear II
       generalize World.setCell _ ⟨gr, q3.s.length * 3 + 2, none⟩ (.int .i64 ((q7.s.length : Nat) : Int)) = w4 at hI ⊢
       have II := Aside0.mk hI
       clear hI
       obtain ⟨hcz0, hfz0, hcz1, hfz1, hcz2, hfz2⟩ := bk3 II.out.bk; obtain ⟨hbz0, hbf0, hbz1, hbf1, hbz2, hbf2⟩ := bk3 II.out.bx
       go_wp2
       refine Ll.ret0 rfl rfl ?_
       exact ⟨rfl, _, _, _, _, II.out.bx, II.out.ho, II.out.hq, II.out.hb⟩
      ·rw [if_neg k5] at h
       cases h
theorem impl_liner_lay.calls : ∀ (t : S72) (w0 : World) (B gb g : Nat), B ≤ gb → B ≤ w0.heap.size → Xn.In w0 0 (fun k => k < B) t g → Ll.Ok w0 B gb (Ll.lay t) g := by
 intro t
 induction hN : SizeOf.sizeOf t using Nat.strongRecOn generalizing t with
 | _ N ih =>
 subst hN
 intro w0 B gb g h1 h2 h
 obtain ⟨k, n, ks⟩ := t
 unfold Xn.In at h
 obtain ⟨⟨hg, _⟩, v, gl, hc, hR, hI⟩ := h
 obtain ⟨A, c, rfl⟩ := Kd.R_slice hR
 have e : Ll.lay ⟨k, n, ks⟩ = Ll.node k n (Ll.lays ks) := by funext q; unfold Ll.lay; rfl
 rw [e]
 refine Ll.node_ok (A := A) (m := gl.length) (c := c) ⟨hg, h1, h2, hc, fun i f hf => ?_⟩
 obtain ⟨t, ht, rfl⟩ := Ll.lays_at ks i f hf
 obtain ⟨gi, hgi, hin⟩ := hI.at_ i t ht
 have hil : i < gl.length := by
  by_cases hl : i < gl.length
  ·exact hl
  ·rw [List.getElem?_eq_none (by omega)] at hgi; cases hgi
 obtain ⟨hh, cap, he, _, _, hcl⟩ := Kd.R_form hR (by omega)
 injection he with he1 he2 he3
 subst he1
 have hcell := (Kd.R_celln 0 hR (i : Int) (by omega) (by omega)).1
 have hlt : hh < B := hR.1 hh (by simp [Value.ownBlock])
 refine ⟨gi, hh, rfl, hil, hlt, ?_, ih (SizeOf.sizeOf t) ?_ t rfl w0 B gb gi h1 h2 hin⟩
 ·rw [Int.toNat_natCast] at hcell
  rw [hcell]
  have e2 : rdOf 0 gl (i : Int) = gi := by unfold rdOf; rw [Int.toNat_natCast, List.getD, hgi]; rfl
  rw [e2]
  rfl
 ·have hm : t ∈ ks := List.mem_of_getElem? ht
  have := List.sizeOf_lt_of_mem hm
  simp
  omega
theorem Ll.res {fn : Func} {p u : Tmp} {ty : TypeId} (h : fn.results = #[.cell p ty, .tmp u]) (tmps : Array Value) (P : Program) (w : World) (g : Nat) (cs : Array Value)
    (hp : tmps.getD p undef = .pointer (some ⟨g, 0, none⟩)) (hl : (loadVar ty ⟨g, 0, none⟩).run P w = .ok (.agg cs) w) :
    (results fn tmps).run P w = .ok (.tuple #[.agg cs, tmps.getD u undef]) w := by
  have hp' : tmps[p]?.getD undef = .pointer (some ⟨g, 0, none⟩) := by simpa using hp
  rw [results_cell_tmp h]
  simp [hp', asAddr, hl]
theorem Ll.info38 : (Try.prog.info? 38).map (·.size) = some 2 := by kernel_rfl
def impl_LineTree.f (k : Nat) (l : List S76) : Option (List S86 × List S63 × Bool) := (impl_parseTree.f l).bind fun r => if r.2 = true then (match r.1 with
  | none => none
  | some t => (Ll.lay t ⟨[], [], 20⟩).bind fun q => (impl_isLined.f k q.s q.g).bind fun b => if b = true then some (q.s, q.g, true) else some ([], [], false)) else some ([], [], false)
set_option maxHeartbeats 8000000 in
set_option maxRecDepth 100000 in
theorem impl_LineTree.calls (k : Nat) (A0 : Option Addr) (c0 : Nat) (l0 : List S76) (r1 : List S86) (r2 : List S63) (r3 : Bool) (w : World) (hr0 : Kd.C k76 w A0 l0.length l0) (hc0 : l0.length ≤ c0) (h : impl_LineTree.f k l0 = some (r1, r2, r3)) :
  Calls Try.prog 36 #[.slice A0 l0.length c0] w fun e w' => ∃ v0_ v1_ : Value, e = .returned (.tuple #[.agg #[v0_, v1_], .bool r3]) ∧ Kd.R k86 86 w' w.heap.size (fun _ => True) v0_ r1 ∧ Kd.R k63 63 w' w.heap.size (fun _ => True) v1_ r2 ∧ Below w.heap.size w w' := by
 unfold impl_LineTree.f at h
 have hu38 := Try.underlying38
 have hu109 := Try.underlying109
 have hu35 := Try.underlying35
 have hu36 := Try.underlying36
 have HR0 := Aside0.mk hr0
 have HC0 := Aside0.mk hc0
 clear hr0 hc0
 replace h := lO h
 obtain ⟨⟨ro, rb⟩, A1, h⟩ := h
 cases rb with
 | false =>
  rw [if_neg (by simp)] at h
  simp only [Option.some.injEq, Prod.mk.injEq] at h
  obtain ⟨rfl, rfl, rfl⟩ := h
  go_enter Try.func36, Try.ntmps36
  go_upto_region 1 with (fail)
  have n0_ : Aside0 ((w.alloc (Obj.cells #[Value.slice none 0 0, Value.slice none 0 0] 38)).heap[w.heap.size]? = some (Obj.cells #[Value.slice none 0 0, Value.slice none 0 0] 38)) := ⟨blk_new w _⟩
  have n1_ := Aside0.mk (below_alloc (Below.refl w.heap.size w) (Obj.cells #[Value.slice none 0 0, Value.slice none 0 0] 38))
  have n2_ := Aside0.mk (Kd.C_alloc HR0.out (Obj.cells #[Value.slice none 0 0, Value.slice none 0 0] 38))
  have HGR := Aside0.mk (Nat.le_refl w.heap.size)
  generalize w.alloc (Obj.cells #[Value.slice none 0 0, Value.slice none 0 0] 38) = w1 at n0_ n1_ n2_ ⊢
  generalize hgr_ : w.heap.size = gr at n0_ ⊢
  have HGR : Aside0 (w.heap.size ≤ gr) := ⟨Nat.le_of_eq hgr_⟩
  clear hgr_ HR0
  have BR := n0_
  have HB := n1_
  have HR0 := n2_
  clear n0_ n1_ n2_
  obtain ⟨hrz0, hrf0, hrz1, hrf1⟩ := bk2 BR.out
  go_wp2_with (first | (go_at_call 46; (with_reducible refine (impl_parseTree.calls _ _ l0 (ro, false) _ (lC HR0.out) HC0.out A1.out).mono ?_); rintro e w5 ⟨p, rfl, hopt, hb⟩; clear hopt; have n0_ := Aside0.mk (below_step HB.out hb); have n1_ := Aside0.mk (blk_below BR.out hb); clear HB BR hrz0 hrf0 hrz1 hrf1; have HB := n0_; have BR := n1_; clear n0_ n1_ hb; obtain ⟨hrz0, hrf0, hrz1, hrf1⟩ := bk2 BR.out))
  refine bodyPost_ret (Ll.res rfl _ _ _ gr #[.slice none 0 0, .slice none 0 0] rfl (run_loadVar_row _ gr 38 38 #[.slice none 0 0, .slice none 0 0] (0, 0) _ (blk_put (cs := #[.slice none 0 0, .slice none 0 0]) (blk_put (cs := #[.slice none 0 0, .slice none 0 0]) BR.out 0 _ rfl) 1 _ rfl) hu38 rfl Ll.info38)) rfl ?_
  exact ⟨_, _, rfl, Kd.R_nil _ _ _ _ _, Kd.R_nil _ _ _ _ _, below_set (below_set HB.out HGR.out) HGR.out⟩
 | true =>
  rw [if_pos rfl] at h
  cases ro with
  | none => cases h
  | some t =>
   simp only at h
   replace h := lO h
   obtain ⟨q, A2, h⟩ := h
   replace h := lO h
   obtain ⟨b, A3, h⟩ := h
   go_enter Try.func36, Try.ntmps36
   go_upto_region 1 with (fail)
   have n0_ : Aside0 ((w.alloc (Obj.cells #[Value.slice none 0 0, Value.slice none 0 0] 38)).heap[w.heap.size]? = some (Obj.cells #[Value.slice none 0 0, Value.slice none 0 0] 38)) := ⟨blk_new w _⟩
   have n1_ := Aside0.mk (below_alloc (Below.refl w.heap.size w) (Obj.cells #[Value.slice none 0 0, Value.slice none 0 0] 38))
   have n2_ := Aside0.mk (Kd.C_alloc HR0.out (Obj.cells #[Value.slice none 0 0, Value.slice none 0 0] 38))
   have HGR := Aside0.mk (Nat.le_refl w.heap.size)
   generalize w.alloc (Obj.cells #[Value.slice none 0 0, Value.slice none 0 0] 38) = w1 at n0_ n1_ n2_ ⊢
   generalize hgr_ : w.heap.size = gr at n0_ ⊢
   have HGR : Aside0 (w.heap.size ≤ gr) := ⟨Nat.le_of_eq hgr_⟩
   clear hgr_ HR0
   have BR := n0_
   have HB := n1_
   have HR0 := n2_
   clear n0_ n1_ n2_
   obtain ⟨hrz0, hrf0, hrz1, hrf1⟩ := bk2 BR.out
   go_upto_region 4 with (first | (go_at_call 46; (with_reducible refine (impl_parseTree.calls _ _ l0 (some t, true) _ (lC HR0.out) HC0.out A1.out).mono ?_); rintro e w5 ⟨p, rfl, ⟨g, rfl, hin1⟩, hb⟩; have n0_ := Aside0.mk (below_step HB.out hb); have n1_ := Aside0.mk hin1; have n2_ := Aside0.mk (blk_below BR.out hb); clear HB BR hrz0 hrf0 hrz1 hrf1; have HB := n0_; have HI := n1_; have BR := n2_; clear n0_ n1_ n2_ hb hin1))
   go_upto_region 5 with (first | ((with_reducible refine gate_dst (N := 16) rfl ?_); refine bxe 16 #[.slice none 0 0, .slice none 0 0, .int .i64 20] 109 ?_; intro gb hg w7 hbox hb; subst hg; have n0_ := Aside0.mk hbox; have n1_ := Aside0.mk hb; clear hbox hb; have BX := n0_; have HX := n1_; clear n0_ n1_))
   have HWB := Aside0.mk (below_size HB.out)
   have hOk := impl_liner_lay.calls t w7 w5.heap.size w5.heap.size g (Nat.le_refl _) HX.out.size (HI.out.move (S1 := fun k => k < w5.heap.size) (fun k hk _ => HX.out.block k hk) (fun _ hk _ => hk) (Nat.zero_le _))
   have HOK := Aside0.mk (hOk w7 none 0 none 0 ⟨[], [], 20⟩ q (Below.refl _ _) BX.out (Kd.R_nil _ _ _ _ _) (Kd.R_nil _ _ _ _ _) A2.out)
   clear hOk
   go_upto_region 6 with (first | (go_at_call 68; (with_reducible refine HOK.out.mono ?_); rintro e w8 ⟨rfl, A1_, c1_, A2_, c2_, hbx_, ho_, hq_, hb_⟩; have n0_ := Aside0.mk hbx_; have n1_ := Aside0.mk ho_; have n2_ := Aside0.mk hq_; have n3_ : Aside0 (Below w.heap.size w w8) := ⟨HB.out.trans ((HX.out.trans hb_).mono HWB.out)⟩; have n4_ := Aside0.mk (((HX.out.trans hb_).block gr (blk_lt BR.out)).trans BR.out); clear BX HX HB BR HI hbx_ ho_ hq_ hb_; have BX := n0_; have HO := n1_; have HQ := n2_; have HB := n3_; have BR := n4_; clear n0_ n1_ n2_ n3_ n4_; obtain ⟨hrz0, hrf0, hrz1, hrf1⟩ := bk2 BR.out; obtain ⟨hbz0, hbf0, hbz1, hbf1, hbz2, hbf2⟩ := bk3 BX.out))
   have HS8 := Aside0.mk ((Kd.R_reads' HO.out).2)
   have HG8 := Aside0.mk ((Kd.R_reads' HQ.out).2)
   cases b with
   | false =>
    rw [if_neg (by simp)] at h
    simp only [Option.some.injEq, Prod.mk.injEq] at h
    obtain ⟨rfl, rfl, rfl⟩ := h
    go_wp2_with (first | (go_at_call 54; (with_reducible refine (impl_isLined.calls k _ _ q.s _ _ q.g _ _ HS8.out.2 HS8.out.1 HG8.out.2 HG8.out.1 A3.out).mono ?_); rintro e w9 ⟨rfl, hb⟩; have n0_ := Aside0.mk (below_step HB.out hb); have n1_ := Aside0.mk (blk_below BR.out hb); have n2_ := Aside0.mk (blk_below BX.out hb); have n3_ := Aside0.mk (Kd.R_below HO.out hb); have n4_ := Aside0.mk (Kd.R_below HQ.out hb); clear HB BR BX HO HQ HS8 HG8 hrz0 hrf0 hrz1 hrf1 hbz0 hbf0 hbz1 hbf1 hbz2 hbf2 hb; have HB := n0_; have BR := n1_; have BX := n2_; have HO := n3_; have HQ := n4_; clear n0_ n1_ n2_ n3_ n4_; obtain ⟨hrz0, hrf0, hrz1, hrf1⟩ := bk2 BR.out; obtain ⟨hbz0, hbf0, hbz1, hbf1, hbz2, hbf2⟩ := bk3 BX.out))
    refine bodyPost_ret (Ll.res rfl _ _ _ gr #[.slice none 0 0, .slice none 0 0] rfl (run_loadVar_row _ gr 38 38 #[.slice none 0 0, .slice none 0 0] (0, 0) _ (blk_put (cs := #[.slice none 0 0, .slice none 0 0]) (blk_put (cs := #[.slice none 0 0, .slice none 0 0]) BR.out 0 _ rfl) 1 _ rfl) hu38 rfl Ll.info38)) rfl ?_
    exact ⟨_, _, rfl, Kd.R_nil _ _ _ _ _, Kd.R_nil _ _ _ _ _, below_set (below_set HB.out HGR.out) HGR.out⟩
   | true =>
    rw [if_pos rfl] at h
    simp only [Option.some.injEq, Prod.mk.injEq] at h
    obtain ⟨rfl, rfl, rfl⟩ := h
    go_wp2_with (first | (go_at_call 54; (with_reducible refine (impl_isLined.calls k _ _ q.s _ _ q.g _ _ HS8.out.2 HS8.out.1 HG8.out.2 HG8.out.1 A3.out).mono ?_); rintro e w9 ⟨rfl, hb⟩; have n0_ := Aside0.mk (below_step HB.out hb); have n1_ := Aside0.mk (blk_below BR.out hb); have n2_ := Aside0.mk (blk_below BX.out hb); have n3_ := Aside0.mk (Kd.R_below HO.out hb); have n4_ := Aside0.mk (Kd.R_below HQ.out hb); clear HB BR BX HO HQ HS8 HG8 hrz0 hrf0 hrz1 hrf1 hbz0 hbf0 hbz1 hbf1 hbz2 hbf2 hb; have HB := n0_; have BR := n1_; have BX := n2_; have HO := n3_; have HQ := n4_; clear n0_ n1_ n2_ n3_ n4_; obtain ⟨hrz0, hrf0, hrz1, hrf1⟩ := bk2 BR.out; obtain ⟨hbz0, hbf0, hbz1, hbf1, hbz2, hbf2⟩ := bk3 BX.out))
    have n0_ := Aside0.mk (Kd.R_set HO.out BR.out (by decide) 0 (.slice A1_ q.s.length c1_))
    have n1_ := Aside0.mk (Kd.R_set HQ.out BR.out (by decide) 0 (.slice A1_ q.s.length c1_))
    have BR2 := Aside0.mk (blk_put (cs := #[.slice none 0 0, .slice none 0 0]) BR.out 0 (.slice A1_ q.s.length c1_) rfl)
    have n2_ := Aside0.mk (Kd.R_set n0_.out BR2.out (by decide) 1 (.slice A2_ q.g.length c2_))
    have n3_ := Aside0.mk (Kd.R_set n1_.out BR2.out (by decide) 1 (.slice A2_ q.g.length c2_))
    refine bodyPost_ret (Ll.res rfl _ _ _ gr #[.slice A1_ q.s.length c1_, .slice A2_ q.g.length c2_] rfl (run_loadVar_row _ gr 38 38 #[.slice A1_ q.s.length c1_, .slice A2_ q.g.length c2_] (0, 0) _ (blk_put (cs := #[.slice A1_ q.s.length c1_, .slice none 0 0]) BR2.out 1 _ rfl) hu38 rfl Ll.info38)) rfl ?_
    exact ⟨_, _, rfl, Kd.R_lower n2_.out HWB.out, Kd.R_lower n3_.out HWB.out, below_set (below_set HB.out HGR.out) HGR.out⟩
def laws_sameInts.l0 : Nat → List Int → List Int → Int → Int → Option (Bool)
 | 0, _, _, _, _ => none
 | k + 1, x0, x1, x12, x13 => if x13 < x12 then (if 0 ≤ x13 then (if x13 < (x0.length : Int) then (if x13 < (x1.length : Int) then (if (rd x0 x13) = (rd x1 x13) then (laws_sameInts.l0 k x0 x1 x12 (wrap64 (x13 + 1))) else (some false)) else (none)) else (none)) else (none)) else (some true)
def laws_sameInts.f (k : Nat) (l0 : List Int) (l1 : List Int) : Option (Bool) := if (l0.length : Int) = (l1.length : Int) then (laws_sameInts.l0 k l0 l1 (l0.length : Int) 0) else (some false)
set_option maxHeartbeats 8000000 in
set_option maxRecDepth 100000 in
theorem laws_sameInts.calls (k : Nat) (A0 : Option Addr) (c0 : Nat) (l0 : List Int) (A1 : Option Addr) (c1 : Nat) (l1 : List Int) (r : Bool) (w : World) (hr0 : Kd.C (Kd.int .i64) w A0 l0.length l0) (hc0 : l0.length ≤ c0) (hr1 : Kd.C (Kd.int .i64) w A1 l1.length l1) (hc1 : l1.length ≤ c1) (h : laws_sameInts.f k l0 l1 = some r) :
  Calls Try.prog 40 #[.slice A0 l0.length c0, .slice A1 l1.length c1] w fun e w' => e = .returned (.bool r) ∧ Drawn0 w w' := by
 have HR0 := Aside0.mk hr0
 have HC0 := Aside0.mk hc0
 clear hr0 hc0
 have HR1 := Aside0.mk hr1
 have HC1 := Aside0.mk hc1
 clear hr1 hc1
 have H : (if (l0.length : Int) = (l1.length : Int) then (laws_sameInts.l0 k l0 l1 (l0.length : Int) 0) else (some false)) = some r := h
 clear h
 by_cases c3 : (l0.length : Int) = (l1.length : Int)
 ·rw [if_pos c3] at H
  have c3b0 : ((l0.length : Int) == (l1.length : Int)) = true := beq_iff_eq.mpr c3
  have c3b1 : ((l0.length : Int) != (l1.length : Int)) = false := bne_eq_false_iff_eq.mpr c3
  have c3b2 : (l0.length == l1.length) = true := by first | simpa using c3 | (simp at c3 ⊢; omega)
  clear c3
  have H' := Aside0.mk H
  clear H
  go_enter Try.func40, Try.ntmps40
  go_wp2
  repeat (go_quiet (fail); try go_wp2)
  go_loopg [13] k (fun kq v13 w' => ∃ (x13_1 : Int), v13 = .int .i64 x13_1 ∧ Aside0 (laws_sameInts.l0 kq l0 l1 (l0.length : Int) x13_1 = some r) ∧ Aside0 (kq ≤ k) ∧ Drawn0 w w')
  case atStart => exact ⟨(0), lF, H', ⟨Nat.le_refl _⟩, by repeat (first | exact Drawn0.refl _ | apply Drawn0.step)⟩
  case round =>
   clear H'
   try clear c1
   try clear p2
   try clear c3
   try clear c3b0
   try clear c3b1
   try clear c3b2
   obtain ⟨x13_1, rfl, HA, HK1, ⟨m1, rfl⟩⟩ := hrel
   cases gk with
   | zero => exact absurd HA.out (by simp [laws_sameInts.l0])
   | succ k1 =>
    have H := HA.out
    clear HA
    simp only [laws_sameInts.l0] at H
    by_cases c4 : x13_1 < (l0.length : Int)
    ·rw [if_pos c4] at H
     have c4b0 : decide (x13_1 < (l0.length : Int)) = true := decide_eq_true c4
     clear c4
     by_cases c5 : 0 ≤ x13_1
     ·rw [if_pos c5] at H
      have c5b0 : decide (0 ≤ x13_1) = true := decide_eq_true c5
      clear c5
      by_cases c6 : x13_1 < (l0.length : Int)
      ·rw [if_pos c6] at H
       have c6b0 : decide (x13_1 < (l0.length : Int)) = true := decide_eq_true c6
       clear c6
       by_cases c7 : x13_1 < (l1.length : Int)
       ·rw [if_pos c7] at H
        have c7b0 : decide (x13_1 < (l1.length : Int)) = true := decide_eq_true c7
        clear c7
        by_cases c8 : (rd l0 x13_1) = (rd l1 x13_1)
        ·rw [if_pos c8] at H
         have c8b0 : ((rd l0 x13_1) == (rd l1 x13_1)) = true := beq_iff_eq.mpr c8
         have c8b1 : ((rd l0 x13_1) != (rd l1 x13_1)) = false := bne_eq_false_iff_eq.mpr c8
         clear c8
         have H' := Aside0.mk H
         clear H
         have p238 : 0 ≤ (x13_1 : Int) := lD
         have q238 : x13_1 < (l0.length : Int) := lD
         obtain ⟨ad238, e238, hx238_0⟩ := Kd.at_int HR0.out x13_1 p238 q238
         cases e238
         replace p238 := eq_true p238
         replace q238 := eq_true q238
         have p239 : 0 ≤ (x13_1 : Int) := lD
         have q239 : x13_1 < (l1.length : Int) := lD
         obtain ⟨ad239, e239, hx239_0⟩ := Kd.at_int HR1.out x13_1 p239 q239
         cases e239
         replace p239 := eq_true p239
         replace q239 := eq_true q239
         go_wp2
         repeat (go_quiet (fail); try go_wp2)
         go_roundg k1
         case measure => have := HK1.out; omega
         case rel => exact ⟨(wrap64 (x13_1 + 1)), lF, H', ⟨by have := HK1.out; omega⟩, by repeat (first | exact Drawn0.refl _ | apply Drawn0.step)⟩
        ·rw [if_neg c8] at H
         have c8b0 : ((rd l0 x13_1) == (rd l1 x13_1)) = false := beq_eq_false_iff_ne.mpr c8
         have c8b1 : ((rd l0 x13_1) != (rd l1 x13_1)) = true := bne_iff_ne.mpr c8
         obtain rfl := Option.some.inj H
         have p238 : 0 ≤ (x13_1 : Int) := lD
         have q238 : x13_1 < (l0.length : Int) := lD
         obtain ⟨ad238, e238, hx238_0⟩ := Kd.at_int HR0.out x13_1 p238 q238
         cases e238
         replace p238 := eq_true p238
         replace q238 := eq_true q238
         have p239 : 0 ≤ (x13_1 : Int) := lD
         have q239 : x13_1 < (l1.length : Int) := lD
         obtain ⟨ad239, e239, hx239_0⟩ := Kd.at_int HR1.out x13_1 p239 q239
         cases e239
         replace p239 := eq_true p239
         replace q239 := eq_true q239
         go_wp2
         repeat (go_quiet (fail); try go_wp2)
         go_ret
         exact ⟨by first | rfl | (simp; done) | (simp [*]; done), by repeat (first | exact Drawn0.refl _ | apply Drawn0.step)⟩
       ·rw [if_neg c7] at H
        exact absurd H (by simp)
      ·rw [if_neg c6] at H
       exact absurd H (by simp)
     ·rw [if_neg c5] at H
      exact absurd H (by simp)
    ·rw [if_neg c4] at H
     have c4b0 : decide (x13_1 < (l0.length : Int)) = false := decide_eq_false c4
     clear c4
     obtain rfl := Option.some.inj H
     go_wp2
     repeat (go_quiet (fail); try go_wp2)
     go_ret
     exact ⟨by first | rfl | (simp; done) | (simp [*]; done), by repeat (first | exact Drawn0.refl _ | apply Drawn0.step)⟩
 ·rw [if_neg c3] at H
  have c3b0 : ((l0.length : Int) == (l1.length : Int)) = false := beq_eq_false_iff_ne.mpr c3
  have c3b1 : ((l0.length : Int) != (l1.length : Int)) = true := bne_iff_ne.mpr c3
  have c3b2 : (l0.length == l1.length) = false := by first | simpa using c3 | (simp at c3 ⊢; omega)
  obtain rfl := Option.some.inj H
  go_enter Try.func40, Try.ntmps40
  go_wp2
  repeat (go_quiet (fail); try go_wp2)
  go_ret
  exact ⟨by first | rfl | (simp; done) | (simp [*]; done), by repeat (first | exact Drawn0.refl _ | apply Drawn0.step)⟩
end Go.Proofs.Ytgjojppbichaiaa.Q
