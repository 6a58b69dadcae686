-- Written by the program wip/tools/pr.py of this claim's session, over the kit's print.py.
import Derived.Test.YtgjojppbichaiaaQx0
namespace Go.Proofs.Ytgjojppbichaiaa.Q
open Go.RowKit Go.Proofs.YtgjojppbichaiaaW.PrintWords Go.Proofs.YtgjojppbichaiaaW.PrintLast Go.Proofs.YtgjojppbichaiaaW.PrintMore
attribute [local go_sem] max2_int min2_int max_two min_two max_three min_three max_four min_four   -- for this text's walks alone
set_option linter.unusedVariables false
set_option linter.unusedSimpArgs false
theorem Ls.info86 : (Try.prog.info? 86).map (fun i => (i.zero, i.size, i.bytes)) = some (some (.agg #[.int .i64 0, .int .i64 0, .int .i64 0]), 3, 24) := by kernel_rfl
theorem Ls.info63 : (Try.prog.info? 63).map (fun i => (i.zero, i.size, i.bytes)) = some (some (.agg #[.int .i64 0, .int .i64 0, .int .i64 0, .int .i64 0]), 4, 32) := by kernel_rfl
structure Ls.Q where
  s : List S86
  g : List S63
  n : Int
def Ls.Post (T B gb : Nat) (w : World) (S : List S86) (G : List S63) (n : Int) (w' : World) : Prop :=
  ∃ (A1 : Option Addr) (c1 : Nat) (A2 : Option Addr) (c2 : Nat), w'.heap[gb]? = some (.cells #[.slice A1 S.length c1, .slice A2 G.length c2, .int .i64 n] T (0, 0)) ∧ k86.R 86 w' B (fun _ => True) (.slice A1 S.length c1) S ∧ k63.R 63 w' B (fun _ => True) (.slice A2 G.length c2) G ∧ Below B w w'
theorem Ls.drewB {B : Nat} {w w1 : World} (h : Below B w w1) (n : Nat) : Below B w (w1.drewN n) := pw_below_drewN h n
theorem Ls.ret0 {P : Program} {fn : Func} {R : Ending → World → Prop} {a : Act} {w : World} (hr : fn.results = #[]) (hd : a.defers = []) (hR : R (.returned (.tuple #[])) w) : bodyPost P fn R .normal a w :=
  bodyPost_end (results_none hr _ _ _) hd hR
def Ls.put (x : S86) (q : Ls.Q) : Option Ls.Q := if q.s.length < 1000000000000 then some ⟨q.s ++ [x], q.g, q.n⟩ else none
def Ls.grd (x : S63) (q : Ls.Q) : Option Ls.Q := if q.g.length < 1000000000000 then some ⟨q.s, q.g ++ [x], q.n⟩ else none
def Ls.setT (i : Nat) (t : Int) (q : Ls.Q) : Option Ls.Q := if i < q.s.length then some ⟨q.s.set i ⟨(rd_T86 q.s i).f0, (rd_T86 q.s i).f1, t⟩, q.g, q.n⟩ else none
def Ls.setA (i : Nat) (t : Int) (q : Ls.Q) : Option Ls.Q := if i < q.g.length then some ⟨q.s, q.g.set i ⟨(rd_T63 q.g i).f0, (rd_T63 q.g i).f1, (rd_T63 q.g i).f2, t⟩, q.n⟩ else none
abbrev Ls.F := Ls.Q → Option Ls.Q
theorem Ls.cell86 {w : World} {B g c : Nat} {S : List S86} (h : k86.R 86 w B (fun _ => True) (.slice (some ⟨g, 0, none⟩) S.length c) S) {i : Nat} (hi : i < S.length) (t : Int) :
  w.cell? ⟨g, i * 3 + 2, none⟩ = some (.int .i64 (rd_T86 S i).f2) ∧ w.frozen? ⟨g, i * 3 + 2, none⟩ = false ∧ k86.R 86 (w.setCell ⟨g, i * 3 + 2, none⟩ (.int .i64 t)) B (fun _ => True) (.slice (some ⟨g, 0, none⟩) S.length c) (S.set i ⟨(rd_T86 S i).f0, (rd_T86 S i).f1, t⟩) ∧ w.grownBy (w.setCell ⟨g, i * 3 + 2, none⟩ (.int .i64 t)) (some g) := by
  obtain ⟨cs, hl, hM, hcc, hf⟩ := Kd.R_elem h z86 (i : Int) (by omega) (by omega)
  have hM' := k86_openM hM
  have e : (S.getD (i : Int).toNat z86) = rd_T86 S (i : Int) := rfl
  rw [e] at hM'
  subst hM'
  have h1 := hcc 2 _ rfl
  have h2 := hf 2
  obtain ⟨h3, h4⟩ := Kd.R_seg (x' := ⟨(rd_T86 S (i : Int)).f0, (rd_T86 S (i : Int)).f1, t⟩) (okp := fun _ => False) h (i : Int) (by omega) (by omega) hl hcc (seg := [.int .i64 t]) (j := 2) (by show 2 + 1 ≤ 3; decide) (k86_mkM _ _ _ ⟨(rd_T86 S (i : Int)).f0, (rd_T86 S (i : Int)).f1, t⟩) (fun _ hk => hk.elim)
  rw [Int.toNat_natCast] at h1 h2 h3 h4
  exact ⟨h1, h2, h3, h4⟩
theorem Ls.cell63 {w : World} {B g c : Nat} {S : List S63} (h : k63.R 63 w B (fun _ => True) (.slice (some ⟨g, 0, none⟩) S.length c) S) {i : Nat} (hi : i < S.length) (t : Int) :
  w.cell? ⟨g, i * 4 + 3, none⟩ = some (.int .i64 (rd_T63 S i).f3) ∧ w.frozen? ⟨g, i * 4 + 3, none⟩ = false ∧ k63.R 63 (w.setCell ⟨g, i * 4 + 3, none⟩ (.int .i64 t)) B (fun _ => True) (.slice (some ⟨g, 0, none⟩) S.length c) (S.set i ⟨(rd_T63 S i).f0, (rd_T63 S i).f1, (rd_T63 S i).f2, t⟩) ∧ w.grownBy (w.setCell ⟨g, i * 4 + 3, none⟩ (.int .i64 t)) (some g) := by
  obtain ⟨cs, hl, hM, hcc, hf⟩ := Kd.R_elem h z63 (i : Int) (by omega) (by omega)
  have hM' := k63_openM hM
  have e : (S.getD (i : Int).toNat z63) = rd_T63 S (i : Int) := rfl
  rw [e] at hM'
  subst hM'
  have h1 := hcc 3 _ rfl
  have h2 := hf 3
  obtain ⟨h3, h4⟩ := Kd.R_seg (x' := ⟨(rd_T63 S (i : Int)).f0, (rd_T63 S (i : Int)).f1, (rd_T63 S (i : Int)).f2, t⟩) (okp := fun _ => False) h (i : Int) (by omega) (by omega) hl hcc (seg := [.int .i64 t]) (j := 3) (by show 3 + 1 ≤ 4; decide) (k63_mkM _ _ _ ⟨(rd_T63 S (i : Int)).f0, (rd_T63 S (i : Int)).f1, (rd_T63 S (i : Int)).f2, t⟩) (fun _ hk => hk.elim)
  rw [Int.toNat_natCast] at h1 h2 h3 h4
  exact ⟨h1, h2, h3, h4⟩
theorem Ls.setT_some {i : Nat} {t : Int} {q r : Ls.Q} (h : Ls.setT i t q = some r) : i < q.s.length ∧ r.s = q.s.set i ⟨(rd_T86 q.s i).f0, (rd_T86 q.s i).f1, t⟩ ∧ r.g = q.g ∧ r.n = q.n := by
  unfold Ls.setT at h
  split at h
  · rename_i hl
    obtain rfl := Option.some.inj h
    exact ⟨hl, rfl, rfl, rfl⟩
  · cases h
theorem Ls.setA_some {i : Nat} {t : Int} {q r : Ls.Q} (h : Ls.setA i t q = some r) : i < q.g.length ∧ r.s = q.s ∧ r.g = q.g.set i ⟨(rd_T63 q.g i).f0, (rd_T63 q.g i).f1, (rd_T63 q.g i).f2, t⟩ ∧ r.n = q.n := by
  unfold Ls.setA at h
  split at h
  · rename_i hl
    obtain rfl := Option.some.inj h
    exact ⟨hl, rfl, rfl, rfl⟩
  · cases h
def Ls.put3 (x y z : S86) (q : Ls.Q) : Option Ls.Q := if q.s.length < 1000000000000 then some ⟨q.s ++ [x, y, z], q.g, q.n⟩ else none
def Ls.PostV (B gb : Nat) (w : World) (r : Ls.Q) (e : Ending) (w' : World) : Prop := e = .returned (.tuple #[]) ∧ Ls.Post 105 B gb w r.s r.g r.n w' ∧ ∀ (k : Nat) (cs : Array Value), w.heap[k]? = some (.cells cs 72 (0, 0)) → w'.heap[k]? = some (.cells cs 72 (0, 0))
def Ls.node (k n : Int) (fs : List Ls.F) (q : Ls.Q) : Option Ls.Q :=
  if k = 1 then Ls.put ⟨1, n, 0⟩ q
  else if k = 2 then Ls.put ⟨2, n, 0⟩ q
  else match fs[0]? with
    | none => none
    | some f => if k = 6 then (if q.n < 1000000000000 ∧ -1000000000000 < q.n then (Ls.put3 ⟨5, 20 + q.n, 0⟩ ⟨6, 20 + q.n, n⟩ ⟨4, 0, 0⟩ ⟨q.s, q.g, q.n + 1⟩).bind fun q1 => (f q1).bind fun q2 => (Ls.put ⟨4, 0, (q.s.length : Int) + 1⟩ q2).bind fun q3 => Ls.setT (q.s.length + 2) (q3.s.length : Nat) q3 else none)
      else (f q).bind fun q1 => match fs[1]? with
        | none => none
        | some f1 => if k = 3 then f1 q1
          else if k = 4 then (Ls.put ⟨4, 0, 0⟩ q1).bind fun q2 => (Ls.grd ⟨(q.s.length : Nat), (q1.s.length : Nat), n, (q1.s.length : Int) + 1⟩ q2).bind fun q3 => (f1 q3).bind fun q4 => Ls.setT q1.s.length (q4.s.length : Nat) q4
          else if k = 5 then (Ls.grd ⟨(q.s.length : Nat), (q1.s.length : Nat), 0, 0⟩ q1).bind fun q2 => (f1 q2).bind fun q3 => (Ls.put ⟨4, 0, 0⟩ q3).bind fun q4 => (Ls.setA q1.g.length ((q3.s.length : Int) + 1) q4).bind fun q5 => (f1 q5).bind fun q6 => (Ls.put ⟨3, (q1.g.length : Nat), 0⟩ q6).bind fun q7 => Ls.setT q3.s.length (q7.s.length : Nat) q7
          else none
mutual
/-- A tree is laid behind a line. -/
def Ls.lay : S72 → Ls.F
  | ⟨k, n, ts⟩, q => Ls.node k n (Ls.lays ts) q
def Ls.lays : List S72 → List Ls.F
  | [] => []
  | t :: ts => Ls.lay t :: Ls.lays ts
end
theorem Ls.lays_at : ∀ (ts : List S72) (i : Nat) (f : Ls.F), (Ls.lays ts)[i]? = some f → ∃ t, ts[i]? = some t ∧ f = Ls.lay t
  | [], i, f, h => by simp [Ls.lays] at h
  | t :: ts, 0, f, h => by
    simp only [Ls.lays, List.getElem?_cons_zero, Option.some.injEq] at h
    exact ⟨t, rfl, h.symm⟩
  | t :: ts, i + 1, f, h => by
    simp only [Ls.lays, List.getElem?_cons_succ] at h ⊢
    exact Ls.lays_at ts i f h
abbrev Ls.St (T B gb : Nat) (w : World) (q : Ls.Q) (A1 : Option Addr) (c1 : Nat) (A2 : Option Addr) (c2 : Nat) : Prop := w.heap[gb]? = some (.cells #[.slice A1 q.s.length c1, .slice A2 q.g.length c2, .int .i64 q.n] T (0, 0))
abbrev Ls.Ok (w0 : World) (gb : Nat) (f : Ls.F) (kd n : Int) (A : Option Addr) (m c : Nat) : Prop :=
  ∀ (w : World) (A1 : Option Addr) (c1 : Nat) (A2 : Option Addr) (c2 : Nat) (q r : Ls.Q), w0.heap.size ≤ gb → Below w0.heap.size w0 w → Ls.St 105 w0.heap.size gb w q A1 c1 A2 c2 → k86.R 86 w w0.heap.size (fun _ => True) (.slice A1 q.s.length c1) q.s → k63.R 63 w w0.heap.size (fun _ => True) (.slice A2 q.g.length c2) q.g → f q = some r →
    Calls Try.prog 67 #[.pointer (some ⟨gb, 0, none⟩), .agg #[.int .i64 kd, .int .i64 n, .slice A m c]] w (Ls.PostV w0.heap.size gb w r)
theorem Ls.add0 (a : Addr) : a.add 0 = a := by unfold Addr.add; rw [if_pos rfl]
theorem Ls.add3 (a : Addr) : a.add 3 = ⟨a.block, a.off + 3, none⟩ := by unfold Addr.add; rw [if_neg (by decide)]
structure Ls.Nd (w0 : World) (gb : Nat) (A : Option Addr) (m : Nat) (fs : List Ls.F) : Prop where
  kid : ∀ i f, fs[i]? = some f → i < m ∧ ∃ ad k' n' A' m' c', A = some ad ∧ w0.cell? (ad.add (i * 3)) = some (.int .i64 k') ∧ w0.cell? ⟨(ad.add (i * 3)).block, (ad.add (i * 3)).off + 1, none⟩ = some (.int .i64 n') ∧ w0.cell? ⟨(ad.add (i * 3)).block, (ad.add (i * 3)).off + 2, none⟩ = some (.slice A' m' c') ∧ Ls.Ok w0 gb f k' n' A' m' c'
theorem Ls.kid {w0 : World} {gb : Nat} {A : Option Addr} {m : Nat} {fs : List Ls.F} (hN : Ls.Nd w0 gb A m fs) {i : Nat} {f : Ls.F} (hf : fs[i]? = some f) : ∃ ad k' n' A' m' c', A = some ad ∧ i < m ∧ (∀ w, Below w0.heap.size w0 w → w.cell? (ad.add (i * 3)) = some (.int .i64 k') ∧ w.cell? ⟨(ad.add (i * 3)).block, (ad.add (i * 3)).off + 1, none⟩ = some (.int .i64 n') ∧ w.cell? ⟨(ad.add (i * 3)).block, (ad.add (i * 3)).off + 2, none⟩ = some (.slice A' m' c')) ∧ Ls.Ok w0 gb f k' n' A' m' c' := by
  obtain ⟨h1, ad, k', n', A', m', c', h2, h3, h4, h5, h6⟩ := hN.kid i f hf
  exact ⟨ad, k', n', A', m', c', h2, h1, fun w hw => ⟨pw_cell_below hw h3, pw_cell_below hw h4, pw_cell_below hw h5⟩, h6⟩
theorem Ls.put_some {x : S86} {q r : Ls.Q} (h : Ls.put x q = some r) : q.s.length < 1000000000000 ∧ r.s = q.s ++ [x] ∧ r.g = q.g ∧ r.n = q.n := by
  unfold Ls.put at h
  split at h
  · rename_i hl
    obtain rfl := Option.some.inj h
    exact ⟨hl, rfl, rfl, rfl⟩
  · cases h
theorem Ls.grd_some {x : S63} {q r : Ls.Q} (h : Ls.grd x q = some r) : q.g.length < 1000000000000 ∧ r.s = q.s ∧ r.g = q.g ++ [x] ∧ r.n = q.n := by
  unfold Ls.grd at h
  split at h
  · rename_i hl
    obtain rfl := Option.some.inj h
    exact ⟨hl, rfl, rfl, rfl⟩
  · cases h
theorem Ls.put3_some {x y z : S86} {q r : Ls.Q} (h : Ls.put3 x y z q = some r) : q.s.length < 1000000000000 ∧ r.s = q.s ++ [x, y, z] ∧ r.g = q.g ∧ r.n = q.n := by
  unfold Ls.put3 at h
  split at h
  · rename_i hl
    obtain rfl := Option.some.inj h
    exact ⟨hl, rfl, rfl, rfl⟩
  · cases h
theorem Ls.alloc_size (w : World) (o : Obj) : (w.alloc o).heap.size = w.heap.size + 1 := by unfold World.alloc; exact Array.size_push ..
structure Ls.I (w0 : World) (gb gt : Nat) (cs : Array Value) (w W : World) (q : Ls.Q) (A1 : Option Addr) (c1 : Nat) (A2 : Option Addr) (c2 : Nat) : Prop where
  bx : Ls.St 105 w0.heap.size gb W q A1 c1 A2 c2
  ho : k86.R 86 W w0.heap.size (fun _ => True) (.slice A1 q.s.length c1) q.s
  hq : k63.R 63 W w0.heap.size (fun _ => True) (.slice A2 q.g.length c2) q.g
  hb : Below w0.heap.size w W
  hs : w0.heap.size ≤ W.heap.size
  bk : W.heap[gt]? = some (.cells cs 72 (0, 0))
  hk : ∀ (k : Nat) (cs : Array Value), w.heap[k]? = some (.cells cs 72 (0, 0)) → W.heap[k]? = some (.cells cs 72 (0, 0))
section
variable {w0 w W w6 : World} {gb gt c1 c2 : Nat} {cs : Array Value} {q r : Ls.Q} {A1 A2 : Option Addr} {v6 : Value}
theorem Ls.I.drew (h : Ls.I w0 gb gt cs w W q A1 c1 A2 c2) : Ls.I w0 gb gt cs w W.drew q A1 c1 A2 c2 :=
  ⟨blk_drew h.bx, Kd.R_drew h.ho, Kd.R_drew h.hq, h.hb.drew, h.hs, blk_drew h.bk, fun k cs z => blk_drew (h.hk k cs z)⟩
theorem Ls.I.far (h : Ls.I w0 gb gt cs w W q A1 c1 A2 c2) (hg : W.grownBy w6 (Value.slice A1 q.s.length c1).ownBlock) : Ls.St 105 w0.heap.size gb w6 q A1 c1 A2 c2 ∧ w6.heap[gt]? = some (.cells cs 72 (0, 0)) ∧ (∀ (k : Nat) (cs : Array Value), w.heap[k]? = some (.cells cs 72 (0, 0)) → w6.heap[k]? = some (.cells cs 72 (0, 0))) ∧ w0.heap.size ≤ w6.heap.size :=
  ⟨blk_grown h.bx hg (Kd.R_ne h.ho h.bx (by decide)), blk_grown h.bk hg (Kd.R_ne h.ho h.bk (by decide)), fun k cs z => blk_grown (h.hk k cs z) hg (Kd.R_ne h.ho (h.hk k cs z) (by decide)), Nat.le_trans h.hs hg.size⟩
theorem Ls.I.far2 (h : Ls.I w0 gb gt cs w W q A1 c1 A2 c2) (hg : W.grownBy w6 (Value.slice A2 q.g.length c2).ownBlock) : Ls.St 105 w0.heap.size gb w6 q A1 c1 A2 c2 ∧ w6.heap[gt]? = some (.cells cs 72 (0, 0)) ∧ (∀ (k : Nat) (cs : Array Value), w.heap[k]? = some (.cells cs 72 (0, 0)) → w6.heap[k]? = some (.cells cs 72 (0, 0))) ∧ w0.heap.size ≤ w6.heap.size :=
  ⟨blk_grown h.bx hg (Kd.R_ne h.hq h.bx (by decide)), blk_grown h.bk hg (Kd.R_ne h.hq h.bk (by decide)), fun k cs z => blk_grown (h.hk k cs z) hg (Kd.R_ne h.hq (h.hk k cs z) (by decide)), Nat.le_trans h.hs hg.size⟩
theorem Ls.I.cell (h : Ls.I w0 gb gt cs w W q A1 c1 A2 c2) (hgb : w0.heap.size ≤ gb) (j : Nat) (u : Value) : k86.R 86 (W.setCell ⟨gb, j, none⟩ u) w0.heap.size (fun _ => True) (.slice A1 q.s.length c1) q.s ∧ k63.R 63 (W.setCell ⟨gb, j, none⟩ u) w0.heap.size (fun _ => True) (.slice A2 q.g.length c2) q.g ∧ Below w0.heap.size w (W.setCell ⟨gb, j, none⟩ u) ∧ w0.heap.size ≤ (W.setCell ⟨gb, j, none⟩ u).heap.size ∧ (W.setCell ⟨gb, j, none⟩ u).heap[gt]? = some (.cells cs 72 (0, 0)) ∧ ∀ (k : Nat) (cs : Array Value), w.heap[k]? = some (.cells cs 72 (0, 0)) → (W.setCell ⟨gb, j, none⟩ u).heap[k]? = some (.cells cs 72 (0, 0)) :=
  ⟨Kd.R_set h.ho h.bx (by decide) j u, Kd.R_set h.hq h.bx (by decide) j u, h.hb.setCell (p := ⟨gb, j, none⟩) hgb u, Nat.le_trans h.hs (by simp [World.setCell]), blk_far h.bk (blk_ne h.bk h.bx (by decide)) u, fun k cs z => blk_far (h.hk k cs z) (blk_ne (h.hk k cs z) h.bx (by decide)) u⟩
theorem Ls.I.put {ys : List S86} {m : Nat} (h : Ls.I w0 gb gt cs w W q A1 c1 A2 c2) (hgb : w0.heap.size ≤ gb) (ho : k86.R 86 w6 w0.heap.size (fun _ => True) v6 (q.s ++ ys)) (hb : Below w0.heap.size w w6) (hg : W.grownBy w6 (Value.slice A1 q.s.length c1).ownBlock) (hm : ys.length = m) (es : r.s = q.s ++ ys) (eg : r.g = q.g) (en : r.n = q.n) :
    ∃ Ap cp, v6 = .slice Ap (q.s.length + m) cp ∧ Ls.St 105 w0.heap.size gb w6 q A1 c1 A2 c2 ∧ w6.heap[gt]? = some (.cells cs 72 (0, 0)) ∧ Ls.I w0 gb gt cs w (w6.setCell ⟨gb, 0, none⟩ (.slice Ap (q.s.length + m) cp)) r Ap cp A2 c2 := by
  obtain ⟨Ap, cp, rfl⟩ := Kd.R_slice ho
  rw [List.length_append, hm] at ho ⊢
  obtain ⟨f1, f2, f3, f4⟩ := h.far hg
  refine ⟨Ap, cp, rfl, f1, f2, ?_⟩
  have e : r.s.length = q.s.length + m := by rw [es, List.length_append, hm]
  refine ⟨?_, ?_, ?_, hb.setCell (p := ⟨gb, 0, none⟩) hgb _, Nat.le_trans f4 (by simp [World.setCell]), blk_far f2 (blk_ne f2 f1 (by decide)) _, fun k cs z => blk_far (f3 k cs z) (blk_ne (f3 k cs z) f1 (by decide)) _⟩
  · unfold Ls.St; rw [e, eg, en]; exact blk_put f1 0 _ rfl
  · rw [e, es]; exact Kd.R_set ho f1 (by decide) 0 _
  · rw [eg]; exact Kd.R_set (Kd.R_over h.hq h.ho (by decide) hg) f1 (by decide) 0 _
theorem Ls.I.grd {x : S63} (h : Ls.I w0 gb gt cs w W q A1 c1 A2 c2) (hgb : w0.heap.size ≤ gb) (ho : k63.R 63 w6 w0.heap.size (fun _ => True) v6 (q.g ++ [x])) (hb : Below w0.heap.size w w6) (hg : W.grownBy w6 (Value.slice A2 q.g.length c2).ownBlock) (es : r.s = q.s) (eg : r.g = q.g ++ [x]) (en : r.n = q.n) :
    ∃ Ap cp, v6 = .slice Ap (q.g.length + 1) cp ∧ Ls.St 105 w0.heap.size gb w6 q A1 c1 A2 c2 ∧ w6.heap[gt]? = some (.cells cs 72 (0, 0)) ∧ Ls.I w0 gb gt cs w (w6.setCell ⟨gb, 1, none⟩ (.slice Ap (q.g.length + 1) cp)) r A1 c1 Ap cp := by
  obtain ⟨Ap, cp, rfl⟩ := Kd.R_slice ho
  rw [List.length_append, List.length_singleton] at ho ⊢
  obtain ⟨f1, f2, f3, f4⟩ := h.far2 hg
  refine ⟨Ap, cp, rfl, f1, f2, ?_⟩
  have e : r.g.length = q.g.length + 1 := by rw [eg, List.length_append, List.length_singleton]
  refine ⟨?_, ?_, ?_, hb.setCell (p := ⟨gb, 1, none⟩) hgb _, Nat.le_trans f4 (by simp [World.setCell]), blk_far f2 (blk_ne f2 f1 (by decide)) _, fun k cs z => blk_far (f3 k cs z) (blk_ne (f3 k cs z) f1 (by decide)) _⟩
  · unfold Ls.St; rw [e, es, en]; exact blk_put f1 1 _ rfl
  · rw [es]; exact Kd.R_set (Kd.R_over h.ho h.hq (by decide) hg) f1 (by decide) 1 _
  · rw [e, eg]; exact Kd.R_set ho f1 (by decide) 1 _
theorem Ls.I.formT {i : Nat} (h : Ls.I w0 gb gt cs w W q A1 c1 A2 c2) (hi : i < q.s.length) : ∃ g, A1 = some ⟨g, 0, none⟩ ∧ W.cell? ⟨g, i * 3 + 2, none⟩ = some (.int .i64 (rd_T86 q.s i).f2) ∧ W.frozen? ⟨g, i * 3 + 2, none⟩ = false := by
  obtain ⟨g, c, e, _, _, _⟩ := Kd.R_form h.ho (Nat.lt_of_le_of_lt (Nat.zero_le _) hi)
  injection e with e1 e2 e3
  subst e1
  obtain ⟨h1, h2, _, _⟩ := Ls.cell86 h.ho hi 0
  exact ⟨g, rfl, h1, h2⟩
theorem Ls.I.formA {i : Nat} (h : Ls.I w0 gb gt cs w W q A1 c1 A2 c2) (hi : i < q.g.length) : ∃ g, A2 = some ⟨g, 0, none⟩ ∧ W.cell? ⟨g, i * 4 + 3, none⟩ = some (.int .i64 (rd_T63 q.g i).f3) ∧ W.frozen? ⟨g, i * 4 + 3, none⟩ = false := by
  obtain ⟨g, c, e, _, _, _⟩ := Kd.R_form h.hq (Nat.lt_of_le_of_lt (Nat.zero_le _) hi)
  injection e with e1 e2 e3
  subst e1
  obtain ⟨h1, h2, _, _⟩ := Ls.cell63 h.hq hi 0
  exact ⟨g, rfl, h1, h2⟩
theorem Ls.I.setT {i g : Nat} {t : Int} (h : Ls.I w0 gb gt cs w W q (some ⟨g, 0, none⟩) c1 A2 c2) (hs : Ls.setT i t q = some r) : Ls.I w0 gb gt cs w (W.setCell ⟨g, i * 3 + 2, none⟩ (.int .i64 t)) r (some ⟨g, 0, none⟩) c1 A2 c2 := by
  obtain ⟨hi, es, eg, en⟩ := Ls.setT_some hs
  obtain ⟨_, _, hr, hg⟩ := Ls.cell86 h.ho hi t
  obtain ⟨f1, f2, f3, f4⟩ := h.far hg
  refine ⟨?_, ?_, ?_, h.hb.setCell (p := ⟨g, i * 3 + 2, none⟩) (Kd.R_base h.ho g rfl) _, f4, f2, f3⟩
  · unfold Ls.St; rw [es, eg, en, List.length_set]; exact f1
  · rw [es, List.length_set]; exact hr
  · rw [eg]; exact Kd.R_over h.hq h.ho (by decide) hg
theorem Ls.I.setA {i g : Nat} {t : Int} (h : Ls.I w0 gb gt cs w W q A1 c1 (some ⟨g, 0, none⟩) c2) (hs : Ls.setA i t q = some r) : Ls.I w0 gb gt cs w (W.setCell ⟨g, i * 4 + 3, none⟩ (.int .i64 t)) r A1 c1 (some ⟨g, 0, none⟩) c2 := by
  obtain ⟨hi, es, eg, en⟩ := Ls.setA_some hs
  obtain ⟨_, _, hr, hg⟩ := Ls.cell63 h.hq hi t
  obtain ⟨f1, f2, f3, f4⟩ := h.far2 hg
  refine ⟨?_, ?_, ?_, h.hb.setCell (p := ⟨g, i * 4 + 3, none⟩) (Kd.R_base h.hq g rfl) _, f4, f2, f3⟩
  · unfold Ls.St; rw [es, eg, en, List.length_set]; exact f1
  · rw [es]; exact Kd.R_over h.ho h.hq (by decide) hg
  · rw [eg, List.length_set]; exact hr
theorem Ls.I.call {e : Ending} (h : Ls.I w0 gb gt cs w W q A1 c1 A2 c2) (hp : Ls.PostV w0.heap.size gb W r e w6) : e = .returned (.tuple #[]) ∧ ∃ A1 c1 A2 c2, Ls.I w0 gb gt cs w w6 r A1 c1 A2 c2 := by
  obtain ⟨he, ⟨A1, c1, A2, c2, h1, h2, h3, h4⟩, h5⟩ := hp
  exact ⟨he, A1, c1, A2, c2, h1, h2, h3, h.hb.trans h4, Nat.le_trans h.hs h4.size, h5 _ _ h.bk, fun k cs z => h5 k cs (h.hk k cs z)⟩
theorem Ls.I.start (hs : w0.heap.size ≤ w.heap.size) (bx : Ls.St 105 w0.heap.size gb w q A1 c1 A2 c2) (ho : k86.R 86 w w0.heap.size (fun _ => True) (.slice A1 q.s.length c1) q.s) (hq : k63.R 63 w w0.heap.size (fun _ => True) (.slice A2 q.g.length c2) q.g) (hbox : W.heap[gt]? = some (.cells cs 72 (0, 0))) (hb : Below w.heap.size w W) : Ls.I w0 gb gt cs w W q A1 c1 A2 c2 :=
  ⟨blk_below bx hb, Kd.R_below ho hb, Kd.R_below hq hb, hb.mono hs, Nat.le_trans hs hb.size, hbox, fun k cs z => blk_below z hb⟩
theorem Ls.I.inc {m : Int} (h : Ls.I w0 gb gt cs w W q A1 c1 A2 c2) (hgb : w0.heap.size ≤ gb) : Ls.I w0 gb gt cs w (W.setCell ⟨gb, 2, none⟩ (.int .i64 m)) ⟨q.s, q.g, m⟩ A1 c1 A2 c2 := by
  obtain ⟨a, b, c, d, e, f⟩ := h.cell hgb 2 (.int .i64 m)
  exact ⟨blk_put h.bx 2 _ rfl, a, b, c, d, e, f⟩
end
theorem Ls.grown_alloc {w w1 : World} {o : Obj} {v : Option Nat} (h : (w.alloc o).grownBy w1 v) : w.grownBy w1 v := by
  obtain ⟨h1, h2, h3, h4, h5⟩ := h
  refine ⟨h1, h2, h3, by rw [Ls.alloc_size] at h4; omega, fun k hk hv => ?_⟩
  rw [h5 k (by rw [Ls.alloc_size]; omega) hv]
  exact (below_alloc (Below.refl w.heap.size w) o).block k hk
theorem Ls.three (w : World) (x y z : S86) : ReadsRow (fun (x : S86) (cs : List Value) => cs = [.int .i64 x.f0, .int .i64 x.f1, .int .i64 x.f2]) 3 (w.alloc (.cells #[.int .i64 x.f0, .int .i64 x.f1, .int .i64 x.f2, .int .i64 y.f0, .int .i64 y.f1, .int .i64 y.f2, .int .i64 z.f0, .int .i64 z.f1, .int .i64 z.f2] 86 (0, 0))) (some ⟨w.heap.size, 0, none⟩) 3 [x, y, z] := by
  refine ⟨rfl, by decide, fun _ => ⟨_, rfl, fun j p hj => ⟨[.int .i64 p.f0, .int .i64 p.f1, .int .i64 p.f2], rfl, rfl, fun i u hu => ?_⟩⟩⟩
  have hb := blk_new w (.cells #[.int .i64 x.f0, .int .i64 x.f1, .int .i64 x.f2, .int .i64 y.f0, .int .i64 y.f1, .int .i64 y.f2, .int .i64 z.f0, .int .i64 z.f1, .int .i64 z.f2] 86 (0, 0))
  rw [add_plain, blk_cell hb]
  match j, i, hj, hu with
  | 0, 0, hj, hu => cases hj; exact hu
  | 0, 1, hj, hu => cases hj; exact hu
  | 0, 2, hj, hu => cases hj; exact hu
  | 0, i + 3, hj, hu => simp at hu
  | 1, 0, hj, hu => cases hj; exact hu
  | 1, 1, hj, hu => cases hj; exact hu
  | 1, 2, hj, hu => cases hj; exact hu
  | 1, i + 3, hj, hu => simp at hu
  | 2, 0, hj, hu => cases hj; exact hu
  | 2, 1, hj, hu => cases hj; exact hu
  | 2, 2, hj, hu => cases hj; exact hu
  | 2, i + 3, hj, hu => simp at hu
  | j + 3, i, hj, hu => simp at hj
set_option maxHeartbeats 16000000 in
set_option maxRecDepth 100000 in
theorem Ls.node_ok {w0 : World} {gb : Nat} {k n : Int} {A : Option Addr} {m c : Nat} {fs : List Ls.F} (hN : Ls.Nd w0 gb A m fs) : Ls.Ok w0 gb (Ls.node k n fs) k n A m c := by
 intro w A1_ c1_ A2_ c2_ q r hgs hB0 hbx hS hG h
 have hu35 := Try.underlying35
 have hu36 := Try.underlying36
 have hu86 := Try.underlying86
 have hu63 := Try.underlying63
 have hu105 := Try.underlying105
 have hu72 := Try.underlying72
 have hu70 := Try.underlying70
 have HN := Aside0.mk hN
 have BX := Aside0.mk hbx
 have HO := Aside0.mk hS
 have HQ := Aside0.mk hG
 have HB0 := Aside0.mk hB0
 have HGS := Aside0.mk hgs
 have HS := Aside0.mk hB0.size
 clear hbx hS hG hB0 hN hgs
 unfold Ls.node at h
 obtain ⟨hbz0, hbf0, hbz1, hbf1, hbz2, hbf2⟩ := bk3 BX.out
 by_cases k1 : k = 1
 ·rw [if_pos k1] at h
  subst k1
  have B1 := Aside0.mk h
  clear h
  go_enter Try.func67, Try.ntmps67
  go_upto_region 1 with (first | ((with_reducible refine gate_dst (N := 3) rfl ?_); refine bxe 3 #[.int .i64 1, .int .i64 n, .slice A m c] 72 ?_; intro gt hgt_ w4 hbox hb_; have II := Aside0.mk (Ls.I.start HS.out BX.out HO.out HQ.out hbox hb_); clear BX HO HQ HS hbz0 hbf0 hbz1 hbf1 hbz2 hbf2 hbox hb_ hgt_; obtain ⟨hcz0, hfz0, hcz1, hfz1, hcz2, hfz2⟩ := bk3 II.out.bk; obtain ⟨hbz0, hbf0, hbz1, hbf1, hbz2, hbf2⟩ := bk3 II.out.bx))
  go_upto_region 4 with (fail)
  obtain ⟨hl_, es_, eg_, en_⟩ := Ls.put_some B1.out
  have HL := Aside0.mk hl_
  clear hl_
  refine start_ (n := 13) (S := fun w' => w'.cell? ⟨gb, 0, none⟩ = some (.slice A1_ q.s.length c1_) ∧ w'.frozen? ⟨gb, 0, none⟩ = false ∧ w'.cell? ⟨gb, 1, none⟩ = some (.slice A2_ q.g.length c2_) ∧ w'.frozen? ⟨gb, 1, none⟩ = false ∧ w'.cell? ⟨gt, 1, none⟩ = some (.int .i64 n)) (ds := [12]) (bs 13 0) kR rfl kR ⟨hbz0, hbf0, hbz1, hbf1, hcz1⟩ (fun hHeld => ?_)
  have hI := II.out.drew
  clear II hcz0 hfz0 hcz1 hfz1 hcz2 hfz2 hbz0 hbf0 hbz1 hbf1 hbz2 hbf2
  generalize hwd_ : World.drew _ = w3 at hI hHeld ⊢
  have II := Aside0.mk hI
  clear hwd_ hI
  refine pur_ 0 19 (bs 13 1) kR ?_
  refine pur_ 1 20 (bs 13 3) kR ?_
  refine pur_ 2 21 (bs 13 7) kR ?_
  refine pur_ 3 22 (bs 13 15) kR ?_
  refine pur_ 5 24 (bs 13 47) kR ?_
  refine tak_ 4 23 (bs 13 63) kR hHeld ?_
  refine tak_ 6 25 (bs 13 127) kR hHeld ?_
  refine pur_ 7 26 (bs 13 255) kR ?_
  refine one_ (i := 8) (N := some 27) (bs 13 511) rfl rfl kR (by decide) (fun K hK => ?_)
  refine value_ (w1 := ?_) (v := ?_) (by rfl) rfl ?_ ?_
  rotate_left 2
  ·go_simp
   constructor
   ·rfl
   ·rfl
  refine hK.out _ _ ⟨bZ (bA (lK II.out.bx) _) 0, blk_frozen (bA (lK II.out.bx) _) 0, bZ (bA (lK II.out.bx) _) 1, blk_frozen (bA (lK II.out.bx) _) 1, bZ (bA (lK II.out.bk) _) 1⟩ (fun hHeld => ?_)
  clear hK K
  refine norm_ (a' := ?_) ?_ ?_
  rotate_left
  ·show Act.put _ (some 27) _ = _
   simp only [Act.put, List.setIfInBounds_toArray, List.set_cons_zero, List.set_cons_succ, i64_w, i32_w]
   rfl
  refine one_ (i := 9) (N := some 28) (bs 13 1023) rfl rfl kR (by decide) (fun K hK => ?_)
  refine Kd.R_append_step k86 (w0 := w) w0.heap.size (by rfl) (.tmp 23) (.tmp 27) 35 86 (.agg #[.int .i64 0, .int .i64 0, .int .i64 0]) 24 rfl Try.underlying35 Ls.info86 rfl (by decide) (by omega) (.slice A1_ q.s.length c1_) q.s (⟨1, n, 0⟩ : S86) [.int .i64 1, .int .i64 n, .int .i64 0] (fun _ => True) (fun _ => False) rfl rfl ?aP (fun _ hk => hk.elim) (fun _ _ => trivial) ?aO ?aB ?aS ?aL ?_
  (case aP => exact k86_mkM _ _ _ (⟨1, n, 0⟩ : S86))
  (case aO => exact lR II.out.ho)
  (case aB => exact II.out.hb)
  (case aS => exact II.out.hs)
  (case aL => have := HL.out; omega)
  intro v6 w6 ho hb hg hat
  obtain ⟨Ap, cp, rfl, hx6_, hk6_, hI⟩ := II.out.put (r := r) HGS.out ho hb hg rfl es_ eg_ en_
  clear II ho hb hg hat
  refine hK.out _ _ ⟨bZ (hx6_) 0, blk_frozen (hx6_) 0, bZ (hx6_) 1, blk_frozen (hx6_) 1, bZ (hk6_) 1⟩ (fun hHeld => ?_)
  clear hK K
  refine norm_ (a' := ?_) ?_ ?_
  rotate_left
  ·show Act.put _ (some 28) _ = _
   simp only [Act.put, List.setIfInBounds_toArray, List.set_cons_zero, List.set_cons_succ, i64_w, i32_w]
   rfl
  refine pur_ 10 29 (bs 13 2047) kR ?_
  refine pur_ 11 30 (bs 13 4095) kR ?_
  refine last_ (i := 12) (N := none) (bs 13 8191) rfl rfl kR (by decide) (fun K hK => ?_)
  have hs0_ := hHeld.1
  have hs1_ := hHeld.2.1
  have hs2_ := hHeld.2.2.1
  have hs3_ := hHeld.2.2.2.1
  refine skip_ (w1 := World.setCell w6 ⟨gb, 0, none⟩ (.slice Ap (q.s.length + 1) cp)) (by rfl) rfl (by first | (go_simp; done) | (go_simp; rfl)) ?_
  refine hK.out _ _ ?_
  clear hK K
  refine done_ kR ?_
  clear hHeld HL hs0_ hs1_ hs2_ hs3_
  generalize World.setCell w6 ⟨gb, 0, none⟩ (.slice Ap (q.s.length + 1) cp) = w7 at hI ⊢
  have II := Aside0.mk hI
  clear hI hx6_ hk6_ es_ eg_ en_
  obtain ⟨hcz0, hfz0, hcz1, hfz1, hcz2, hfz2⟩ := bk3 II.out.bk; obtain ⟨hbz0, hbf0, hbz1, hbf1, hbz2, hbf2⟩ := bk3 II.out.bx
  obtain ⟨A1_, c1_, eA_, ec_⟩ : ∃ A1_ c1_, A1_ = Ap ∧ c1_ = cp := ⟨_, _, rfl, rfl⟩
  subst eA_ ec_
  go_wp2
  refine Ls.ret0 rfl rfl ?_
  exact ⟨rfl, ⟨_, _, _, _, II.out.bx, II.out.ho, II.out.hq, II.out.hb⟩, II.out.hk⟩
 ·rw [if_neg k1] at h
  have k1b : (k == 1) = false := beq_eq_false_iff_ne.mpr k1
  by_cases k2 : k = 2
  ·rw [if_pos k2] at h
   subst k2
   have B1 := Aside0.mk h
   clear h
   go_enter Try.func67, Try.ntmps67
   go_upto_region 1 with (first | ((with_reducible refine gate_dst (N := 3) rfl ?_); refine bxe 3 #[.int .i64 2, .int .i64 n, .slice A m c] 72 ?_; intro gt hgt_ w4 hbox hb_; have II := Aside0.mk (Ls.I.start HS.out BX.out HO.out HQ.out hbox hb_); clear BX HO HQ HS hbz0 hbf0 hbz1 hbf1 hbz2 hbf2 hbox hb_ hgt_; obtain ⟨hcz0, hfz0, hcz1, hfz1, hcz2, hfz2⟩ := bk3 II.out.bk; obtain ⟨hbz0, hbf0, hbz1, hbf1, hbz2, hbf2⟩ := bk3 II.out.bx))
   go_upto_region 6 with (fail)
   obtain ⟨hl_, es_, eg_, en_⟩ := Ls.put_some B1.out
   have HL := Aside0.mk hl_
   clear hl_
   refine start_ (n := 13) (S := fun w' => w'.cell? ⟨gb, 0, none⟩ = some (.slice A1_ q.s.length c1_) ∧ w'.frozen? ⟨gb, 0, none⟩ = false ∧ w'.cell? ⟨gb, 1, none⟩ = some (.slice A2_ q.g.length c2_) ∧ w'.frozen? ⟨gb, 1, none⟩ = false ∧ w'.cell? ⟨gt, 1, none⟩ = some (.int .i64 n)) (ds := [12]) (bs 13 0) kR rfl kR ⟨hbz0, hbf0, hbz1, hbf1, hcz1⟩ (fun hHeld => ?_)
   have hI := II.out.drew
   clear II hcz0 hfz0 hcz1 hfz1 hcz2 hfz2 hbz0 hbf0 hbz1 hbf1 hbz2 hbf2
   generalize hwd_ : World.drew _ = w3 at hI hHeld ⊢
   have II := Aside0.mk hI
   clear hwd_ hI
   refine pur_ 0 33 (bs 13 1) kR ?_
   refine pur_ 1 34 (bs 13 3) kR ?_
   refine pur_ 2 35 (bs 13 7) kR ?_
   refine pur_ 3 36 (bs 13 15) kR ?_
   refine pur_ 5 38 (bs 13 47) kR ?_
   refine tak_ 4 37 (bs 13 63) kR hHeld ?_
   refine tak_ 6 39 (bs 13 127) kR hHeld ?_
   refine pur_ 7 40 (bs 13 255) kR ?_
   refine one_ (i := 8) (N := some 41) (bs 13 511) rfl rfl kR (by decide) (fun K hK => ?_)
   refine value_ (w1 := ?_) (v := ?_) (by rfl) rfl ?_ ?_
   rotate_left 2
   ·go_simp
    constructor
    ·rfl
    ·rfl
   refine hK.out _ _ ⟨bZ (bA (lK II.out.bx) _) 0, blk_frozen (bA (lK II.out.bx) _) 0, bZ (bA (lK II.out.bx) _) 1, blk_frozen (bA (lK II.out.bx) _) 1, bZ (bA (lK II.out.bk) _) 1⟩ (fun hHeld => ?_)
   clear hK K
   refine norm_ (a' := ?_) ?_ ?_
   rotate_left
   ·show Act.put _ (some 41) _ = _
    simp only [Act.put, List.setIfInBounds_toArray, List.set_cons_zero, List.set_cons_succ, i64_w, i32_w]
    rfl
   refine one_ (i := 9) (N := some 42) (bs 13 1023) rfl rfl kR (by decide) (fun K hK => ?_)
   refine Kd.R_append_step k86 (w0 := w) w0.heap.size (by rfl) (.tmp 37) (.tmp 41) 35 86 (.agg #[.int .i64 0, .int .i64 0, .int .i64 0]) 24 rfl Try.underlying35 Ls.info86 rfl (by decide) (by omega) (.slice A1_ q.s.length c1_) q.s (⟨2, n, 0⟩ : S86) [.int .i64 2, .int .i64 n, .int .i64 0] (fun _ => True) (fun _ => False) rfl rfl ?aP (fun _ hk => hk.elim) (fun _ _ => trivial) ?aO ?aB ?aS ?aL ?_
   (case aP => exact k86_mkM _ _ _ (⟨2, n, 0⟩ : S86))
   (case aO => exact lR II.out.ho)
   (case aB => exact II.out.hb)
   (case aS => exact II.out.hs)
   (case aL => have := HL.out; omega)
   intro v6 w6 ho hb hg hat
   obtain ⟨Ap, cp, rfl, hx6_, hk6_, hI⟩ := II.out.put (r := r) HGS.out ho hb hg rfl es_ eg_ en_
   clear II ho hb hg hat
   refine hK.out _ _ ⟨bZ (hx6_) 0, blk_frozen (hx6_) 0, bZ (hx6_) 1, blk_frozen (hx6_) 1, bZ (hk6_) 1⟩ (fun hHeld => ?_)
   clear hK K
   refine norm_ (a' := ?_) ?_ ?_
   rotate_left
   ·show Act.put _ (some 42) _ = _
    simp only [Act.put, List.setIfInBounds_toArray, List.set_cons_zero, List.set_cons_succ, i64_w, i32_w]
    rfl
   refine pur_ 10 43 (bs 13 2047) kR ?_
   refine pur_ 11 44 (bs 13 4095) kR ?_
   refine last_ (i := 12) (N := none) (bs 13 8191) rfl rfl kR (by decide) (fun K hK => ?_)
   have hs0_ := hHeld.1
   have hs1_ := hHeld.2.1
   have hs2_ := hHeld.2.2.1
   have hs3_ := hHeld.2.2.2.1
   refine skip_ (w1 := World.setCell w6 ⟨gb, 0, none⟩ (.slice Ap (q.s.length + 1) cp)) (by rfl) rfl (by first | (go_simp; done) | (go_simp; rfl)) ?_
   refine hK.out _ _ ?_
   clear hK K
   refine done_ kR ?_
   clear hHeld HL hs0_ hs1_ hs2_ hs3_
   generalize World.setCell w6 ⟨gb, 0, none⟩ (.slice Ap (q.s.length + 1) cp) = w7 at hI ⊢
   have II := Aside0.mk hI
   clear hI hx6_ hk6_ es_ eg_ en_
   obtain ⟨hcz0, hfz0, hcz1, hfz1, hcz2, hfz2⟩ := bk3 II.out.bk; obtain ⟨hbz0, hbf0, hbz1, hbf1, hbz2, hbf2⟩ := bk3 II.out.bx
   obtain ⟨A1_, c1_, eA_, ec_⟩ : ∃ A1_ c1_, A1_ = Ap ∧ c1_ = cp := ⟨_, _, rfl, rfl⟩
   subst eA_ ec_
   go_wp2
   refine Ls.ret0 rfl rfl ?_
   exact ⟨rfl, ⟨_, _, _, _, II.out.bx, II.out.ho, II.out.hq, II.out.hb⟩, II.out.hk⟩
  ·rw [if_neg k2] at h
   have k2b : (k == 2) = false := beq_eq_false_iff_ne.mpr k2
   split at h
   ·cases h
   rename_i f0 hf0
   obtain ⟨ad0, k0_, n0_, AA0, mm0, cc0, eA0, hm0, hc0, hok0⟩ := Ls.kid HN.out hf0
   have HOK0 := Aside0.mk hok0
   have HC0 := Aside0.mk hc0
   clear hok0 hc0
   have hm0b : (0 < m) = True := eq_true hm0
   have hm0c : ((0 : Int) < (m : Int)) = True := eq_true (by omega)
   clear hm0
   subst eA0
   by_cases k6 : k = 6
   ·rw [if_pos k6] at h
    subst k6
    split at h
    case isFalse => cases h
    rename_i hlim
    obtain ⟨hn1, hn2⟩ := hlim
    replace h := lO h; obtain ⟨q1, B1, h⟩ := h
    replace h := lO h; obtain ⟨q2, B2, h⟩ := h
    replace h := lO h; obtain ⟨q3, B3, h⟩ := h
    have B4 := Aside0.mk h
    clear h
    have hlq_ := (Ls.put3_some B1.out).1
    simp only at hlq_
    go_enter Try.func67, Try.ntmps67
    go_upto_region 1 with (first | ((with_reducible refine gate_dst (N := 3) rfl ?_); refine bxe 3 #[.int .i64 6, .int .i64 n, .slice (some ad0) m c] 72 ?_; intro gt hgt_ w4 hbox hb_; have II := Aside0.mk (Ls.I.start HS.out BX.out HO.out HQ.out hbox hb_); clear BX HO HQ HS hbz0 hbf0 hbz1 hbf1 hbz2 hbf2 hbox hb_ hgt_; obtain ⟨hcz0, hfz0, hcz1, hfz1, hcz2, hfz2⟩ := bk3 II.out.bk; obtain ⟨hbz0, hbf0, hbz1, hbf1, hbz2, hbf2⟩ := bk3 II.out.bx))
    go_upto_region 32 with (fail)
    have hI := II.out.inc (m := q.n + 1) HGS.out
    clear II hcz0 hfz0 hcz1 hfz1 hcz2 hfz2 hbz0 hbf0 hbz1 hbf1 hbz2 hbf2
    generalize World.setCell w4 ⟨gb, 2, none⟩ (.int .i64 (q.n + 1)) = w7 at hI ⊢
    have II := Aside0.mk hI
    clear hI
    obtain ⟨hcz0, hfz0, hcz1, hfz1, hcz2, hfz2⟩ := bk3 II.out.bk; obtain ⟨hbz0, hbf0, hbz1, hbf1, hbz2, hbf2⟩ := bk3 II.out.bx
    obtain ⟨hl_, es_, eg_, en_⟩ := Ls.put3_some B1.out
    simp only at hl_ es_ eg_ en_
    have HL := Aside0.mk hl_
    clear hl_
    refine start_ (n := 17) (S := fun w' => w'.cell? ⟨gb, 0, none⟩ = some (.slice A1_ q.s.length c1_) ∧ w'.frozen? ⟨gb, 0, none⟩ = false ∧ w'.cell? ⟨gb, 1, none⟩ = some (.slice A2_ q.g.length c2_) ∧ w'.frozen? ⟨gb, 1, none⟩ = false ∧ w'.cell? ⟨gt, 1, none⟩ = some (.int .i64 n)) (ds := [16]) (bs 17 0) kR rfl kR ⟨hbz0, hbf0, hbz1, hbf1, hcz1⟩ (fun hHeld => ?_)
    have hI := II.out.drew
    clear II hcz0 hfz0 hcz1 hfz1 hcz2 hfz2 hbz0 hbf0 hbz1 hbf1 hbz2 hbf2
    generalize hwd_ : World.drew _ = w3 at hI hHeld ⊢
    have II := Aside0.mk hI
    clear hwd_ hI
    refine pur_ 0 219 (bs 17 1) kR ?_
    refine pur_ 1 220 (bs 17 3) kR ?_
    refine pur_ 2 221 (bs 17 7) kR ?_
    refine pur_ 3 222 (bs 17 15) kR ?_
    refine pur_ 5 224 (bs 17 47) kR ?_
    refine pur_ 6 225 (bs 17 111) kR ?_
    refine pur_ 7 226 (bs 17 239) kR ?_
    refine pur_ 8 227 (bs 17 495) kR ?_
    refine pur_ 11 230 (bs 17 2543) kR ?_
    refine tak_ 4 223 (bs 17 2559) kR hHeld ?_
    refine tak_ 9 228 (bs 17 3071) kR hHeld ?_
    refine pur_ 10 229 (bs 17 4095) kR ?_
    refine one_ (i := 12) (N := some 231) (bs 17 8191) rfl rfl kR (by decide) (fun K hK => ?_)
    refine value_ (w1 := ?_) (v := ?_) (by rfl) rfl ?_ ?_
    rotate_left 2
    ·go_simp
     constructor
     ·rfl
     ·rfl
    refine hK.out _ _ ⟨bZ (bA (lK II.out.bx) _) 0, blk_frozen (bA (lK II.out.bx) _) 0, bZ (bA (lK II.out.bx) _) 1, blk_frozen (bA (lK II.out.bx) _) 1, bZ (bA (lK II.out.bk) _) 1⟩ (fun hHeld => ?_)
    clear hK K
    refine norm_ (a' := ?_) ?_ ?_
    rotate_left
    ·show Act.put _ (some 231) _ = _
     simp only [Act.put, List.setIfInBounds_toArray, List.set_cons_zero, List.set_cons_succ, i64_w, i32_w]
     rfl
    refine one_ (i := 13) (N := some 232) (bs 17 16383) rfl rfl kR (by decide) (fun K hK => ?_)
    have HRR_ : ReadsRow (fun (x : S86) (cs : List Value) => cs = [.int .i64 x.f0, .int .i64 x.f1, .int .i64 x.f2]) 3 (w3.alloc (.cells #[.int .i64 5, .int .i64 (20 + q.n), .int .i64 0, .int .i64 6, .int .i64 (20 + q.n), .int .i64 n, .int .i64 4, .int .i64 0, .int .i64 0] 86 (0, 0))) (some ⟨w3.heap.size, 0, none⟩) 3 ([(⟨5, 20 + q.n, 0⟩ : S86), (⟨6, 20 + q.n, n⟩ : S86), (⟨4, 0, 0⟩ : S86)] : List S86) := Ls.three w3 _ _ _
    refine Kd.R_append_rows_step k86 (w0 := w) w0.heap.size (by rfl) (.tmp 223) (.tmp 231) 35 86 (.agg #[.int .i64 0, .int .i64 0, .int .i64 0]) 24 rfl Try.underlying35 Ls.info86 rfl (by decide) (by omega) (.slice A1_ q.s.length c1_) q.s ([(⟨5, 20 + q.n, 0⟩ : S86), (⟨6, 20 + q.n, n⟩ : S86), (⟨4, 0, 0⟩ : S86)] : List S86) (some ⟨w3.heap.size, 0, none⟩) 3 3 (fun _ => True) (fun _ => False) rfl rfl ?aO HRR_ ?aP (fun _ hk => hk.elim) (fun _ _ => trivial) ?aB ?aS ?aL ?_
    (case aP => intro x cs e; subst e; exact k86_mkM _ _ _ x)
    (case aO => exact lR II.out.ho)
    (case aB => exact II.out.hb.alloc II.out.hs _)
    (case aS => exact Nat.le_trans II.out.hs (by rw [Ls.alloc_size]; omega))
    (case aL => have := HL.out; omega)
    intro v6 w6 ho hb hg_ hat
    have hg : w3.grownBy w6 (Value.slice A1_ q.s.length c1_).ownBlock := Ls.grown_alloc hg_
    clear hg_ HRR_
    obtain ⟨Ap, cp, rfl, hx6_, hk6_, hI⟩ := II.out.put (r := q1) HGS.out ho hb hg rfl es_ eg_ en_
    clear II ho hb hg hat
    refine hK.out _ _ ⟨bZ (hx6_) 0, blk_frozen (hx6_) 0, bZ (hx6_) 1, blk_frozen (hx6_) 1, bZ (hk6_) 1⟩ (fun hHeld => ?_)
    clear hK K
    refine norm_ (a' := ?_) ?_ ?_
    rotate_left
    ·show Act.put _ (some 232) _ = _
     simp only [Act.put, List.setIfInBounds_toArray, List.set_cons_zero, List.set_cons_succ, i64_w, i32_w]
     rfl
    refine pur_ 14 233 (bs 17 32767) kR ?_
    refine pur_ 15 234 (bs 17 65535) kR ?_
    refine last_ (i := 16) (N := none) (bs 17 131071) rfl rfl kR (by decide) (fun K hK => ?_)
    have hs0_ := hHeld.1
    have hs1_ := hHeld.2.1
    have hs2_ := hHeld.2.2.1
    have hs3_ := hHeld.2.2.2.1
    refine skip_ (w1 := World.setCell w6 ⟨gb, 0, none⟩ (.slice Ap (q.s.length + 3) cp)) (by rfl) rfl (by first | (go_simp; done) | (go_simp; rfl)) ?_
    refine hK.out _ _ ?_
    clear hK K
    refine done_ kR ?_
    clear hHeld HL hs0_ hs1_ hs2_ hs3_
    generalize World.setCell w6 ⟨gb, 0, none⟩ (.slice Ap (q.s.length + 3) cp) = w7 at hI ⊢
    have II := Aside0.mk hI
    clear hI hx6_ hk6_ es_ eg_ en_
    obtain ⟨hcz0, hfz0, hcz1, hfz1, hcz2, hfz2⟩ := bk3 II.out.bk; obtain ⟨hbz0, hbf0, hbz1, hbf1, hbz2, hbf2⟩ := bk3 II.out.bx
    obtain ⟨A1_, c1_, eA_, ec_⟩ : ∃ A1_ c1_, A1_ = Ap ∧ c1_ = cp := ⟨_, _, rfl, rfl⟩
    subst eA_ ec_
    obtain ⟨ha0, hb0, hd0⟩ := HC0.out _ (HB0.out.trans II.out.hb)
    simp only [Nat.zero_mul, Nat.one_mul, Ls.add0, Ls.add3] at ha0 hb0 hd0
    go_upto_region 34 with (first | (go_at_call 67; (with_reducible refine (HOK0.out _ _ _ _ _ _ _ HGS.out (HB0.out.trans II.out.hb) II.out.bx II.out.ho II.out.hq B2.out).mono ?_); intro e w5 hp_; obtain ⟨rfl, A1_, c1_, A2_, c2_, hI⟩ := II.out.call hp_; clear ha0 hb0 hd0 II hp_ hcz0 hfz0 hcz1 hfz1 hcz2 hfz2 hbz0 hbf0 hbz1 hbf1 hbz2 hbf2; have II := Aside0.mk hI; clear hI; obtain ⟨hcz0, hfz0, hcz1, hfz1, hcz2, hfz2⟩ := bk3 II.out.bk; obtain ⟨hbz0, hbf0, hbz1, hbf1, hbz2, hbf2⟩ := bk3 II.out.bx))
    obtain ⟨hl_, es_, eg_, en_⟩ := Ls.put_some B3.out
    have HL := Aside0.mk hl_
    clear hl_
    go_upto_region 35 with (first | ((with_reducible refine gate_builtin (b := .append) (xs := #[.tmp 245, .tmp 249]) rfl ?_); at_builtin; refine Kd.R_append k86 (w0 := w) w0.heap.size rfl (.tmp 245) (.tmp 249) 35 86 (.agg #[.int .i64 0, .int .i64 0, .int .i64 0]) 24 rfl Try.underlying35 Ls.info86 rfl (by decide) (by omega) (.slice A1_ q2.s.length c1_) q2.s (⟨4, 0, (q.s.length : Int) + 1⟩ : S86) [.int .i64 4, .int .i64 0, .int .i64 ((q.s.length : Int) + 1)] (fun _ => True) (fun _ => False) rfl (by first | (go_simp; done) | (go_simp; rfl)) ?aP (fun _ hk => hk.elim) (fun _ _ => trivial) ?aO ?aB ?aS ?aL ?_; (case aP => exact k86_mkM _ _ _ (⟨4, 0, (q.s.length : Int) + 1⟩ : S86)); (case aO => exact lR II.out.ho); (case aB => exact II.out.hb); (case aS => exact II.out.hs); (case aL => have := HL.out; omega); intro v6 w6 ho hb hg hat; obtain ⟨Ap, cp, rfl, hx6_, hk6_, hI⟩ := II.out.put (r := q3) HGS.out ho hb hg rfl es_ eg_ en_; clear II ho hb hg hat hcz0 hfz0 hcz1 hfz1 hcz2 hfz2 hbz0 hbf0 hbz1 hbf1 hbz2 hbf2; obtain ⟨hbz0, hbf0, hbz1, hbf1, hbz2, hbf2⟩ := bk3 hx6_; obtain ⟨hcz0, hfz0, hcz1, hfz1, hcz2, hfz2⟩ := bk3 hk6_))
    clear HL hcz0 hfz0 hcz1 hfz1 hcz2 hfz2 hbz0 hbf0 hbz1 hbf1 hbz2 hbf2
    generalize World.setCell w6 ⟨gb, 0, none⟩ (.slice Ap (q2.s.length + 1) cp) = w7 at hI ⊢
    have II := Aside0.mk hI
    clear hI hx6_ hk6_ es_ eg_ en_
    obtain ⟨hcz0, hfz0, hcz1, hfz1, hcz2, hfz2⟩ := bk3 II.out.bk; obtain ⟨hbz0, hbf0, hbz1, hbf1, hbz2, hbf2⟩ := bk3 II.out.bx
    obtain ⟨A1_, c1_, eA_, ec_⟩ : ∃ A1_ c1_, A1_ = Ap ∧ c1_ = cp := ⟨_, _, rfl, rfl⟩
    subst eA_ ec_
    obtain ⟨ix, hix_⟩ : ∃ ix : Nat, ix = q.s.length + 2 := ⟨_, rfl⟩
    have hw_ : Go.RowKit.wrap64 ((q.s.length : Int) + 2) = (ix : Int) := by unfold Go.RowKit.wrap64; omega
    rw [← hix_] at B4
    clear hix_
    have hlt_ := (Ls.setT_some B4.out).1
    obtain ⟨gr, rfl, hsc_, hsf_⟩ := II.out.formT hlt_
    have hi0_ : (0 : Int) ≤ ((ix : Nat) : Int) := Int.natCast_nonneg _
    have hi1_ : ((ix : Nat) : Int) < ((q3.s.length : Nat) : Int) := Int.ofNat_lt.mpr hlt_
    refine start_ (n := 14) (S := fun w' => w'.cell? ⟨gb, 0, none⟩ = some (.slice (some ⟨gr, 0, none⟩) q3.s.length c1_) ∧ w'.cell? ⟨gb, 1, none⟩ = some (.slice A2_ q3.g.length c2_) ∧ w'.cell? ⟨gr, ix * 3 + 2, none⟩ = some (.int .i64 (rd_T86 q3.s (ix : Nat)).f2) ∧ w'.frozen? ⟨gr, ix * 3 + 2, none⟩ = false) (ds := [13]) (bs 14 0) kR rfl kR ⟨hbz0, hbz1, hsc_, hsf_⟩ (fun hHeld => ?_)
    have hI := II.out.drew
    clear II hsc_ hsf_ hcz0 hfz0 hcz1 hfz1 hcz2 hfz2 hbz0 hbf0 hbz1 hbf1 hbz2 hbf2
    generalize hwd_ : World.drew _ = w3 at hI hHeld ⊢
    have II := Aside0.mk hI
    clear hwd_ hI
    refine pur_ 0 253 (bs 14 1) kR ?_
    refine pur_ 1 254 (bs 14 3) kR ?_
    refine pur_ 2 255 (bs 14 7) kR ?_
    refine pur_ 4 257 (bs 14 23) kR ?_
    refine pur_ 5 258 (bs 14 55) kR ?_
    rw [hw_]
    refine pur_ 6 259 (bs 14 119) kR ?_
    refine pur_ 7 260 (bs 14 247) kR ?_
    refine pur_ 8 261 (bs 14 503) kR ?_
    refine tak_ 3 256 (bs 14 511) kR hHeld ?_
    refine tak_ 9 262 (bs 14 1023) kR hHeld ?_
    refine pur_ 10 263 (bs 14 2047) kR ?_
    refine pur_ 11 264 (bs 14 4095) kR ?_
    refine pur_ 12 265 (bs 14 8191) kR ?_
    refine last_ (i := 13) (N := none) (bs 14 16383) rfl rfl kR (by decide) (fun K hK => ?_)
    have hs0_ := hHeld.2.2.1
    have hs1_ := hHeld.2.2.2
    refine skip_ (w1 := World.setCell _ ⟨gr, ix * 3 + 2, none⟩ (.int .i64 ((q3.s.length : Nat) : Int))) (by rfl) rfl (by first | (go_simp; done) | (go_simp; rfl)) ?_
    refine hK.out _ _ ?_
    clear hK K
    refine done_ kR ?_
    clear hHeld hs0_ hs1_ hi0_ hi1_ hlt_
    have hI := II.out.setT B4.out
    clear II
    generalize World.setCell _ ⟨gr, ix * 3 + 2, none⟩ (.int .i64 ((q3.s.length : Nat) : Int)) = w4 at hI ⊢
    have II := Aside0.mk hI
    clear hI
    obtain ⟨hcz0, hfz0, hcz1, hfz1, hcz2, hfz2⟩ := bk3 II.out.bk; obtain ⟨hbz0, hbf0, hbz1, hbf1, hbz2, hbf2⟩ := bk3 II.out.bx
    go_wp2
    refine Ls.ret0 rfl rfl ?_
    exact ⟨rfl, ⟨_, _, _, _, II.out.bx, II.out.ho, II.out.hq, II.out.hb⟩, II.out.hk⟩
   ·rw [if_neg k6] at h
    have k6b : (k == 6) = false := beq_eq_false_iff_ne.mpr k6
    replace h := lO h; obtain ⟨q1, B1, h⟩ := h
    split at h
    ·cases h
    rename_i f1 hf1
    obtain ⟨ad1, k1_, n1_, AA1, mm1, cc1, eA1, hm1, hc1, hok1⟩ := Ls.kid HN.out hf1
    have HOK1 := Aside0.mk hok1
    have HC1 := Aside0.mk hc1
    clear hok1 hc1
    obtain rfl : ad0 = ad1 := Option.some.inj eA1
    have hm1b : (1 < m) = True := eq_true hm1
    have hm1c : ((1 : Int) < (m : Int)) = True := eq_true (by omega)
    clear hm1 eA1
    by_cases k3 : k = 3
    ·rw [if_pos k3] at h
     subst k3
     have B2 := Aside0.mk h
     clear h
     go_enter Try.func67, Try.ntmps67
     go_upto_region 1 with (first | ((with_reducible refine gate_dst (N := 3) rfl ?_); refine bxe 3 #[.int .i64 3, .int .i64 n, .slice (some ad0) m c] 72 ?_; intro gt hgt_ w4 hbox hb_; have II := Aside0.mk (Ls.I.start HS.out BX.out HO.out HQ.out hbox hb_); clear BX HO HQ HS hbz0 hbf0 hbz1 hbf1 hbz2 hbf2 hbox hb_ hgt_; obtain ⟨hcz0, hfz0, hcz1, hfz1, hcz2, hfz2⟩ := bk3 II.out.bk; obtain ⟨hbz0, hbf0, hbz1, hbf1, hbz2, hbf2⟩ := bk3 II.out.bx))
     obtain ⟨ha0, hb0, hd0⟩ := HC0.out _ (HB0.out.trans II.out.hb)
     simp only [Nat.zero_mul, Nat.one_mul, Ls.add0, Ls.add3] at ha0 hb0 hd0
     go_upto_region 9 with (first | (go_at_call 67; (with_reducible refine (HOK0.out _ _ _ _ _ _ _ HGS.out (HB0.out.trans II.out.hb) II.out.bx II.out.ho II.out.hq B1.out).mono ?_); intro e w5 hp_; obtain ⟨rfl, A1_, c1_, A2_, c2_, hI⟩ := II.out.call hp_; clear ha0 hb0 hd0 II hp_ hcz0 hfz0 hcz1 hfz1 hcz2 hfz2 hbz0 hbf0 hbz1 hbf1 hbz2 hbf2; have II := Aside0.mk hI; clear hI; obtain ⟨hcz0, hfz0, hcz1, hfz1, hcz2, hfz2⟩ := bk3 II.out.bk; obtain ⟨hbz0, hbf0, hbz1, hbf1, hbz2, hbf2⟩ := bk3 II.out.bx))
     obtain ⟨ha1, hb1, hd1⟩ := HC1.out _ (HB0.out.trans II.out.hb)
     simp only [Nat.zero_mul, Nat.one_mul, Ls.add0, Ls.add3] at ha1 hb1 hd1
     go_wp2_with (first | (go_at_call 67; (with_reducible refine (HOK1.out _ _ _ _ _ _ _ HGS.out (HB0.out.trans II.out.hb) II.out.bx II.out.ho II.out.hq B2.out).mono ?_); intro e w5 hp_; obtain ⟨rfl, A1_, c1_, A2_, c2_, hI⟩ := II.out.call hp_; clear ha1 hb1 hd1 II hp_ hcz0 hfz0 hcz1 hfz1 hcz2 hfz2 hbz0 hbf0 hbz1 hbf1 hbz2 hbf2; have II := Aside0.mk hI; clear hI; obtain ⟨hcz0, hfz0, hcz1, hfz1, hcz2, hfz2⟩ := bk3 II.out.bk; obtain ⟨hbz0, hbf0, hbz1, hbf1, hbz2, hbf2⟩ := bk3 II.out.bx))
     refine Ls.ret0 rfl rfl ?_
     exact ⟨rfl, ⟨_, _, _, _, II.out.bx, II.out.ho, II.out.hq, II.out.hb⟩, II.out.hk⟩
    ·rw [if_neg k3] at h
     have k3b : (k == 3) = false := beq_eq_false_iff_ne.mpr k3
     by_cases k4 : k = 4
     ·rw [if_pos k4] at h
      subst k4
      replace h := lO h; obtain ⟨q2, B2, h⟩ := h
      replace h := lO h; obtain ⟨q3, B3, h⟩ := h
      replace h := lO h; obtain ⟨q4, B4, h⟩ := h
      have B5 := Aside0.mk h
      clear h
      have hlq_ := (Ls.put_some B2.out).1
      go_enter Try.func67, Try.ntmps67
      go_upto_region 1 with (first | ((with_reducible refine gate_dst (N := 3) rfl ?_); refine bxe 3 #[.int .i64 4, .int .i64 n, .slice (some ad0) m c] 72 ?_; intro gt hgt_ w4 hbox hb_; have II := Aside0.mk (Ls.I.start HS.out BX.out HO.out HQ.out hbox hb_); clear BX HO HQ HS hbz0 hbf0 hbz1 hbf1 hbz2 hbf2 hbox hb_ hgt_; obtain ⟨hcz0, hfz0, hcz1, hfz1, hcz2, hfz2⟩ := bk3 II.out.bk; obtain ⟨hbz0, hbf0, hbz1, hbf1, hbz2, hbf2⟩ := bk3 II.out.bx))
      obtain ⟨ha0, hb0, hd0⟩ := HC0.out _ (HB0.out.trans II.out.hb)
      simp only [Nat.zero_mul, Nat.one_mul, Ls.add0, Ls.add3] at ha0 hb0 hd0
      go_upto_region 13 with (first | (go_at_call 67; (with_reducible refine (HOK0.out _ _ _ _ _ _ _ HGS.out (HB0.out.trans II.out.hb) II.out.bx II.out.ho II.out.hq B1.out).mono ?_); intro e w5 hp_; obtain ⟨rfl, A1_, c1_, A2_, c2_, hI⟩ := II.out.call hp_; clear ha0 hb0 hd0 II hp_ hcz0 hfz0 hcz1 hfz1 hcz2 hfz2 hbz0 hbf0 hbz1 hbf1 hbz2 hbf2; have II := Aside0.mk hI; clear hI; obtain ⟨hcz0, hfz0, hcz1, hfz1, hcz2, hfz2⟩ := bk3 II.out.bk; obtain ⟨hbz0, hbf0, hbz1, hbf1, hbz2, hbf2⟩ := bk3 II.out.bx))
      obtain ⟨hl_, es_, eg_, en_⟩ := Ls.put_some B2.out
      have HL := Aside0.mk hl_
      clear hl_
      go_upto_region 14 with (first | ((with_reducible refine gate_builtin (b := .append) (xs := #[.tmp 76, .tmp 78]) rfl ?_); at_builtin; refine Kd.R_append k86 (w0 := w) w0.heap.size rfl (.tmp 76) (.tmp 78) 35 86 (.agg #[.int .i64 0, .int .i64 0, .int .i64 0]) 24 rfl Try.underlying35 Ls.info86 rfl (by decide) (by omega) (.slice A1_ q1.s.length c1_) q1.s (⟨4, 0, 0⟩ : S86) [.int .i64 4, .int .i64 0, .int .i64 0] (fun _ => True) (fun _ => False) rfl (by first | (go_simp; done) | (go_simp; rfl)) ?aP (fun _ hk => hk.elim) (fun _ _ => trivial) ?aO ?aB ?aS ?aL ?_; (case aP => exact k86_mkM _ _ _ (⟨4, 0, 0⟩ : S86)); (case aO => exact lR II.out.ho); (case aB => exact II.out.hb); (case aS => exact II.out.hs); (case aL => have := HL.out; omega); intro v6 w6 ho hb hg hat; obtain ⟨Ap, cp, rfl, hx6_, hk6_, hI⟩ := II.out.put (r := q2) HGS.out ho hb hg rfl es_ eg_ en_; clear II ho hb hg hat hcz0 hfz0 hcz1 hfz1 hcz2 hfz2 hbz0 hbf0 hbz1 hbf1 hbz2 hbf2; obtain ⟨hbz0, hbf0, hbz1, hbf1, hbz2, hbf2⟩ := bk3 hx6_; obtain ⟨hcz0, hfz0, hcz1, hfz1, hcz2, hfz2⟩ := bk3 hk6_))
      clear HL hcz0 hfz0 hcz1 hfz1 hcz2 hfz2 hbz0 hbf0 hbz1 hbf1 hbz2 hbf2
      generalize World.setCell w6 ⟨gb, 0, none⟩ (.slice Ap (q1.s.length + 1) cp) = w7 at hI ⊢
      have II := Aside0.mk hI
      clear hI hx6_ hk6_ es_ eg_ en_
      obtain ⟨hcz0, hfz0, hcz1, hfz1, hcz2, hfz2⟩ := bk3 II.out.bk; obtain ⟨hbz0, hbf0, hbz1, hbf1, hbz2, hbf2⟩ := bk3 II.out.bx
      obtain ⟨A1_, c1_, eA_, ec_⟩ : ∃ A1_ c1_, A1_ = Ap ∧ c1_ = cp := ⟨_, _, rfl, rfl⟩
      subst eA_ ec_
      have hw_ : Go.RowKit.wrap64 ((q1.s.length : Int) + 1) = (q1.s.length : Int) + 1 := by unfold Go.RowKit.wrap64; omega
      obtain ⟨hl_, es_, eg_, en_⟩ := Ls.grd_some B3.out
      have HL := Aside0.mk hl_
      clear hl_
      refine start_ (n := 17) (S := fun w' => w'.cell? ⟨gb, 0, none⟩ = some (.slice A1_ q2.s.length c1_) ∧ w'.frozen? ⟨gb, 0, none⟩ = false ∧ w'.cell? ⟨gb, 1, none⟩ = some (.slice A2_ q2.g.length c2_) ∧ w'.frozen? ⟨gb, 1, none⟩ = false ∧ w'.cell? ⟨gt, 1, none⟩ = some (.int .i64 n)) (ds := [16]) (bs 17 0) kR rfl kR ⟨hbz0, hbf0, hbz1, hbf1, hcz1⟩ (fun hHeld => ?_)
      have hI := II.out.drew
      clear II hcz0 hfz0 hcz1 hfz1 hcz2 hfz2 hbz0 hbf0 hbz1 hbf1 hbz2 hbf2
      generalize hwd_ : World.drew _ = w3 at hI hHeld ⊢
      have II := Aside0.mk hI
      clear hwd_ hI
      refine pur_ 0 82 (bs 17 1) kR ?_
      refine pur_ 1 83 (bs 17 3) kR ?_
      refine pur_ 2 84 (bs 17 7) kR ?_
      refine pur_ 3 85 (bs 17 15) kR ?_
      refine pur_ 5 87 (bs 17 47) kR ?_
      refine pur_ 6 88 (bs 17 111) kR ?_
      refine pur_ 7 89 (bs 17 239) kR ?_
      refine pur_ 9 91 (bs 17 751) kR ?_
      refine pur_ 10 92 (bs 17 1775) kR ?_
      rw [hw_]
      refine tak_ 4 86 (bs 17 1791) kR hHeld ?_
      refine tak_ 8 90 (bs 17 2047) kR hHeld ?_
      refine pur_ 11 93 (bs 17 4095) kR ?_
      refine one_ (i := 12) (N := some 94) (bs 17 8191) rfl rfl kR (by decide) (fun K hK => ?_)
      refine value_ (w1 := ?_) (v := ?_) (by rfl) rfl ?_ ?_
      rotate_left 2
      ·go_simp
       constructor
       ·rfl
       ·rfl
      refine hK.out _ _ ⟨bZ (bA (lK II.out.bx) _) 0, blk_frozen (bA (lK II.out.bx) _) 0, bZ (bA (lK II.out.bx) _) 1, blk_frozen (bA (lK II.out.bx) _) 1, bZ (bA (lK II.out.bk) _) 1⟩ (fun hHeld => ?_)
      clear hK K
      refine norm_ (a' := ?_) ?_ ?_
      rotate_left
      ·show Act.put _ (some 94) _ = _
       simp only [Act.put, List.setIfInBounds_toArray, List.set_cons_zero, List.set_cons_succ, i64_w, i32_w]
       rfl
      refine one_ (i := 13) (N := some 95) (bs 17 16383) rfl rfl kR (by decide) (fun K hK => ?_)
      refine Kd.R_append_step k63 (w0 := w) w0.heap.size (by rfl) (.tmp 86) (.tmp 94) 36 63 (.agg #[.int .i64 0, .int .i64 0, .int .i64 0, .int .i64 0]) 32 rfl Try.underlying36 Ls.info63 rfl (by decide) (by omega) (.slice A2_ q2.g.length c2_) q2.g (⟨(q.s.length : Nat), (q1.s.length : Nat), n, (q1.s.length : Int) + 1⟩ : S63) [.int .i64 (q.s.length : Nat), .int .i64 (q1.s.length : Nat), .int .i64 n, .int .i64 ((q1.s.length : Int) + 1)] (fun _ => True) (fun _ => False) rfl rfl ?aP (fun _ hk => hk.elim) (fun _ _ => trivial) ?aO ?aB ?aS ?aL ?_
      (case aP => exact k63_mkM _ _ _ (⟨(q.s.length : Nat), (q1.s.length : Nat), n, (q1.s.length : Int) + 1⟩ : S63))
      (case aO => exact lR II.out.hq)
      (case aB => exact II.out.hb)
      (case aS => exact II.out.hs)
      (case aL => have := HL.out; omega)
      intro v6 w6 ho hb hg hat
      obtain ⟨Ap, cp, rfl, hx6_, hk6_, hI⟩ := II.out.grd (r := q3) HGS.out ho hb hg es_ eg_ en_
      clear II ho hb hg hat
      refine hK.out _ _ ⟨bZ (hx6_) 0, blk_frozen (hx6_) 0, bZ (hx6_) 1, blk_frozen (hx6_) 1, bZ (hk6_) 1⟩ (fun hHeld => ?_)
      clear hK K
      refine norm_ (a' := ?_) ?_ ?_
      rotate_left
      ·show Act.put _ (some 95) _ = _
       simp only [Act.put, List.setIfInBounds_toArray, List.set_cons_zero, List.set_cons_succ, i64_w, i32_w]
       rfl
      refine pur_ 14 96 (bs 17 32767) kR ?_
      refine pur_ 15 97 (bs 17 65535) kR ?_
      refine last_ (i := 16) (N := none) (bs 17 131071) rfl rfl kR (by decide) (fun K hK => ?_)
      have hs0_ := hHeld.1
      have hs1_ := hHeld.2.1
      have hs2_ := hHeld.2.2.1
      have hs3_ := hHeld.2.2.2.1
      refine skip_ (w1 := World.setCell w6 ⟨gb, 1, none⟩ (.slice Ap (q2.g.length + 1) cp)) (by rfl) rfl (by first | (go_simp; done) | (go_simp; rfl)) ?_
      refine hK.out _ _ ?_
      clear hK K
      refine done_ kR ?_
      clear hHeld HL hs0_ hs1_ hs2_ hs3_
      generalize World.setCell w6 ⟨gb, 1, none⟩ (.slice Ap (q2.g.length + 1) cp) = w7 at hI ⊢
      have II := Aside0.mk hI
      clear hI hx6_ hk6_ es_ eg_ en_
      obtain ⟨hcz0, hfz0, hcz1, hfz1, hcz2, hfz2⟩ := bk3 II.out.bk; obtain ⟨hbz0, hbf0, hbz1, hbf1, hbz2, hbf2⟩ := bk3 II.out.bx
      obtain ⟨A2_, c2_, eA_, ec_⟩ : ∃ A2_ c2_, A2_ = Ap ∧ c2_ = cp := ⟨_, _, rfl, rfl⟩
      subst eA_ ec_
      obtain ⟨ha1, hb1, hd1⟩ := HC1.out _ (HB0.out.trans II.out.hb)
      simp only [Nat.zero_mul, Nat.one_mul, Ls.add0, Ls.add3] at ha1 hb1 hd1
      go_upto_region 16 with (first | (go_at_call 67; (with_reducible refine (HOK1.out _ _ _ _ _ _ _ HGS.out (HB0.out.trans II.out.hb) II.out.bx II.out.ho II.out.hq B4.out).mono ?_); intro e w5 hp_; obtain ⟨rfl, A1_, c1_, A2_, c2_, hI⟩ := II.out.call hp_; clear ha1 hb1 hd1 II hp_ hcz0 hfz0 hcz1 hfz1 hcz2 hfz2 hbz0 hbf0 hbz1 hbf1 hbz2 hbf2; have II := Aside0.mk hI; clear hI; obtain ⟨hcz0, hfz0, hcz1, hfz1, hcz2, hfz2⟩ := bk3 II.out.bk; obtain ⟨hbz0, hbf0, hbz1, hbf1, hbz2, hbf2⟩ := bk3 II.out.bx))
      have hlt_ := (Ls.setT_some B5.out).1
      obtain ⟨gr, rfl, hsc_, hsf_⟩ := II.out.formT hlt_
      have hi0_ : (0 : Int) ≤ ((q1.s.length : Nat) : Int) := Int.natCast_nonneg _
      have hi1_ : ((q1.s.length : Nat) : Int) < ((q4.s.length : Nat) : Int) := Int.ofNat_lt.mpr hlt_
      refine start_ (n := 13) (S := fun w' => w'.cell? ⟨gb, 0, none⟩ = some (.slice (some ⟨gr, 0, none⟩) q4.s.length c1_) ∧ w'.cell? ⟨gb, 1, none⟩ = some (.slice A2_ q4.g.length c2_) ∧ w'.cell? ⟨gr, q1.s.length * 3 + 2, none⟩ = some (.int .i64 (rd_T86 q4.s (q1.s.length : Nat)).f2) ∧ w'.frozen? ⟨gr, q1.s.length * 3 + 2, none⟩ = false) (ds := [12]) (bs 13 0) kR rfl kR ⟨hbz0, hbz1, hsc_, hsf_⟩ (fun hHeld => ?_)
      have hI := II.out.drew
      clear II hsc_ hsf_ hcz0 hfz0 hcz1 hfz1 hcz2 hfz2 hbz0 hbf0 hbz1 hbf1 hbz2 hbf2
      generalize hwd_ : World.drew _ = w3 at hI hHeld ⊢
      have II := Aside0.mk hI
      clear hwd_ hI
      refine pur_ 0 104 (bs 13 1) kR ?_
      refine pur_ 1 105 (bs 13 3) kR ?_
      refine pur_ 2 106 (bs 13 7) kR ?_
      refine pur_ 4 108 (bs 13 23) kR ?_
      refine pur_ 5 109 (bs 13 55) kR ?_
      refine pur_ 6 110 (bs 13 119) kR ?_
      refine pur_ 7 111 (bs 13 247) kR ?_
      refine tak_ 3 107 (bs 13 255) kR hHeld ?_
      refine tak_ 8 112 (bs 13 511) kR hHeld ?_
      refine pur_ 9 113 (bs 13 1023) kR ?_
      refine pur_ 10 114 (bs 13 2047) kR ?_
      refine pur_ 11 115 (bs 13 4095) kR ?_
      refine last_ (i := 12) (N := none) (bs 13 8191) rfl rfl kR (by decide) (fun K hK => ?_)
      have hs0_ := hHeld.2.2.1
      have hs1_ := hHeld.2.2.2
      refine skip_ (w1 := World.setCell _ ⟨gr, q1.s.length * 3 + 2, none⟩ (.int .i64 ((q4.s.length : Nat) : Int))) (by rfl) rfl (by first | (go_simp; done) | (go_simp; rfl)) ?_
      refine hK.out _ _ ?_
      clear hK K
      refine done_ kR ?_
      clear hHeld hs0_ hs1_ hi0_ hi1_ hlt_
      have hI := II.out.setT B5.out
      clear II
      generalize World.setCell _ ⟨gr, q1.s.length * 3 + 2, none⟩ (.int .i64 ((q4.s.length : Nat) : Int)) = w4 at hI ⊢
      have II := Aside0.mk hI
      clear hI
      obtain ⟨hcz0, hfz0, hcz1, hfz1, hcz2, hfz2⟩ := bk3 II.out.bk; obtain ⟨hbz0, hbf0, hbz1, hbf1, hbz2, hbf2⟩ := bk3 II.out.bx
      go_wp2
      refine Ls.ret0 rfl rfl ?_
      exact ⟨rfl, ⟨_, _, _, _, II.out.bx, II.out.ho, II.out.hq, II.out.hb⟩, II.out.hk⟩
     ·rw [if_neg k4] at h
      have k4b : (k == 4) = false := beq_eq_false_iff_ne.mpr k4
      by_cases k5 : k = 5
      ·rw [if_pos k5] at h
       subst k5
       replace h := lO h; obtain ⟨q2, B2, h⟩ := h
       replace h := lO h; obtain ⟨q3, B3, h⟩ := h
       replace h := lO h; obtain ⟨q4, B4, h⟩ := h
       replace h := lO h; obtain ⟨q5, B5, h⟩ := h
       replace h := lO h; obtain ⟨q6, B6, h⟩ := h
       replace h := lO h; obtain ⟨q7, B7, h⟩ := h
       have B8 := Aside0.mk h
       clear h
       have hlq_ := (Ls.put_some B4.out).1
       go_enter Try.func67, Try.ntmps67
       go_upto_region 1 with (first | ((with_reducible refine gate_dst (N := 3) rfl ?_); refine bxe 3 #[.int .i64 5, .int .i64 n, .slice (some ad0) m c] 72 ?_; intro gt hgt_ w4 hbox hb_; have II := Aside0.mk (Ls.I.start HS.out BX.out HO.out HQ.out hbox hb_); clear BX HO HQ HS hbz0 hbf0 hbz1 hbf1 hbz2 hbf2 hbox hb_ hgt_; obtain ⟨hcz0, hfz0, hcz1, hfz1, hcz2, hfz2⟩ := bk3 II.out.bk; obtain ⟨hbz0, hbf0, hbz1, hbf1, hbz2, hbf2⟩ := bk3 II.out.bx))
       obtain ⟨ha0, hb0, hd0⟩ := HC0.out _ (HB0.out.trans II.out.hb)
       simp only [Nat.zero_mul, Nat.one_mul, Ls.add0, Ls.add3] at ha0 hb0 hd0
       go_upto_region 21 with (first | (go_at_call 67; (with_reducible refine (HOK0.out _ _ _ _ _ _ _ HGS.out (HB0.out.trans II.out.hb) II.out.bx II.out.ho II.out.hq B1.out).mono ?_); intro e w5 hp_; obtain ⟨rfl, A1_, c1_, A2_, c2_, hI⟩ := II.out.call hp_; clear ha0 hb0 hd0 II hp_ hcz0 hfz0 hcz1 hfz1 hcz2 hfz2 hbz0 hbf0 hbz1 hbf1 hbz2 hbf2; have II := Aside0.mk hI; clear hI; obtain ⟨hcz0, hfz0, hcz1, hfz1, hcz2, hfz2⟩ := bk3 II.out.bk; obtain ⟨hbz0, hbf0, hbz1, hbf1, hbz2, hbf2⟩ := bk3 II.out.bx))
       obtain ⟨hl_, es_, eg_, en_⟩ := Ls.grd_some B2.out
       have HL := Aside0.mk hl_
       clear hl_
       go_upto_region 22 with (first | ((with_reducible refine gate_builtin (b := .append) (xs := #[.tmp 138, .tmp 142]) rfl ?_); at_builtin; refine Kd.R_append k63 (w0 := w) w0.heap.size rfl (.tmp 138) (.tmp 142) 36 63 (.agg #[.int .i64 0, .int .i64 0, .int .i64 0, .int .i64 0]) 32 rfl Try.underlying36 Ls.info63 rfl (by decide) (by omega) (.slice A2_ q1.g.length c2_) q1.g (⟨(q.s.length : Nat), (q1.s.length : Nat), 0, 0⟩ : S63) [.int .i64 (q.s.length : Nat), .int .i64 (q1.s.length : Nat), .int .i64 0, .int .i64 0] (fun _ => True) (fun _ => False) rfl (by first | (go_simp; done) | (go_simp; rfl)) ?aP (fun _ hk => hk.elim) (fun _ _ => trivial) ?aO ?aB ?aS ?aL ?_; (case aP => exact k63_mkM _ _ _ (⟨(q.s.length : Nat), (q1.s.length : Nat), 0, 0⟩ : S63)); (case aO => exact lR II.out.hq); (case aB => exact II.out.hb); (case aS => exact II.out.hs); (case aL => have := HL.out; omega); intro v6 w6 ho hb hg hat; obtain ⟨Ap, cp, rfl, hx6_, hk6_, hI⟩ := II.out.grd (r := q2) HGS.out ho hb hg es_ eg_ en_; clear II ho hb hg hat hcz0 hfz0 hcz1 hfz1 hcz2 hfz2 hbz0 hbf0 hbz1 hbf1 hbz2 hbf2; obtain ⟨hbz0, hbf0, hbz1, hbf1, hbz2, hbf2⟩ := bk3 hx6_; obtain ⟨hcz0, hfz0, hcz1, hfz1, hcz2, hfz2⟩ := bk3 hk6_))
       clear HL hcz0 hfz0 hcz1 hfz1 hcz2 hfz2 hbz0 hbf0 hbz1 hbf1 hbz2 hbf2
       generalize World.setCell w6 ⟨gb, 1, none⟩ (.slice Ap (q1.g.length + 1) cp) = w7 at hI ⊢
       have II := Aside0.mk hI
       clear hI hx6_ hk6_ es_ eg_ en_
       obtain ⟨hcz0, hfz0, hcz1, hfz1, hcz2, hfz2⟩ := bk3 II.out.bk; obtain ⟨hbz0, hbf0, hbz1, hbf1, hbz2, hbf2⟩ := bk3 II.out.bx
       obtain ⟨A2_, c2_, eA_, ec_⟩ : ∃ A2_ c2_, A2_ = Ap ∧ c2_ = cp := ⟨_, _, rfl, rfl⟩
       subst eA_ ec_
       obtain ⟨ha1, hb1, hd1⟩ := HC1.out _ (HB0.out.trans II.out.hb)
       simp only [Nat.zero_mul, Nat.one_mul, Ls.add0, Ls.add3] at ha1 hb1 hd1
       go_upto_region 24 with (first | (go_at_call 67; (with_reducible refine (HOK1.out _ _ _ _ _ _ _ HGS.out (HB0.out.trans II.out.hb) II.out.bx II.out.ho II.out.hq B3.out).mono ?_); intro e w5 hp_; obtain ⟨rfl, A1_, c1_, A2_, c2_, hI⟩ := II.out.call hp_; clear ha1 hb1 hd1 II hp_ hcz0 hfz0 hcz1 hfz1 hcz2 hfz2 hbz0 hbf0 hbz1 hbf1 hbz2 hbf2; have II := Aside0.mk hI; clear hI; obtain ⟨hcz0, hfz0, hcz1, hfz1, hcz2, hfz2⟩ := bk3 II.out.bk; obtain ⟨hbz0, hbf0, hbz1, hbf1, hbz2, hbf2⟩ := bk3 II.out.bx))
       obtain ⟨hl_, es_, eg_, en_⟩ := Ls.put_some B4.out
       have HL := Aside0.mk hl_
       clear hl_
       go_upto_region 25 with (first | ((with_reducible refine gate_builtin (b := .append) (xs := #[.tmp 161, .tmp 163]) rfl ?_); at_builtin; refine Kd.R_append k86 (w0 := w) w0.heap.size rfl (.tmp 161) (.tmp 163) 35 86 (.agg #[.int .i64 0, .int .i64 0, .int .i64 0]) 24 rfl Try.underlying35 Ls.info86 rfl (by decide) (by omega) (.slice A1_ q3.s.length c1_) q3.s (⟨4, 0, 0⟩ : S86) [.int .i64 4, .int .i64 0, .int .i64 0] (fun _ => True) (fun _ => False) rfl (by first | (go_simp; done) | (go_simp; rfl)) ?aP (fun _ hk => hk.elim) (fun _ _ => trivial) ?aO ?aB ?aS ?aL ?_; (case aP => exact k86_mkM _ _ _ (⟨4, 0, 0⟩ : S86)); (case aO => exact lR II.out.ho); (case aB => exact II.out.hb); (case aS => exact II.out.hs); (case aL => have := HL.out; omega); intro v6 w6 ho hb hg hat; obtain ⟨Ap, cp, rfl, hx6_, hk6_, hI⟩ := II.out.put (r := q4) HGS.out ho hb hg rfl es_ eg_ en_; clear II ho hb hg hat hcz0 hfz0 hcz1 hfz1 hcz2 hfz2 hbz0 hbf0 hbz1 hbf1 hbz2 hbf2; obtain ⟨hbz0, hbf0, hbz1, hbf1, hbz2, hbf2⟩ := bk3 hx6_; obtain ⟨hcz0, hfz0, hcz1, hfz1, hcz2, hfz2⟩ := bk3 hk6_))
       clear HL hcz0 hfz0 hcz1 hfz1 hcz2 hfz2 hbz0 hbf0 hbz1 hbf1 hbz2 hbf2
       generalize World.setCell w6 ⟨gb, 0, none⟩ (.slice Ap (q3.s.length + 1) cp) = w7 at hI ⊢
       have II := Aside0.mk hI
       clear hI hx6_ hk6_ es_ eg_ en_
       obtain ⟨hcz0, hfz0, hcz1, hfz1, hcz2, hfz2⟩ := bk3 II.out.bk; obtain ⟨hbz0, hbf0, hbz1, hbf1, hbz2, hbf2⟩ := bk3 II.out.bx
       obtain ⟨A1_, c1_, eA_, ec_⟩ : ∃ A1_ c1_, A1_ = Ap ∧ c1_ = cp := ⟨_, _, rfl, rfl⟩
       subst eA_ ec_
       have hlt_ := (Ls.setA_some B5.out).1
       obtain ⟨gr, rfl, hsc_, hsf_⟩ := II.out.formA hlt_
       have hi0_ : (0 : Int) ≤ ((q1.g.length : Nat) : Int) := Int.natCast_nonneg _
       have hi1_ : ((q1.g.length : Nat) : Int) < ((q4.g.length : Nat) : Int) := Int.ofNat_lt.mpr hlt_
       go_upto_region 26 with (fail)
       clear hsc_ hsf_ hi0_ hi1_ hlt_ hcz0 hfz0 hcz1 hfz1 hcz2 hfz2 hbz0 hbf0 hbz1 hbf1 hbz2 hbf2
       have hI := II.out.setA B5.out
       clear II
       generalize World.setCell _ ⟨gr, q1.g.length * 4 + 3, none⟩ (.int .i64 ((q3.s.length : Int) + 1)) = w4 at hI ⊢
       have II := Aside0.mk hI
       clear hI
       obtain ⟨hcz0, hfz0, hcz1, hfz1, hcz2, hfz2⟩ := bk3 II.out.bk; obtain ⟨hbz0, hbf0, hbz1, hbf1, hbz2, hbf2⟩ := bk3 II.out.bx
       obtain ⟨ha1, hb1, hd1⟩ := HC1.out _ (HB0.out.trans II.out.hb)
       simp only [Nat.zero_mul, Nat.one_mul, Ls.add0, Ls.add3] at ha1 hb1 hd1
       go_upto_region 27 with (first | (go_at_call 67; (with_reducible refine (HOK1.out _ _ _ _ _ _ _ HGS.out (HB0.out.trans II.out.hb) II.out.bx II.out.ho II.out.hq B6.out).mono ?_); intro e w5 hp_; obtain ⟨rfl, A1_, c1_, A2_, c2_, hI⟩ := II.out.call hp_; clear ha1 hb1 hd1 II hp_ hcz0 hfz0 hcz1 hfz1 hcz2 hfz2 hbz0 hbf0 hbz1 hbf1 hbz2 hbf2; have II := Aside0.mk hI; clear hI; obtain ⟨hcz0, hfz0, hcz1, hfz1, hcz2, hfz2⟩ := bk3 II.out.bk; obtain ⟨hbz0, hbf0, hbz1, hbf1, hbz2, hbf2⟩ := bk3 II.out.bx))
       obtain ⟨hl_, es_, eg_, en_⟩ := Ls.put_some B7.out
       have HL := Aside0.mk hl_
       clear hl_
       go_upto_region 28 with (first | ((with_reducible refine gate_builtin (b := .append) (xs := #[.tmp 186, .tmp 189]) rfl ?_); at_builtin; refine Kd.R_append k86 (w0 := w) w0.heap.size rfl (.tmp 186) (.tmp 189) 35 86 (.agg #[.int .i64 0, .int .i64 0, .int .i64 0]) 24 rfl Try.underlying35 Ls.info86 rfl (by decide) (by omega) (.slice A1_ q6.s.length c1_) q6.s (⟨3, (q1.g.length : Nat), 0⟩ : S86) [.int .i64 3, .int .i64 (q1.g.length : Nat), .int .i64 0] (fun _ => True) (fun _ => False) rfl (by first | (go_simp; done) | (go_simp; rfl)) ?aP (fun _ hk => hk.elim) (fun _ _ => trivial) ?aO ?aB ?aS ?aL ?_; (case aP => exact k86_mkM _ _ _ (⟨3, (q1.g.length : Nat), 0⟩ : S86)); (case aO => exact lR II.out.ho); (case aB => exact II.out.hb); (case aS => exact II.out.hs); (case aL => have := HL.out; omega); intro v6 w6 ho hb hg hat; obtain ⟨Ap, cp, rfl, hx6_, hk6_, hI⟩ := II.out.put (r := q7) HGS.out ho hb hg rfl es_ eg_ en_; clear II ho hb hg hat hcz0 hfz0 hcz1 hfz1 hcz2 hfz2 hbz0 hbf0 hbz1 hbf1 hbz2 hbf2; obtain ⟨hbz0, hbf0, hbz1, hbf1, hbz2, hbf2⟩ := bk3 hx6_; obtain ⟨hcz0, hfz0, hcz1, hfz1, hcz2, hfz2⟩ := bk3 hk6_))
       clear HL hcz0 hfz0 hcz1 hfz1 hcz2 hfz2 hbz0 hbf0 hbz1 hbf1 hbz2 hbf2
       generalize World.setCell w6 ⟨gb, 0, none⟩ (.slice Ap (q6.s.length + 1) cp) = w7 at hI ⊢
       have II := Aside0.mk hI
       clear hI hx6_ hk6_ es_ eg_ en_
       obtain ⟨hcz0, hfz0, hcz1, hfz1, hcz2, hfz2⟩ := bk3 II.out.bk; obtain ⟨hbz0, hbf0, hbz1, hbf1, hbz2, hbf2⟩ := bk3 II.out.bx
       obtain ⟨A1_, c1_, eA_, ec_⟩ : ∃ A1_ c1_, A1_ = Ap ∧ c1_ = cp := ⟨_, _, rfl, rfl⟩
       subst eA_ ec_
       have hlt_ := (Ls.setT_some B8.out).1
       obtain ⟨gr, rfl, hsc_, hsf_⟩ := II.out.formT hlt_
       have hi0_ : (0 : Int) ≤ ((q3.s.length : Nat) : Int) := Int.natCast_nonneg _
       have hi1_ : ((q3.s.length : Nat) : Int) < ((q7.s.length : Nat) : Int) := Int.ofNat_lt.mpr hlt_
       refine start_ (n := 13) (S := fun w' => w'.cell? ⟨gb, 0, none⟩ = some (.slice (some ⟨gr, 0, none⟩) q7.s.length c1_) ∧ w'.cell? ⟨gb, 1, none⟩ = some (.slice A2_ q7.g.length c2_) ∧ w'.cell? ⟨gr, q3.s.length * 3 + 2, none⟩ = some (.int .i64 (rd_T86 q7.s (q3.s.length : Nat)).f2) ∧ w'.frozen? ⟨gr, q3.s.length * 3 + 2, none⟩ = false) (ds := [12]) (bs 13 0) kR rfl kR ⟨hbz0, hbz1, hsc_, hsf_⟩ (fun hHeld => ?_)
       have hI := II.out.drew
       clear II hsc_ hsf_ hcz0 hfz0 hcz1 hfz1 hcz2 hfz2 hbz0 hbf0 hbz1 hbf1 hbz2 hbf2
       generalize hwd_ : World.drew _ = w3 at hI hHeld ⊢
       have II := Aside0.mk hI
       clear hwd_ hI
       refine pur_ 0 193 (bs 13 1) kR ?_
       refine pur_ 1 194 (bs 13 3) kR ?_
       refine pur_ 2 195 (bs 13 7) kR ?_
       refine pur_ 4 197 (bs 13 23) kR ?_
       refine pur_ 5 198 (bs 13 55) kR ?_
       refine pur_ 6 199 (bs 13 119) kR ?_
       refine pur_ 7 200 (bs 13 247) kR ?_
       refine tak_ 3 196 (bs 13 255) kR hHeld ?_
       refine tak_ 8 201 (bs 13 511) kR hHeld ?_
       refine pur_ 9 202 (bs 13 1023) kR ?_
       refine pur_ 10 203 (bs 13 2047) kR ?_
       refine pur_ 11 204 (bs 13 4095) kR ?_
       refine last_ (i := 12) (N := none) (bs 13 8191) rfl rfl kR (by decide) (fun K hK => ?_)
       have hs0_ := hHeld.2.2.1
       have hs1_ := hHeld.2.2.2
       refine skip_ (w1 := World.setCell _ ⟨gr, q3.s.length * 3 + 2, none⟩ (.int .i64 ((q7.s.length : Nat) : Int))) (by rfl) rfl (by first | (go_simp; done) | (go_simp; rfl)) ?_
       refine hK.out _ _ ?_
       clear hK K
       refine done_ kR ?_
       clear hHeld hs0_ hs1_ hi0_ hi1_ hlt_
       have hI := II.out.setT B8.out
       clear II
       generalize World.setCell _ ⟨gr, q3.s.length * 3 + 2, none⟩ (.int .i64 ((q7.s.length : Nat) : Int)) = w4 at hI ⊢
       have II := Aside0.mk hI
       clear hI
       obtain ⟨hcz0, hfz0, hcz1, hfz1, hcz2, hfz2⟩ := bk3 II.out.bk; obtain ⟨hbz0, hbf0, hbz1, hbf1, hbz2, hbf2⟩ := bk3 II.out.bx
       go_wp2
       refine Ls.ret0 rfl rfl ?_
       exact ⟨rfl, ⟨_, _, _, _, II.out.bx, II.out.ho, II.out.hq, II.out.hb⟩, II.out.hk⟩
      ·rw [if_neg k5] at h
       cases h
theorem spec_l16L_lay.calls : ∀ (t : S72) (w0 : World) (gb : Nat) (A : Option Addr) (c : Nat), Kd.C k72 w0 A t.f2.length t.f2 → Ls.Ok w0 gb (Ls.lay t) t.f0 t.f1 A t.f2.length c := by
 intro t
 induction hN : SizeOf.sizeOf t using Nat.strongRecOn generalizing t with
 | _ N ih =>
 subst hN
 intro w0 gb A c h
 obtain ⟨kd, n, ks⟩ := t
 have e : Ls.lay ⟨kd, n, ks⟩ = Ls.node kd n (Ls.lays ks) := by funext q; unfold Ls.lay; rfl
 rw [e]
 simp only at h ⊢
 refine Ls.node_ok ⟨fun i f hf => ?_⟩
 obtain ⟨t, ht, rfl⟩ := Ls.lays_at ks i f hf
 have hil : i < ks.length := by
  by_cases hl : i < ks.length
  ·exact hl
  ·rw [List.getElem?_eq_none (by omega)] at ht; cases ht
 obtain ⟨ad, A2, c2, e1, h1, h2, h3, h4, h5⟩ := at_T72 h (i : Int) (by omega) (by omega)
 have e2 : rd_T72 ks (i : Int) = t := by unfold rd_T72; rw [Int.toNat_natCast, List.getD, ht]; rfl
 rw [e2, Int.toNat_natCast] at h1 h2 h3
 rw [e2] at h4 h5
 refine ⟨hil, ad, t.f0, t.f1, A2, t.f2.length, c2, e1, h1, h2, h3, ih (SizeOf.sizeOf t) ?_ t rfl w0 gb A2 c2 h5⟩
 have hm : t ∈ ks := List.mem_of_getElem? ht
 have := List.sizeOf_lt_of_mem hm
 simp
 omega
end Go.Proofs.Ytgjojppbichaiaa.Q
