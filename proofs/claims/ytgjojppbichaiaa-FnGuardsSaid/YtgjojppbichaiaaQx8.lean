-- Written by the program wip/tools/pr.py of this claim's session, over the kit's print.py.
import Derived.Test.YtgjojppbichaiaaQx0
namespace Go.Proofs.Ytgjojppbichaiaa.Q
open Go.RowKit Go.Proofs.YtgjojppbichaiaaW.PrintWords Go.Proofs.YtgjojppbichaiaaW.PrintLast Go.Proofs.YtgjojppbichaiaaW.PrintMore
attribute [local go_sem] max2_int min2_int max_two min_two max_three min_three max_four min_four   -- for this text's walks alone
set_option linter.unusedVariables false
set_option linter.unusedSimpArgs false

/-! ### spec_l16L_lay: function 67 -/
theorem Ls.info86 : (Try.prog.info? 86).map (fun i => (i.zero, i.size, i.bytes)) = some (some (.agg #[.int .i64 0, .int .i64 0, .int .i64 0]), 3, 24) := by kernel_rfl
theorem Ls.info63 : (Try.prog.info? 63).map (fun i => (i.zero, i.size, i.bytes)) = some (some (.agg #[.int .i64 0, .int .i64 0, .int .i64 0, .int .i64 0]), 4, 32) := by kernel_rfl
/-- A line on its way: steps, guards, a number. -/
structure Ls.Q where
  s : List S86
  g : List S63
  n : Int
/-- What a call leaves: the line's block, its rows. -/
def Ls.Post (T B gb : Nat) (w : World) (S : List S86) (G : List S63) (n : Int) (w' : World) : Prop :=
  ∃ (A1 : Option Addr) (c1 : Nat) (A2 : Option Addr) (c2 : Nat), w'.heap[gb]? = some (.cells #[.slice A1 S.length c1, .slice A2 G.length c2, .int .i64 n] T (0, 0)) ∧ k86.R 86 w' B (fun _ => True) (.slice A1 S.length c1) S ∧ k63.R 63 w' B (fun _ => True) (.slice A2 G.length c2) G ∧ Below B w w'
theorem Ls.drewB {B : Nat} {w w1 : World} (h : Below B w w1) (n : Nat) : Below B w (w1.drewN n) := pw_below_drewN h n
theorem Ls.ret0 {P : Program} {fn : Func} {R : Ending → World → Prop} {a : Act} {w : World} (hr : fn.results = #[]) (hd : a.defers = []) (hR : R (.returned (.tuple #[])) w) : bodyPost P fn R .normal a w :=
  bodyPost_end (results_none hr _ _ _) hd hR
def Ls.put (x : S86) (q : Ls.Q) : Option Ls.Q := if q.s.length < 1000000000000 then some ⟨q.s ++ [x], q.g, q.n⟩ else none
def Ls.grd (x : S63) (q : Ls.Q) : Option Ls.Q := if q.g.length < 1000000000000 then some ⟨q.s, q.g ++ [x], q.n⟩ else none
def Ls.setT (i : Nat) (t : Int) (q : Ls.Q) : Option Ls.Q := if i < q.s.length then some ⟨q.s.set i ⟨(rd_T86 q.s i).f0, (rd_T86 q.s i).f1, t⟩, q.g, q.n⟩ else none
def Ls.setA (i : Nat) (t : Int) (q : Ls.Q) : Option Ls.Q := if i < q.g.length then some ⟨q.s, q.g.set i ⟨(rd_T63 q.g i).f0, (rd_T63 q.g i).f1, (rd_T63 q.g i).f2, t⟩, q.n⟩ else none
abbrev Ls.F := Ls.Q → Option Ls.Q
theorem Ls.cell86 {w : World} {B g c : Nat} {S : List S86} (h : k86.R 86 w B (fun _ => True) (.slice (some ⟨g, 0, none⟩) S.length c) S) {i : Nat} (hi : i < S.length) (t : Int) :
  w.cell? ⟨g, i * 3 + 2, none⟩ = some (.int .i64 (rd_T86 S i).f2) ∧ w.frozen? ⟨g, i * 3 + 2, none⟩ = false ∧ k86.R 86 (w.setCell ⟨g, i * 3 + 2, none⟩ (.int .i64 t)) B (fun _ => True) (.slice (some ⟨g, 0, none⟩) S.length c) (S.set i ⟨(rd_T86 S i).f0, (rd_T86 S i).f1, t⟩) ∧ w.grownBy (w.setCell ⟨g, i * 3 + 2, none⟩ (.int .i64 t)) (some g) := by
  obtain ⟨cs, hl, hM, hcc, hf⟩ := Kd.R_elem h z86 (i : Int) (by omega) (by omega)
  have hM' := k86_openM hM
  have e : (S.getD (i : Int).toNat z86) = rd_T86 S (i : Int) := rfl
  rw [e] at hM'
  subst hM'
  have h1 := hcc 2 _ rfl
  have h2 := hf 2
  obtain ⟨h3, h4⟩ := Kd.R_seg (x' := ⟨(rd_T86 S (i : Int)).f0, (rd_T86 S (i : Int)).f1, t⟩) (okp := fun _ => False) h (i : Int) (by omega) (by omega) hl hcc (seg := [.int .i64 t]) (j := 2) (by show 2 + 1 ≤ 3; decide) (k86_mkM _ _ _ ⟨(rd_T86 S (i : Int)).f0, (rd_T86 S (i : Int)).f1, t⟩) (fun _ hk => hk.elim)
  rw [Int.toNat_natCast] at h1 h2 h3 h4
  exact ⟨h1, h2, h3, h4⟩
theorem Ls.cell63 {w : World} {B g c : Nat} {S : List S63} (h : k63.R 63 w B (fun _ => True) (.slice (some ⟨g, 0, none⟩) S.length c) S) {i : Nat} (hi : i < S.length) (t : Int) :
  w.cell? ⟨g, i * 4 + 3, none⟩ = some (.int .i64 (rd_T63 S i).f3) ∧ w.frozen? ⟨g, i * 4 + 3, none⟩ = false ∧ k63.R 63 (w.setCell ⟨g, i * 4 + 3, none⟩ (.int .i64 t)) B (fun _ => True) (.slice (some ⟨g, 0, none⟩) S.length c) (S.set i ⟨(rd_T63 S i).f0, (rd_T63 S i).f1, (rd_T63 S i).f2, t⟩) ∧ w.grownBy (w.setCell ⟨g, i * 4 + 3, none⟩ (.int .i64 t)) (some g) := by
  obtain ⟨cs, hl, hM, hcc, hf⟩ := Kd.R_elem h z63 (i : Int) (by omega) (by omega)
  have hM' := k63_openM hM
  have e : (S.getD (i : Int).toNat z63) = rd_T63 S (i : Int) := rfl
  rw [e] at hM'
  subst hM'
  have h1 := hcc 3 _ rfl
  have h2 := hf 3
  obtain ⟨h3, h4⟩ := Kd.R_seg (x' := ⟨(rd_T63 S (i : Int)).f0, (rd_T63 S (i : Int)).f1, (rd_T63 S (i : Int)).f2, t⟩) (okp := fun _ => False) h (i : Int) (by omega) (by omega) hl hcc (seg := [.int .i64 t]) (j := 3) (by show 3 + 1 ≤ 4; decide) (k63_mkM _ _ _ ⟨(rd_T63 S (i : Int)).f0, (rd_T63 S (i : Int)).f1, (rd_T63 S (i : Int)).f2, t⟩) (fun _ hk => hk.elim)
  rw [Int.toNat_natCast] at h1 h2 h3 h4
  exact ⟨h1, h2, h3, h4⟩
theorem Ls.setT_some {i : Nat} {t : Int} {q r : Ls.Q} (h : Ls.setT i t q = some r) : i < q.s.length ∧ r.s = q.s.set i ⟨(rd_T86 q.s i).f0, (rd_T86 q.s i).f1, t⟩ ∧ r.g = q.g ∧ r.n = q.n := by
  unfold Ls.setT at h
  split at h
  · rename_i hl
    obtain rfl := Option.some.inj h
    exact ⟨hl, rfl, rfl, rfl⟩
  · cases h
theorem Ls.setA_some {i : Nat} {t : Int} {q r : Ls.Q} (h : Ls.setA i t q = some r) : i < q.g.length ∧ r.s = q.s ∧ r.g = q.g.set i ⟨(rd_T63 q.g i).f0, (rd_T63 q.g i).f1, (rd_T63 q.g i).f2, t⟩ ∧ r.n = q.n := by
  unfold Ls.setA at h
  split at h
  · rename_i hl
    obtain rfl := Option.some.inj h
    exact ⟨hl, rfl, rfl, rfl⟩
  · cases h
def Ls.put3 (x y z : S86) (q : Ls.Q) : Option Ls.Q := if q.s.length < 1000000000000 then some ⟨q.s ++ [x, y, z], q.g, q.n⟩ else none
def Ls.PostV (B gb : Nat) (w : World) (r : Ls.Q) (e : Ending) (w' : World) : Prop := e = .returned (.tuple #[]) ∧ Ls.Post 105 B gb w r.s r.g r.n w' ∧ ∀ (k : Nat) (cs : Array Value), w.heap[k]? = some (.cells cs 72 (0, 0)) → w'.heap[k]? = some (.cells cs 72 (0, 0))
def Ls.node (k n : Int) (fs : List Ls.F) (q : Ls.Q) : Option Ls.Q :=
  if k = 1 then Ls.put ⟨1, n, 0⟩ q
  else if k = 2 then Ls.put ⟨2, n, 0⟩ q
  else match fs[0]? with
    | none => none
    | some f => if k = 6 then (if q.n < 1000000000000 ∧ -1000000000000 < q.n then (Ls.put3 ⟨5, 20 + q.n, 0⟩ ⟨6, 20 + q.n, n⟩ ⟨4, 0, 0⟩ ⟨q.s, q.g, q.n + 1⟩).bind fun q1 => (f q1).bind fun q2 => (Ls.put ⟨4, 0, (q.s.length : Int) + 1⟩ q2).bind fun q3 => Ls.setT (q.s.length + 2) (q3.s.length : Nat) q3 else none)
      else (f q).bind fun q1 => match fs[1]? with
        | none => none
        | some f1 => if k = 3 then f1 q1
          else if k = 4 then (Ls.put ⟨4, 0, 0⟩ q1).bind fun q2 => (Ls.grd ⟨(q.s.length : Nat), (q1.s.length : Nat), n, (q1.s.length : Int) + 1⟩ q2).bind fun q3 => (f1 q3).bind fun q4 => Ls.setT q1.s.length (q4.s.length : Nat) q4
          else if k = 5 then (Ls.grd ⟨(q.s.length : Nat), (q1.s.length : Nat), 0, 0⟩ q1).bind fun q2 => (f1 q2).bind fun q3 => (Ls.put ⟨4, 0, 0⟩ q3).bind fun q4 => (Ls.setA q1.g.length ((q3.s.length : Int) + 1) q4).bind fun q5 => (f1 q5).bind fun q6 => (Ls.put ⟨3, (q1.g.length : Nat), 0⟩ q6).bind fun q7 => Ls.setT q3.s.length (q7.s.length : Nat) q7
          else none
mutual
/-- A tree is laid behind a line. -/
def Ls.lay : S72 → Ls.F
  | ⟨k, n, ts⟩, q => Ls.node k n (Ls.lays ts) q
def Ls.lays : List S72 → List Ls.F
  | [] => []
  | t :: ts => Ls.lay t :: Ls.lays ts
end
theorem Ls.lays_at : ∀ (ts : List S72) (i : Nat) (f : Ls.F), (Ls.lays ts)[i]? = some f → ∃ t, ts[i]? = some t ∧ f = Ls.lay t
  | [], i, f, h => by simp [Ls.lays] at h
  | t :: ts, 0, f, h => by
    simp only [Ls.lays, List.getElem?_cons_zero, Option.some.injEq] at h
    exact ⟨t, rfl, h.symm⟩
  | t :: ts, i + 1, f, h => by
    simp only [Ls.lays, List.getElem?_cons_succ] at h ⊢
    exact Ls.lays_at ts i f h
abbrev Ls.St (T B gb : Nat) (w : World) (q : Ls.Q) (A1 : Option Addr) (c1 : Nat) (A2 : Option Addr) (c2 : Nat) : Prop := w.heap[gb]? = some (.cells #[.slice A1 q.s.length c1, .slice A2 q.g.length c2, .int .i64 q.n] T (0, 0))
abbrev Ls.Ok (w0 : World) (gb : Nat) (f : Ls.F) (kd n : Int) (A : Option Addr) (m c : Nat) : Prop :=
  ∀ (w : World) (A1 : Option Addr) (c1 : Nat) (A2 : Option Addr) (c2 : Nat) (q r : Ls.Q), w0.heap.size ≤ gb → Below w0.heap.size w0 w → Ls.St 105 w0.heap.size gb w q A1 c1 A2 c2 → k86.R 86 w w0.heap.size (fun _ => True) (.slice A1 q.s.length c1) q.s → k63.R 63 w w0.heap.size (fun _ => True) (.slice A2 q.g.length c2) q.g → f q = some r →
    Calls Try.prog 67 #[.pointer (some ⟨gb, 0, none⟩), .agg #[.int .i64 kd, .int .i64 n, .slice A m c]] w (Ls.PostV w0.heap.size gb w r)
theorem Ls.add0 (a : Addr) : a.add 0 = a := by unfold Addr.add; rw [if_pos rfl]
theorem Ls.add3 (a : Addr) : a.add 3 = ⟨a.block, a.off + 3, none⟩ := by unfold Addr.add; rw [if_neg (by decide)]
structure Ls.Nd (w0 : World) (gb : Nat) (A : Option Addr) (m : Nat) (fs : List Ls.F) : Prop where
  kid : ∀ i f, fs[i]? = some f → i < m ∧ ∃ ad k' n' A' m' c', A = some ad ∧ w0.cell? (ad.add (i * 3)) = some (.int .i64 k') ∧ w0.cell? ⟨(ad.add (i * 3)).block, (ad.add (i * 3)).off + 1, none⟩ = some (.int .i64 n') ∧ w0.cell? ⟨(ad.add (i * 3)).block, (ad.add (i * 3)).off + 2, none⟩ = some (.slice A' m' c') ∧ Ls.Ok w0 gb f k' n' A' m' c'
theorem Ls.kid {w0 : World} {gb : Nat} {A : Option Addr} {m : Nat} {fs : List Ls.F} (hN : Ls.Nd w0 gb A m fs) {i : Nat} {f : Ls.F} (hf : fs[i]? = some f) : ∃ ad k' n' A' m' c', A = some ad ∧ i < m ∧ (∀ w, Below w0.heap.size w0 w → w.cell? (ad.add (i * 3)) = some (.int .i64 k') ∧ w.cell? ⟨(ad.add (i * 3)).block, (ad.add (i * 3)).off + 1, none⟩ = some (.int .i64 n') ∧ w.cell? ⟨(ad.add (i * 3)).block, (ad.add (i * 3)).off + 2, none⟩ = some (.slice A' m' c')) ∧ Ls.Ok w0 gb f k' n' A' m' c' := by
  obtain ⟨h1, ad, k', n', A', m', c', h2, h3, h4, h5, h6⟩ := hN.kid i f hf
  exact ⟨ad, k', n', A', m', c', h2, h1, fun w hw => ⟨pw_cell_below hw h3, pw_cell_below hw h4, pw_cell_below hw h5⟩, h6⟩
theorem Ls.put_some {x : S86} {q r : Ls.Q} (h : Ls.put x q = some r) : q.s.length < 1000000000000 ∧ r.s = q.s ++ [x] ∧ r.g = q.g ∧ r.n = q.n := by
  unfold Ls.put at h
  split at h
  · rename_i hl
    obtain rfl := Option.some.inj h
    exact ⟨hl, rfl, rfl, rfl⟩
  · cases h
theorem Ls.grd_some {x : S63} {q r : Ls.Q} (h : Ls.grd x q = some r) : q.g.length < 1000000000000 ∧ r.s = q.s ∧ r.g = q.g ++ [x] ∧ r.n = q.n := by
  unfold Ls.grd at h
  split at h
  · rename_i hl
    obtain rfl := Option.some.inj h
    exact ⟨hl, rfl, rfl, rfl⟩
  · cases h
theorem Ls.put3_some {x y z : S86} {q r : Ls.Q} (h : Ls.put3 x y z q = some r) : q.s.length < 1000000000000 ∧ r.s = q.s ++ [x, y, z] ∧ r.g = q.g ∧ r.n = q.n := by
  unfold Ls.put3 at h
  split at h
  · rename_i hl
    obtain rfl := Option.some.inj h
    exact ⟨hl, rfl, rfl, rfl⟩
  · cases h
theorem Ls.alloc_size (w : World) (o : Obj) : (w.alloc o).heap.size = w.heap.size + 1 := by unfold World.alloc; exact Array.size_push ..
theorem Ls.grown_alloc {w w1 : World} {o : Obj} {v : Option Nat} (h : (w.alloc o).grownBy w1 v) : w.grownBy w1 v := by
  obtain ⟨h1, h2, h3, h4, h5⟩ := h
  refine ⟨h1, h2, h3, by rw [Ls.alloc_size] at h4; omega, fun k hk hv => ?_⟩
  rw [h5 k (by rw [Ls.alloc_size]; omega) hv]
  exact (below_alloc (Below.refl w.heap.size w) o).block k hk
theorem Ls.three (w : World) (x y z : S86) : ReadsRow (fun (x : S86) (cs : List Value) => cs = [.int .i64 x.f0, .int .i64 x.f1, .int .i64 x.f2]) 3 (w.alloc (.cells #[.int .i64 x.f0, .int .i64 x.f1, .int .i64 x.f2, .int .i64 y.f0, .int .i64 y.f1, .int .i64 y.f2, .int .i64 z.f0, .int .i64 z.f1, .int .i64 z.f2] 86 (0, 0))) (some ⟨w.heap.size, 0, none⟩) 3 [x, y, z] := by
  refine ⟨rfl, by decide, fun _ => ⟨_, rfl, fun j p hj => ⟨[.int .i64 p.f0, .int .i64 p.f1, .int .i64 p.f2], rfl, rfl, fun i u hu => ?_⟩⟩⟩
  have hb := blk_new w (.cells #[.int .i64 x.f0, .int .i64 x.f1, .int .i64 x.f2, .int .i64 y.f0, .int .i64 y.f1, .int .i64 y.f2, .int .i64 z.f0, .int .i64 z.f1, .int .i64 z.f2] 86 (0, 0))
  rw [add_plain, blk_cell hb]
  match j, i, hj, hu with
  | 0, 0, hj, hu => cases hj; exact hu
  | 0, 1, hj, hu => cases hj; exact hu
  | 0, 2, hj, hu => cases hj; exact hu
  | 0, i + 3, hj, hu => simp at hu
  | 1, 0, hj, hu => cases hj; exact hu
  | 1, 1, hj, hu => cases hj; exact hu
  | 1, 2, hj, hu => cases hj; exact hu
  | 1, i + 3, hj, hu => simp at hu
  | 2, 0, hj, hu => cases hj; exact hu
  | 2, 1, hj, hu => cases hj; exact hu
  | 2, 2, hj, hu => cases hj; exact hu
  | 2, i + 3, hj, hu => simp at hu
  | j + 3, i, hj, hu => simp at hj
set_option maxHeartbeats 16000000 in
set_option maxRecDepth 100000 in
theorem Ls.node_ok {w0 : World} {gb : Nat} {k n : Int} {A : Option Addr} {m c : Nat} {fs : List Ls.F} (hN : Ls.Nd w0 gb A m fs) : Ls.Ok w0 gb (Ls.node k n fs) k n A m c := by
 intro w A1_ c1_ A2_ c2_ q r hgs hB0 hbx hS hG h
 have hu35 := Try.underlying35
 have hu36 := Try.underlying36
 have hu86 := Try.underlying86
 have hu63 := Try.underlying63
 have hu105 := Try.underlying105
 have hu72 := Try.underlying72
 have hu70 := Try.underlying70
 have HN := Aside0.mk hN
 have BX := Aside0.mk hbx
 have HO := Aside0.mk hS
 have HQ := Aside0.mk hG
 have HB := Aside0.mk (Below.refl w0.heap.size w)
 have HB0 := Aside0.mk hB0
 have HGS := Aside0.mk hgs
 have HS := Aside0.mk hB0.size
 clear hbx hS hG hB0 hN hgs
 unfold Ls.node at h
 obtain ⟨hbz0, hbf0, hbz1, hbf1, hbz2, hbf2⟩ := bk3 BX.out
 by_cases k1 : k = 1
 ·rw [if_pos k1] at h
  subst k1
  have B1 := Aside0.mk h
  clear h
  go_enter Try.func67, Try.ntmps67
  go_upto_region 1 with (first | ((with_reducible refine gate_dst (N := 3) rfl ?_); refine bxe 3 #[.int .i64 1, .int .i64 n, .slice A m c] 72 ?_; intro gt hgt_ w4 hbox hb_; have n0_ := Aside0.mk (blk_below BX.out hb_); have n1_ := Aside0.mk (Kd.R_below HO.out hb_); have n2_ := Aside0.mk (Kd.R_below HQ.out hb_); have n3_ : Aside0 (Below w0.heap.size w w4) := ⟨HB.out.trans (hb_.mono HS.out)⟩; have n4_ := Aside0.mk (Nat.le_trans HS.out hb_.size); have n5_ := Aside0.mk hbox; have n6_ : Aside0 (∀ (k : Nat) (cs : Array Value), w.heap[k]? = some (.cells cs 72 (0, 0)) → w4.heap[k]? = some (.cells cs 72 (0, 0))) := ⟨fun k cs h => blk_below h hb_⟩; clear BX HO HQ HB HS hbz0 hbf0 hbz1 hbf1 hbz2 hbf2 hbox hb_ hgt_; have BX := n0_; have HO := n1_; have HQ := n2_; have HB := n3_; have HS := n4_; have BK := n5_; have HK := n6_; clear n0_ n1_ n2_ n3_ n4_ n5_ n6_; obtain ⟨hcz0, hfz0, hcz1, hfz1, hcz2, hfz2⟩ := bk3 BK.out; obtain ⟨hbz0, hbf0, hbz1, hbf1, hbz2, hbf2⟩ := bk3 BX.out))
  go_upto_region 4 with (fail)
  obtain ⟨hl_, es_, eg_, en_⟩ := Ls.put_some B1.out
  have HL := Aside0.mk hl_
  clear hl_
  refine start_ (n := 13) (S := fun w' => w'.cell? ⟨gb, 0, none⟩ = some (.slice A1_ q.s.length c1_) ∧ w'.frozen? ⟨gb, 0, none⟩ = false ∧ w'.cell? ⟨gb, 1, none⟩ = some (.slice A2_ q.g.length c2_) ∧ w'.frozen? ⟨gb, 1, none⟩ = false ∧ w'.cell? ⟨gt, 1, none⟩ = some (.int .i64 n)) (ds := [12]) (bs 13 0) kR rfl kR ⟨hbz0, hbf0, hbz1, hbf1, hcz1⟩ (fun hHeld => ?_)
  have n0_ := Aside0.mk (blk_drew BX.out)
  have n1_ := Aside0.mk (Kd.R_drew HO.out)
  have n2_ := Aside0.mk (Kd.R_drew HQ.out)
  have n3_ := Aside0.mk HB.out.drew
  have n4_ : Aside0 (w0.heap.size ≤ (World.drew _).heap.size) := HS
  have n5_ := Aside0.mk (blk_drew BK.out)
  have n6_ : Aside0 (∀ (k : Nat) (cs : Array Value), w.heap[k]? = some (.cells cs 72 (0, 0)) → (World.drew _).heap[k]? = some (.cells cs 72 (0, 0))) := ⟨fun k cs h => blk_drew (HK.out k cs h)⟩
  clear BX HO HQ HB HS BK HK hcz0 hfz0 hcz1 hfz1 hcz2 hfz2 hbz0 hbf0 hbz1 hbf1 hbz2 hbf2
  generalize hwd_ : World.drew _ = w3 at n0_ n1_ n2_ n3_ n4_ n5_ n6_ hHeld ⊢
  clear hwd_
  have BX := n0_
  have HO := n1_
  have HQ := n2_
  have HB := n3_
  have HS := n4_
  have BK := n5_
  have HK := n6_
  clear n0_ n1_ n2_ n3_ n4_ n5_ n6_
  refine pur_ 0 19 (bs 13 1) kR ?_
  refine pur_ 1 20 (bs 13 3) kR ?_
  refine pur_ 2 21 (bs 13 7) kR ?_
  refine pur_ 3 22 (bs 13 15) kR ?_
  refine pur_ 5 24 (bs 13 47) kR ?_
  refine tak_ 4 23 (bs 13 63) kR hHeld ?_
  refine tak_ 6 25 (bs 13 127) kR hHeld ?_
  refine pur_ 7 26 (bs 13 255) kR ?_
  refine one_ (i := 8) (N := some 27) (bs 13 511) rfl rfl kR (by decide) (fun K hK => ?_)
  refine value_ (w1 := ?_) (v := ?_) (by rfl) rfl ?_ ?_
  rotate_left 2
  ·go_simp
   constructor
   ·rfl
   ·rfl
  refine hK.out _ _ ⟨bZ (bA (lK BX.out) _) 0, blk_frozen (bA (lK BX.out) _) 0, bZ (bA (lK BX.out) _) 1, blk_frozen (bA (lK BX.out) _) 1, bZ (bA (lK BK.out) _) 1⟩ (fun hHeld => ?_)
  clear hK K
  refine norm_ (a' := ?_) ?_ ?_
  rotate_left
  ·show Act.put _ (some 27) _ = _
   simp only [Act.put, List.setIfInBounds_toArray, List.set_cons_zero, List.set_cons_succ, i64_w, i32_w]
   rfl
  refine one_ (i := 9) (N := some 28) (bs 13 1023) rfl rfl kR (by decide) (fun K hK => ?_)
  refine Kd.R_append_step k86 (w0 := w) w0.heap.size (by rfl) (.tmp 23) (.tmp 27) 35 86 (.agg #[.int .i64 0, .int .i64 0, .int .i64 0]) 24 rfl Try.underlying35 Ls.info86 rfl (by decide) (by omega) (.slice A1_ q.s.length c1_) q.s (⟨1, n, 0⟩ : S86) [.int .i64 1, .int .i64 n, .int .i64 0] (fun _ => True) (fun _ => False) rfl rfl ?aP (fun _ hk => hk.elim) (fun _ _ => trivial) ?aO ?aB ?aS ?aL ?_
  (case aP => exact k86_mkM _ _ _ (⟨1, n, 0⟩ : S86))
  (case aO => exact lR HO.out)
  (case aB => exact HB.out)
  (case aS => exact HS.out)
  (case aL => have := HL.out; omega)
  intro v6 w6 ho hb hg hat
  have n0_ := Aside0.mk (blk_grown (lK BX.out) hg (Kd.R_ne HO.out BX.out (by decide)))
  have m_ := Aside0.mk (Kd.R_over (lR HQ.out) HO.out (by decide) hg)
  have n4_ := Aside0.mk (Nat.le_trans HS.out hg.size)
  have n5_ := Aside0.mk (blk_grown (lK BK.out) hg (Kd.R_ne HO.out BK.out (by decide)))
  have n6_ : Aside0 (∀ (k : Nat) (cs : Array Value), w.heap[k]? = some (.cells cs 72 (0, 0)) → w6.heap[k]? = some (.cells cs 72 (0, 0))) := ⟨fun k cs h => blk_grown (HK.out k cs h) hg (Kd.R_ne HO.out (HK.out k cs h) (by decide))⟩
  clear BX HO HQ HB HS BK HK
  have BX := n0_
  have HQ := m_
  have HO := Aside0.mk ho
  have HB := Aside0.mk hb
  have HS := n4_
  have BK := n5_
  have HK := n6_
  clear n0_ m_ n4_ n5_ n6_ ho hb hg hat
  obtain ⟨Ap, cp, ep⟩ := Kd.R_slice HO.out
  subst ep
  refine hK.out _ _ ⟨bZ (BX.out) 0, blk_frozen (BX.out) 0, bZ (BX.out) 1, blk_frozen (BX.out) 1, bZ (BK.out) 1⟩ (fun hHeld => ?_)
  clear hK K
  refine norm_ (a' := ?_) ?_ ?_
  rotate_left
  ·show Act.put _ (some 28) _ = _
   simp only [Act.put, List.setIfInBounds_toArray, List.set_cons_zero, List.set_cons_succ, i64_w, i32_w]
   rfl
  refine pur_ 10 29 (bs 13 2047) kR ?_
  refine pur_ 11 30 (bs 13 4095) kR ?_
  refine last_ (i := 12) (N := none) (bs 13 8191) rfl rfl kR (by decide) (fun K hK => ?_)
  have hs0_ := hHeld.1
  have hs1_ := hHeld.2.1
  have hs2_ := hHeld.2.2.1
  have hs3_ := hHeld.2.2.2.1
  refine skip_ (w1 := World.setCell _ ⟨gb, 0, none⟩ (.slice Ap (q.s ++ [(⟨1, n, 0⟩ : S86)]).length cp)) (by rfl) rfl (by first | (go_simp; done) | (go_simp; rfl)) ?_
  refine hK.out _ _ ?_
  clear hK K
  refine done_ kR ?_
  clear hHeld HL hs0_ hs1_ hs2_ hs3_
  have n0_ := Aside0.mk (blk_put (cs := #[.slice A1_ q.s.length c1_, .slice A2_ q.g.length c2_, .int .i64 q.n]) BX.out 0 (.slice Ap (q.s ++ [(⟨1, n, 0⟩ : S86)]).length cp) rfl)
  have n1_ := Aside0.mk (Kd.R_set HO.out BX.out (by decide) 0 (.slice Ap (q.s ++ [(⟨1, n, 0⟩ : S86)]).length cp))
  have n2_ := Aside0.mk (Kd.R_set HQ.out BX.out (by decide) 0 (.slice Ap (q.s ++ [(⟨1, n, 0⟩ : S86)]).length cp))
  have n3_ := Aside0.mk (HB.out.setCell (p := ⟨gb, 0, none⟩) HGS.out (.slice Ap (q.s ++ [(⟨1, n, 0⟩ : S86)]).length cp))
  have n4_ := Aside0.mk (show w0.heap.size ≤ (World.setCell w6 ⟨gb, 0, none⟩ (.slice Ap (q.s ++ [(⟨1, n, 0⟩ : S86)]).length cp)).heap.size from Nat.le_trans HS.out (by simp [World.setCell]))
  have n5_ := Aside0.mk (blk_far BK.out (p := ⟨gb, 0, none⟩) (blk_ne BK.out BX.out (by decide)) (.slice Ap (q.s ++ [(⟨1, n, 0⟩ : S86)]).length cp))
  have n6_ : Aside0 (∀ (k : Nat) (cs : Array Value), w.heap[k]? = some (.cells cs 72 (0, 0)) → (World.setCell w6 ⟨gb, 0, none⟩ (.slice Ap (q.s ++ [(⟨1, n, 0⟩ : S86)]).length cp)).heap[k]? = some (.cells cs 72 (0, 0))) := ⟨fun k cs h => blk_far (HK.out k cs h) (p := ⟨gb, 0, none⟩) (blk_ne (HK.out k cs h) BX.out (by decide)) (.slice Ap (q.s ++ [(⟨1, n, 0⟩ : S86)]).length cp)⟩
  clear BX HO HQ HB HS BK HK
  generalize World.setCell w6 ⟨gb, 0, none⟩ (.slice Ap (q.s ++ [(⟨1, n, 0⟩ : S86)]).length cp) = w7 at n0_ n1_ n2_ n3_ n4_ n5_ n6_ ⊢
  have BX := n0_
  have HO := n1_
  have HQ := n2_
  have HB := n3_
  have HS := n4_
  have BK := n5_
  have HK := n6_
  clear n0_ n1_ n2_ n3_ n4_ n5_ n6_
  have BX : Aside0 (Ls.St 105 w0.heap.size gb w7 r Ap cp A2_ c2_) := ⟨by unfold Ls.St; rw [es_, eg_, en_]; exact BX.out⟩
  have HO : Aside0 (k86.R 86 w7 w0.heap.size (fun _ => True) (.slice Ap r.s.length cp) r.s) := ⟨by rw [es_]; exact HO.out⟩
  have HQ : Aside0 (k63.R 63 w7 w0.heap.size (fun _ => True) (.slice A2_ r.g.length c2_) r.g) := ⟨by rw [eg_]; exact HQ.out⟩
  clear es_ eg_ en_
  obtain ⟨hcz0, hfz0, hcz1, hfz1, hcz2, hfz2⟩ := bk3 BK.out; obtain ⟨hbz0, hbf0, hbz1, hbf1, hbz2, hbf2⟩ := bk3 BX.out
  obtain ⟨A1_, eA_⟩ : ∃ A1_, A1_ = Ap := ⟨_, rfl⟩
  obtain ⟨c1_, ec_⟩ : ∃ c1_, c1_ = cp := ⟨_, rfl⟩
  subst eA_
  subst ec_
  go_wp2
  refine Ls.ret0 rfl rfl ?_
  exact ⟨rfl, ⟨_, _, _, _, BX.out, HO.out, HQ.out, HB.out⟩, HK.out⟩
 ·rw [if_neg k1] at h
  have k1b : (k == 1) = false := beq_eq_false_iff_ne.mpr k1
  by_cases k2 : k = 2
  ·rw [if_pos k2] at h
   subst k2
   have B1 := Aside0.mk h
   clear h
   go_enter Try.func67, Try.ntmps67
   go_upto_region 1 with (first | ((with_reducible refine gate_dst (N := 3) rfl ?_); refine bxe 3 #[.int .i64 2, .int .i64 n, .slice A m c] 72 ?_; intro gt hgt_ w4 hbox hb_; have n0_ := Aside0.mk (blk_below BX.out hb_); have n1_ := Aside0.mk (Kd.R_below HO.out hb_); have n2_ := Aside0.mk (Kd.R_below HQ.out hb_); have n3_ : Aside0 (Below w0.heap.size w w4) := ⟨HB.out.trans (hb_.mono HS.out)⟩; have n4_ := Aside0.mk (Nat.le_trans HS.out hb_.size); have n5_ := Aside0.mk hbox; have n6_ : Aside0 (∀ (k : Nat) (cs : Array Value), w.heap[k]? = some (.cells cs 72 (0, 0)) → w4.heap[k]? = some (.cells cs 72 (0, 0))) := ⟨fun k cs h => blk_below h hb_⟩; clear BX HO HQ HB HS hbz0 hbf0 hbz1 hbf1 hbz2 hbf2 hbox hb_ hgt_; have BX := n0_; have HO := n1_; have HQ := n2_; have HB := n3_; have HS := n4_; have BK := n5_; have HK := n6_; clear n0_ n1_ n2_ n3_ n4_ n5_ n6_; obtain ⟨hcz0, hfz0, hcz1, hfz1, hcz2, hfz2⟩ := bk3 BK.out; obtain ⟨hbz0, hbf0, hbz1, hbf1, hbz2, hbf2⟩ := bk3 BX.out))
   go_upto_region 6 with (fail)
   obtain ⟨hl_, es_, eg_, en_⟩ := Ls.put_some B1.out
   have HL := Aside0.mk hl_
   clear hl_
   refine start_ (n := 13) (S := fun w' => w'.cell? ⟨gb, 0, none⟩ = some (.slice A1_ q.s.length c1_) ∧ w'.frozen? ⟨gb, 0, none⟩ = false ∧ w'.cell? ⟨gb, 1, none⟩ = some (.slice A2_ q.g.length c2_) ∧ w'.frozen? ⟨gb, 1, none⟩ = false ∧ w'.cell? ⟨gt, 1, none⟩ = some (.int .i64 n)) (ds := [12]) (bs 13 0) kR rfl kR ⟨hbz0, hbf0, hbz1, hbf1, hcz1⟩ (fun hHeld => ?_)
   have n0_ := Aside0.mk (blk_drew BX.out)
   have n1_ := Aside0.mk (Kd.R_drew HO.out)
   have n2_ := Aside0.mk (Kd.R_drew HQ.out)
   have n3_ := Aside0.mk HB.out.drew
   have n4_ : Aside0 (w0.heap.size ≤ (World.drew _).heap.size) := HS
   have n5_ := Aside0.mk (blk_drew BK.out)
   have n6_ : Aside0 (∀ (k : Nat) (cs : Array Value), w.heap[k]? = some (.cells cs 72 (0, 0)) → (World.drew _).heap[k]? = some (.cells cs 72 (0, 0))) := ⟨fun k cs h => blk_drew (HK.out k cs h)⟩
   clear BX HO HQ HB HS BK HK hcz0 hfz0 hcz1 hfz1 hcz2 hfz2 hbz0 hbf0 hbz1 hbf1 hbz2 hbf2
   generalize hwd_ : World.drew _ = w3 at n0_ n1_ n2_ n3_ n4_ n5_ n6_ hHeld ⊢
   clear hwd_
   have BX := n0_
   have HO := n1_
   have HQ := n2_
   have HB := n3_
   have HS := n4_
   have BK := n5_
   have HK := n6_
   clear n0_ n1_ n2_ n3_ n4_ n5_ n6_
   refine pur_ 0 33 (bs 13 1) kR ?_
   refine pur_ 1 34 (bs 13 3) kR ?_
   refine pur_ 2 35 (bs 13 7) kR ?_
   refine pur_ 3 36 (bs 13 15) kR ?_
   refine pur_ 5 38 (bs 13 47) kR ?_
   refine tak_ 4 37 (bs 13 63) kR hHeld ?_
   refine tak_ 6 39 (bs 13 127) kR hHeld ?_
   refine pur_ 7 40 (bs 13 255) kR ?_
   refine one_ (i := 8) (N := some 41) (bs 13 511) rfl rfl kR (by decide) (fun K hK => ?_)
   refine value_ (w1 := ?_) (v := ?_) (by rfl) rfl ?_ ?_
   rotate_left 2
   ·go_simp
    constructor
    ·rfl
    ·rfl
   refine hK.out _ _ ⟨bZ (bA (lK BX.out) _) 0, blk_frozen (bA (lK BX.out) _) 0, bZ (bA (lK BX.out) _) 1, blk_frozen (bA (lK BX.out) _) 1, bZ (bA (lK BK.out) _) 1⟩ (fun hHeld => ?_)
   clear hK K
   refine norm_ (a' := ?_) ?_ ?_
   rotate_left
   ·show Act.put _ (some 41) _ = _
    simp only [Act.put, List.setIfInBounds_toArray, List.set_cons_zero, List.set_cons_succ, i64_w, i32_w]
    rfl
   refine one_ (i := 9) (N := some 42) (bs 13 1023) rfl rfl kR (by decide) (fun K hK => ?_)
   refine Kd.R_append_step k86 (w0 := w) w0.heap.size (by rfl) (.tmp 37) (.tmp 41) 35 86 (.agg #[.int .i64 0, .int .i64 0, .int .i64 0]) 24 rfl Try.underlying35 Ls.info86 rfl (by decide) (by omega) (.slice A1_ q.s.length c1_) q.s (⟨2, n, 0⟩ : S86) [.int .i64 2, .int .i64 n, .int .i64 0] (fun _ => True) (fun _ => False) rfl rfl ?aP (fun _ hk => hk.elim) (fun _ _ => trivial) ?aO ?aB ?aS ?aL ?_
   (case aP => exact k86_mkM _ _ _ (⟨2, n, 0⟩ : S86))
   (case aO => exact lR HO.out)
   (case aB => exact HB.out)
   (case aS => exact HS.out)
   (case aL => have := HL.out; omega)
   intro v6 w6 ho hb hg hat
   have n0_ := Aside0.mk (blk_grown (lK BX.out) hg (Kd.R_ne HO.out BX.out (by decide)))
   have m_ := Aside0.mk (Kd.R_over (lR HQ.out) HO.out (by decide) hg)
   have n4_ := Aside0.mk (Nat.le_trans HS.out hg.size)
   have n5_ := Aside0.mk (blk_grown (lK BK.out) hg (Kd.R_ne HO.out BK.out (by decide)))
   have n6_ : Aside0 (∀ (k : Nat) (cs : Array Value), w.heap[k]? = some (.cells cs 72 (0, 0)) → w6.heap[k]? = some (.cells cs 72 (0, 0))) := ⟨fun k cs h => blk_grown (HK.out k cs h) hg (Kd.R_ne HO.out (HK.out k cs h) (by decide))⟩
   clear BX HO HQ HB HS BK HK
   have BX := n0_
   have HQ := m_
   have HO := Aside0.mk ho
   have HB := Aside0.mk hb
   have HS := n4_
   have BK := n5_
   have HK := n6_
   clear n0_ m_ n4_ n5_ n6_ ho hb hg hat
   obtain ⟨Ap, cp, ep⟩ := Kd.R_slice HO.out
   subst ep
   refine hK.out _ _ ⟨bZ (BX.out) 0, blk_frozen (BX.out) 0, bZ (BX.out) 1, blk_frozen (BX.out) 1, bZ (BK.out) 1⟩ (fun hHeld => ?_)
   clear hK K
   refine norm_ (a' := ?_) ?_ ?_
   rotate_left
   ·show Act.put _ (some 42) _ = _
    simp only [Act.put, List.setIfInBounds_toArray, List.set_cons_zero, List.set_cons_succ, i64_w, i32_w]
    rfl
   refine pur_ 10 43 (bs 13 2047) kR ?_
   refine pur_ 11 44 (bs 13 4095) kR ?_
   refine last_ (i := 12) (N := none) (bs 13 8191) rfl rfl kR (by decide) (fun K hK => ?_)
   have hs0_ := hHeld.1
   have hs1_ := hHeld.2.1
   have hs2_ := hHeld.2.2.1
   have hs3_ := hHeld.2.2.2.1
   refine skip_ (w1 := World.setCell _ ⟨gb, 0, none⟩ (.slice Ap (q.s ++ [(⟨2, n, 0⟩ : S86)]).length cp)) (by rfl) rfl (by first | (go_simp; done) | (go_simp; rfl)) ?_
   refine hK.out _ _ ?_
   clear hK K
   refine done_ kR ?_
   clear hHeld HL hs0_ hs1_ hs2_ hs3_
   have n0_ := Aside0.mk (blk_put (cs := #[.slice A1_ q.s.length c1_, .slice A2_ q.g.length c2_, .int .i64 q.n]) BX.out 0 (.slice Ap (q.s ++ [(⟨2, n, 0⟩ : S86)]).length cp) rfl)
   have n1_ := Aside0.mk (Kd.R_set HO.out BX.out (by decide) 0 (.slice Ap (q.s ++ [(⟨2, n, 0⟩ : S86)]).length cp))
   have n2_ := Aside0.mk (Kd.R_set HQ.out BX.out (by decide) 0 (.slice Ap (q.s ++ [(⟨2, n, 0⟩ : S86)]).length cp))
   have n3_ := Aside0.mk (HB.out.setCell (p := ⟨gb, 0, none⟩) HGS.out (.slice Ap (q.s ++ [(⟨2, n, 0⟩ : S86)]).length cp))
   have n4_ := Aside0.mk (show w0.heap.size ≤ (World.setCell w6 ⟨gb, 0, none⟩ (.slice Ap (q.s ++ [(⟨2, n, 0⟩ : S86)]).length cp)).heap.size from Nat.le_trans HS.out (by simp [World.setCell]))
   have n5_ := Aside0.mk (blk_far BK.out (p := ⟨gb, 0, none⟩) (blk_ne BK.out BX.out (by decide)) (.slice Ap (q.s ++ [(⟨2, n, 0⟩ : S86)]).length cp))
   have n6_ : Aside0 (∀ (k : Nat) (cs : Array Value), w.heap[k]? = some (.cells cs 72 (0, 0)) → (World.setCell w6 ⟨gb, 0, none⟩ (.slice Ap (q.s ++ [(⟨2, n, 0⟩ : S86)]).length cp)).heap[k]? = some (.cells cs 72 (0, 0))) := ⟨fun k cs h => blk_far (HK.out k cs h) (p := ⟨gb, 0, none⟩) (blk_ne (HK.out k cs h) BX.out (by decide)) (.slice Ap (q.s ++ [(⟨2, n, 0⟩ : S86)]).length cp)⟩
   clear BX HO HQ HB HS BK HK
   generalize World.setCell w6 ⟨gb, 0, none⟩ (.slice Ap (q.s ++ [(⟨2, n, 0⟩ : S86)]).length cp) = w7 at n0_ n1_ n2_ n3_ n4_ n5_ n6_ ⊢
   have BX := n0_
   have HO := n1_
   have HQ := n2_
   have HB := n3_
   have HS := n4_
   have BK := n5_
   have HK := n6_
   clear n0_ n1_ n2_ n3_ n4_ n5_ n6_
   have BX : Aside0 (Ls.St 105 w0.heap.size gb w7 r Ap cp A2_ c2_) := ⟨by unfold Ls.St; rw [es_, eg_, en_]; exact BX.out⟩
   have HO : Aside0 (k86.R 86 w7 w0.heap.size (fun _ => True) (.slice Ap r.s.length cp) r.s) := ⟨by rw [es_]; exact HO.out⟩
   have HQ : Aside0 (k63.R 63 w7 w0.heap.size (fun _ => True) (.slice A2_ r.g.length c2_) r.g) := ⟨by rw [eg_]; exact HQ.out⟩
   clear es_ eg_ en_
   obtain ⟨hcz0, hfz0, hcz1, hfz1, hcz2, hfz2⟩ := bk3 BK.out; obtain ⟨hbz0, hbf0, hbz1, hbf1, hbz2, hbf2⟩ := bk3 BX.out
   obtain ⟨A1_, eA_⟩ : ∃ A1_, A1_ = Ap := ⟨_, rfl⟩
   obtain ⟨c1_, ec_⟩ : ∃ c1_, c1_ = cp := ⟨_, rfl⟩
   subst eA_
   subst ec_
   go_wp2
   refine Ls.ret0 rfl rfl ?_
   exact ⟨rfl, ⟨_, _, _, _, BX.out, HO.out, HQ.out, HB.out⟩, HK.out⟩
  ·rw [if_neg k2] at h
   have k2b : (k == 2) = false := beq_eq_false_iff_ne.mpr k2
   split at h
   ·cases h
   rename_i f0 hf0
   obtain ⟨ad0, k0_, n0_, AA0, mm0, cc0, eA0, hm0, hc0, hok0⟩ := Ls.kid HN.out hf0
   have HOK0 := Aside0.mk hok0
   have HC0 := Aside0.mk hc0
   clear hok0 hc0
   have hm0b : (0 < m) = True := eq_true hm0
   have hm0c : ((0 : Int) < (m : Int)) = True := eq_true (by omega)
   clear hm0
   subst eA0
   by_cases k6 : k = 6
   ·rw [if_pos k6] at h
    subst k6
    split at h
    case isFalse => cases h
    rename_i hlim
    obtain ⟨hn1, hn2⟩ := hlim
    replace h := lO h; obtain ⟨q1, B1, h⟩ := h
    replace h := lO h; obtain ⟨q2, B2, h⟩ := h
    replace h := lO h; obtain ⟨q3, B3, h⟩ := h
    have B4 := Aside0.mk h
    clear h
    have hlq_ := (Ls.put3_some B1.out).1
    simp only at hlq_
    go_enter Try.func67, Try.ntmps67
    go_upto_region 1 with (first | ((with_reducible refine gate_dst (N := 3) rfl ?_); refine bxe 3 #[.int .i64 6, .int .i64 n, .slice (some ad0) m c] 72 ?_; intro gt hgt_ w4 hbox hb_; have n0_ := Aside0.mk (blk_below BX.out hb_); have n1_ := Aside0.mk (Kd.R_below HO.out hb_); have n2_ := Aside0.mk (Kd.R_below HQ.out hb_); have n3_ : Aside0 (Below w0.heap.size w w4) := ⟨HB.out.trans (hb_.mono HS.out)⟩; have n4_ := Aside0.mk (Nat.le_trans HS.out hb_.size); have n5_ := Aside0.mk hbox; have n6_ : Aside0 (∀ (k : Nat) (cs : Array Value), w.heap[k]? = some (.cells cs 72 (0, 0)) → w4.heap[k]? = some (.cells cs 72 (0, 0))) := ⟨fun k cs h => blk_below h hb_⟩; clear BX HO HQ HB HS hbz0 hbf0 hbz1 hbf1 hbz2 hbf2 hbox hb_ hgt_; have BX := n0_; have HO := n1_; have HQ := n2_; have HB := n3_; have HS := n4_; have BK := n5_; have HK := n6_; clear n0_ n1_ n2_ n3_ n4_ n5_ n6_; obtain ⟨hcz0, hfz0, hcz1, hfz1, hcz2, hfz2⟩ := bk3 BK.out; obtain ⟨hbz0, hbf0, hbz1, hbf1, hbz2, hbf2⟩ := bk3 BX.out))
    go_upto_region 32 with (fail)
    have n0_ : Aside0 (Ls.St 105 w0.heap.size gb (World.setCell _ ⟨gb, 2, none⟩ (.int .i64 (q.n + 1))) ⟨q.s, q.g, q.n + 1⟩ A1_ c1_ A2_ c2_) := ⟨blk_put BX.out 2 _ rfl⟩
    have n1_ := Aside0.mk (Kd.R_set HO.out BX.out (by decide) 2 (.int .i64 (q.n + 1)))
    have n2_ := Aside0.mk (Kd.R_set HQ.out BX.out (by decide) 2 (.int .i64 (q.n + 1)))
    have n3_ := Aside0.mk (HB.out.setCell (p := ⟨gb, 2, none⟩) HGS.out (.int .i64 (q.n + 1)))
    have n4_ := Aside0.mk (show w0.heap.size ≤ (World.setCell w4 ⟨gb, 2, none⟩ (.int .i64 (q.n + 1))).heap.size from Nat.le_trans HS.out (by simp [World.setCell]))
    have n5_ := Aside0.mk (blk_far BK.out (p := ⟨gb, 2, none⟩) (blk_ne BK.out BX.out (by decide)) (.int .i64 (q.n + 1)))
    have n6_ := Aside0.mk (fun (k : Nat) (cs : Array Value) (h : w.heap[k]? = some (.cells cs 72 (0, 0))) => blk_far (HK.out k cs h) (p := ⟨gb, 2, none⟩) (blk_ne (HK.out k cs h) BX.out (by decide)) (.int .i64 (q.n + 1)))
    clear BX HO HQ HB HS BK HK hcz0 hfz0 hcz1 hfz1 hcz2 hfz2 hbz0 hbf0 hbz1 hbf1 hbz2 hbf2
    generalize World.setCell w4 ⟨gb, 2, none⟩ (.int .i64 (q.n + 1)) = w7 at n0_ n1_ n2_ n3_ n4_ n5_ n6_ ⊢
    have BX := n0_
    have HO := n1_
    have HQ := n2_
    have HB := n3_
    have HS := n4_
    have BK := n5_
    have HK := n6_
    clear n0_ n1_ n2_ n3_ n4_ n5_ n6_
    obtain ⟨hcz0, hfz0, hcz1, hfz1, hcz2, hfz2⟩ := bk3 BK.out; obtain ⟨hbz0, hbf0, hbz1, hbf1, hbz2, hbf2⟩ := bk3 BX.out
    obtain ⟨hl_, es_, eg_, en_⟩ := Ls.put3_some B1.out
    simp only at hl_ es_ eg_ en_
    have HL := Aside0.mk hl_
    clear hl_
    refine start_ (n := 17) (S := fun w' => w'.cell? ⟨gb, 0, none⟩ = some (.slice A1_ q.s.length c1_) ∧ w'.frozen? ⟨gb, 0, none⟩ = false ∧ w'.cell? ⟨gb, 1, none⟩ = some (.slice A2_ q.g.length c2_) ∧ w'.frozen? ⟨gb, 1, none⟩ = false ∧ w'.cell? ⟨gt, 1, none⟩ = some (.int .i64 n)) (ds := [16]) (bs 17 0) kR rfl kR ⟨hbz0, hbf0, hbz1, hbf1, hcz1⟩ (fun hHeld => ?_)
    have n0_ := Aside0.mk (blk_drew BX.out)
    have n1_ := Aside0.mk (Kd.R_drew HO.out)
    have n2_ := Aside0.mk (Kd.R_drew HQ.out)
    have n3_ := Aside0.mk HB.out.drew
    have n4_ : Aside0 (w0.heap.size ≤ (World.drew _).heap.size) := HS
    have n5_ := Aside0.mk (blk_drew BK.out)
    have n6_ : Aside0 (∀ (k : Nat) (cs : Array Value), w.heap[k]? = some (.cells cs 72 (0, 0)) → (World.drew _).heap[k]? = some (.cells cs 72 (0, 0))) := ⟨fun k cs h => blk_drew (HK.out k cs h)⟩
    clear BX HO HQ HB HS BK HK hcz0 hfz0 hcz1 hfz1 hcz2 hfz2 hbz0 hbf0 hbz1 hbf1 hbz2 hbf2
    generalize hwd_ : World.drew _ = w3 at n0_ n1_ n2_ n3_ n4_ n5_ n6_ hHeld ⊢
    clear hwd_
    have BX := n0_
    have HO := n1_
    have HQ := n2_
    have HB := n3_
    have HS := n4_
    have BK := n5_
    have HK := n6_
    clear n0_ n1_ n2_ n3_ n4_ n5_ n6_
    refine pur_ 0 219 (bs 17 1) kR ?_
    refine pur_ 1 220 (bs 17 3) kR ?_
    refine pur_ 2 221 (bs 17 7) kR ?_
    refine pur_ 3 222 (bs 17 15) kR ?_
    refine pur_ 5 224 (bs 17 47) kR ?_
    refine pur_ 6 225 (bs 17 111) kR ?_
    refine pur_ 7 226 (bs 17 239) kR ?_
    refine pur_ 8 227 (bs 17 495) kR ?_
    refine pur_ 11 230 (bs 17 2543) kR ?_
    refine tak_ 4 223 (bs 17 2559) kR hHeld ?_
    refine tak_ 9 228 (bs 17 3071) kR hHeld ?_
    refine pur_ 10 229 (bs 17 4095) kR ?_
    refine one_ (i := 12) (N := some 231) (bs 17 8191) rfl rfl kR (by decide) (fun K hK => ?_)
    refine value_ (w1 := ?_) (v := ?_) (by rfl) rfl ?_ ?_
    rotate_left 2
    ·go_simp
     constructor
     ·rfl
     ·rfl
    refine hK.out _ _ ⟨bZ (bA (lK BX.out) _) 0, blk_frozen (bA (lK BX.out) _) 0, bZ (bA (lK BX.out) _) 1, blk_frozen (bA (lK BX.out) _) 1, bZ (bA (lK BK.out) _) 1⟩ (fun hHeld => ?_)
    clear hK K
    refine norm_ (a' := ?_) ?_ ?_
    rotate_left
    ·show Act.put _ (some 231) _ = _
     simp only [Act.put, List.setIfInBounds_toArray, List.set_cons_zero, List.set_cons_succ, i64_w, i32_w]
     rfl
    refine one_ (i := 13) (N := some 232) (bs 17 16383) rfl rfl kR (by decide) (fun K hK => ?_)
    have HRR_ : ReadsRow (fun (x : S86) (cs : List Value) => cs = [.int .i64 x.f0, .int .i64 x.f1, .int .i64 x.f2]) 3 (w3.alloc (.cells #[.int .i64 5, .int .i64 (20 + q.n), .int .i64 0, .int .i64 6, .int .i64 (20 + q.n), .int .i64 n, .int .i64 4, .int .i64 0, .int .i64 0] 86 (0, 0))) (some ⟨w3.heap.size, 0, none⟩) 3 ([(⟨5, 20 + q.n, 0⟩ : S86), (⟨6, 20 + q.n, n⟩ : S86), (⟨4, 0, 0⟩ : S86)] : List S86) := Ls.three w3 _ _ _
    refine Kd.R_append_rows_step k86 (w0 := w) w0.heap.size (by rfl) (.tmp 223) (.tmp 231) 35 86 (.agg #[.int .i64 0, .int .i64 0, .int .i64 0]) 24 rfl Try.underlying35 Ls.info86 rfl (by decide) (by omega) (.slice A1_ q.s.length c1_) q.s ([(⟨5, 20 + q.n, 0⟩ : S86), (⟨6, 20 + q.n, n⟩ : S86), (⟨4, 0, 0⟩ : S86)] : List S86) (some ⟨w3.heap.size, 0, none⟩) 3 3 (fun _ => True) (fun _ => False) rfl rfl ?aO HRR_ ?aP (fun _ hk => hk.elim) (fun _ _ => trivial) ?aB ?aS ?aL ?_
    (case aP => intro x cs e; subst e; exact k86_mkM _ _ _ x)
    (case aO => exact lR HO.out)
    (case aB => exact HB.out.alloc HS.out _)
    (case aS => exact Nat.le_trans HS.out (by rw [Ls.alloc_size]; omega))
    (case aL => have := HL.out; omega)
    intro v6 w6 ho hb hg_ hat_
    have hg : w3.grownBy w6 (Value.slice A1_ q.s.length c1_).ownBlock := Ls.grown_alloc hg_
    have hat := hat_
    clear hg_ hat_ HRR_
    have n0_ := Aside0.mk (blk_grown (lK BX.out) hg (Kd.R_ne HO.out BX.out (by decide)))
    have m_ := Aside0.mk (Kd.R_over (lR HQ.out) HO.out (by decide) hg)
    have n4_ := Aside0.mk (Nat.le_trans HS.out hg.size)
    have n5_ := Aside0.mk (blk_grown (lK BK.out) hg (Kd.R_ne HO.out BK.out (by decide)))
    have n6_ : Aside0 (∀ (k : Nat) (cs : Array Value), w.heap[k]? = some (.cells cs 72 (0, 0)) → w6.heap[k]? = some (.cells cs 72 (0, 0))) := ⟨fun k cs h => blk_grown (HK.out k cs h) hg (Kd.R_ne HO.out (HK.out k cs h) (by decide))⟩
    clear BX HO HQ HB HS BK HK
    have BX := n0_
    have HQ := m_
    have HO := Aside0.mk ho
    have HB := Aside0.mk hb
    have HS := n4_
    have BK := n5_
    have HK := n6_
    clear n0_ m_ n4_ n5_ n6_ ho hb hg hat
    obtain ⟨Ap, cp, ep⟩ := Kd.R_slice HO.out
    subst ep
    refine hK.out _ _ ⟨bZ (BX.out) 0, blk_frozen (BX.out) 0, bZ (BX.out) 1, blk_frozen (BX.out) 1, bZ (BK.out) 1⟩ (fun hHeld => ?_)
    clear hK K
    refine norm_ (a' := ?_) ?_ ?_
    rotate_left
    ·show Act.put _ (some 232) _ = _
     simp only [Act.put, List.setIfInBounds_toArray, List.set_cons_zero, List.set_cons_succ, i64_w, i32_w]
     rfl
    refine pur_ 14 233 (bs 17 32767) kR ?_
    refine pur_ 15 234 (bs 17 65535) kR ?_
    refine last_ (i := 16) (N := none) (bs 17 131071) rfl rfl kR (by decide) (fun K hK => ?_)
    have hs0_ := hHeld.1
    have hs1_ := hHeld.2.1
    have hs2_ := hHeld.2.2.1
    have hs3_ := hHeld.2.2.2.1
    refine skip_ (w1 := World.setCell _ ⟨gb, 0, none⟩ (.slice Ap (q.s ++ [(⟨5, 20 + q.n, 0⟩ : S86), (⟨6, 20 + q.n, n⟩ : S86), (⟨4, 0, 0⟩ : S86)]).length cp)) (by rfl) rfl (by first | (go_simp; done) | (go_simp; rfl)) ?_
    refine hK.out _ _ ?_
    clear hK K
    refine done_ kR ?_
    clear hHeld HL hs0_ hs1_ hs2_ hs3_
    have n0_ := Aside0.mk (blk_put (cs := #[.slice A1_ q.s.length c1_, .slice A2_ q.g.length c2_, .int .i64 (q.n + 1)]) BX.out 0 (.slice Ap (q.s ++ [(⟨5, 20 + q.n, 0⟩ : S86), (⟨6, 20 + q.n, n⟩ : S86), (⟨4, 0, 0⟩ : S86)]).length cp) rfl)
    have n1_ := Aside0.mk (Kd.R_set HO.out BX.out (by decide) 0 (.slice Ap (q.s ++ [(⟨5, 20 + q.n, 0⟩ : S86), (⟨6, 20 + q.n, n⟩ : S86), (⟨4, 0, 0⟩ : S86)]).length cp))
    have n2_ := Aside0.mk (Kd.R_set HQ.out BX.out (by decide) 0 (.slice Ap (q.s ++ [(⟨5, 20 + q.n, 0⟩ : S86), (⟨6, 20 + q.n, n⟩ : S86), (⟨4, 0, 0⟩ : S86)]).length cp))
    have n3_ := Aside0.mk (HB.out.setCell (p := ⟨gb, 0, none⟩) HGS.out (.slice Ap (q.s ++ [(⟨5, 20 + q.n, 0⟩ : S86), (⟨6, 20 + q.n, n⟩ : S86), (⟨4, 0, 0⟩ : S86)]).length cp))
    have n4_ := Aside0.mk (show w0.heap.size ≤ (World.setCell w6 ⟨gb, 0, none⟩ (.slice Ap (q.s ++ [(⟨5, 20 + q.n, 0⟩ : S86), (⟨6, 20 + q.n, n⟩ : S86), (⟨4, 0, 0⟩ : S86)]).length cp)).heap.size from Nat.le_trans HS.out (by simp [World.setCell]))
    have n5_ := Aside0.mk (blk_far BK.out (p := ⟨gb, 0, none⟩) (blk_ne BK.out BX.out (by decide)) (.slice Ap (q.s ++ [(⟨5, 20 + q.n, 0⟩ : S86), (⟨6, 20 + q.n, n⟩ : S86), (⟨4, 0, 0⟩ : S86)]).length cp))
    have n6_ : Aside0 (∀ (k : Nat) (cs : Array Value), w.heap[k]? = some (.cells cs 72 (0, 0)) → (World.setCell w6 ⟨gb, 0, none⟩ (.slice Ap (q.s ++ [(⟨5, 20 + q.n, 0⟩ : S86), (⟨6, 20 + q.n, n⟩ : S86), (⟨4, 0, 0⟩ : S86)]).length cp)).heap[k]? = some (.cells cs 72 (0, 0))) := ⟨fun k cs h => blk_far (HK.out k cs h) (p := ⟨gb, 0, none⟩) (blk_ne (HK.out k cs h) BX.out (by decide)) (.slice Ap (q.s ++ [(⟨5, 20 + q.n, 0⟩ : S86), (⟨6, 20 + q.n, n⟩ : S86), (⟨4, 0, 0⟩ : S86)]).length cp)⟩
    clear BX HO HQ HB HS BK HK
    generalize World.setCell w6 ⟨gb, 0, none⟩ (.slice Ap (q.s ++ [(⟨5, 20 + q.n, 0⟩ : S86), (⟨6, 20 + q.n, n⟩ : S86), (⟨4, 0, 0⟩ : S86)]).length cp) = w7 at n0_ n1_ n2_ n3_ n4_ n5_ n6_ ⊢
    have BX := n0_
    have HO := n1_
    have HQ := n2_
    have HB := n3_
    have HS := n4_
    have BK := n5_
    have HK := n6_
    clear n0_ n1_ n2_ n3_ n4_ n5_ n6_
    have BX : Aside0 (Ls.St 105 w0.heap.size gb w7 q1 Ap cp A2_ c2_) := ⟨by unfold Ls.St; rw [es_, eg_, en_]; exact BX.out⟩
    have HO : Aside0 (k86.R 86 w7 w0.heap.size (fun _ => True) (.slice Ap q1.s.length cp) q1.s) := ⟨by rw [es_]; exact HO.out⟩
    have HQ : Aside0 (k63.R 63 w7 w0.heap.size (fun _ => True) (.slice A2_ q1.g.length c2_) q1.g) := ⟨by rw [eg_]; exact HQ.out⟩
    clear es_ eg_ en_
    obtain ⟨hcz0, hfz0, hcz1, hfz1, hcz2, hfz2⟩ := bk3 BK.out; obtain ⟨hbz0, hbf0, hbz1, hbf1, hbz2, hbf2⟩ := bk3 BX.out
    obtain ⟨A1_, eA_⟩ : ∃ A1_, A1_ = Ap := ⟨_, rfl⟩
    obtain ⟨c1_, ec_⟩ : ∃ c1_, c1_ = cp := ⟨_, rfl⟩
    subst eA_
    subst ec_
    obtain ⟨ha0, hb0, hd0⟩ := HC0.out _ (HB0.out.trans HB.out)
    simp only [Nat.zero_mul, Nat.one_mul, Ls.add0, Ls.add3] at ha0 hb0 hd0
    go_upto_region 34 with (first | (go_at_call 67; (with_reducible refine (HOK0.out _ _ _ _ _ _ _ HGS.out (HB0.out.trans HB.out) BX.out HO.out HQ.out B2.out).mono ?_); rintro e w5 ⟨rfl, ⟨A1_, c1_, A2_, c2_, hbx_, ho_, hq_, hb_⟩, hk_⟩; have n0_ := Aside0.mk hbx_; have n1_ := Aside0.mk ho_; have n2_ := Aside0.mk hq_; have n3_ := Aside0.mk (HB.out.trans hb_); have n4_ := Aside0.mk (Nat.le_trans HS.out hb_.size); have n5_ := Aside0.mk (hk_ _ _ BK.out); have n6_ : Aside0 (∀ (k : Nat) (cs : Array Value), w.heap[k]? = some (.cells cs 72 (0, 0)) → w5.heap[k]? = some (.cells cs 72 (0, 0))) := ⟨fun k cs h => hk_ k cs (HK.out k cs h)⟩; clear ha0 hb0 hd0 BX HO HQ HB HS BK HK hcz0 hfz0 hcz1 hfz1 hcz2 hfz2 hbz0 hbf0 hbz1 hbf1 hbz2 hbf2 hbx_ ho_ hq_ hb_ hk_; have BX := n0_; have HO := n1_; have HQ := n2_; have HB := n3_; have HS := n4_; have BK := n5_; have HK := n6_; clear n0_ n1_ n2_ n3_ n4_ n5_ n6_; obtain ⟨hcz0, hfz0, hcz1, hfz1, hcz2, hfz2⟩ := bk3 BK.out; obtain ⟨hbz0, hbf0, hbz1, hbf1, hbz2, hbf2⟩ := bk3 BX.out))
    obtain ⟨hl_, es_, eg_, en_⟩ := Ls.put_some B3.out
    have HL := Aside0.mk hl_
    clear hl_
    go_upto_region 35 with (first | ((with_reducible refine gate_builtin (b := .append) (xs := #[.tmp 245, .tmp 249]) rfl ?_); at_builtin; refine Kd.R_append k86 (w0 := w) w0.heap.size rfl (.tmp 245) (.tmp 249) 35 86 (.agg #[.int .i64 0, .int .i64 0, .int .i64 0]) 24 rfl Try.underlying35 Ls.info86 rfl (by decide) (by omega) (.slice A1_ q2.s.length c1_) q2.s (⟨4, 0, (q.s.length : Int) + 1⟩ : S86) [.int .i64 4, .int .i64 0, .int .i64 ((q.s.length : Int) + 1)] (fun _ => True) (fun _ => False) rfl (by first | (go_simp; done) | (go_simp; rfl)) ?aP (fun _ hk => hk.elim) (fun _ _ => trivial) ?aO ?aB ?aS ?aL ?_; (case aP => exact k86_mkM _ _ _ (⟨4, 0, (q.s.length : Int) + 1⟩ : S86)); (case aO => exact lR HO.out); (case aB => exact HB.out); (case aS => exact HS.out); (case aL => have := HL.out; omega); intro v6 w6 ho hb hg hat; clear hcz0 hfz0 hcz1 hfz1 hcz2 hfz2 hbz0 hbf0 hbz1 hbf1 hbz2 hbf2; have n0_ := Aside0.mk (blk_grown (lK BX.out) hg (Kd.R_ne HO.out BX.out (by decide))); have m_ := Aside0.mk (Kd.R_over (lR HQ.out) HO.out (by decide) hg); have n4_ := Aside0.mk (Nat.le_trans HS.out hg.size); have n5_ := Aside0.mk (blk_grown (lK BK.out) hg (Kd.R_ne HO.out BK.out (by decide))); have n6_ : Aside0 (∀ (k : Nat) (cs : Array Value), w.heap[k]? = some (.cells cs 72 (0, 0)) → w6.heap[k]? = some (.cells cs 72 (0, 0))) := ⟨fun k cs h => blk_grown (HK.out k cs h) hg (Kd.R_ne HO.out (HK.out k cs h) (by decide))⟩; clear BX HO HQ HB HS BK HK; have BX := n0_; have HQ := m_; have HO := Aside0.mk ho; have HB := Aside0.mk hb; have HS := n4_; have BK := n5_; have HK := n6_; clear n0_ m_ n4_ n5_ n6_ ho hb hg hat; obtain ⟨Ap, cp, ep⟩ := Kd.R_slice HO.out; subst ep; obtain ⟨hcz0, hfz0, hcz1, hfz1, hcz2, hfz2⟩ := bk3 BK.out; obtain ⟨hbz0, hbf0, hbz1, hbf1, hbz2, hbf2⟩ := bk3 BX.out))
    clear HL hcz0 hfz0 hcz1 hfz1 hcz2 hfz2 hbz0 hbf0 hbz1 hbf1 hbz2 hbf2
    have n0_ := Aside0.mk (blk_put (cs := #[.slice A1_ q2.s.length c1_, .slice A2_ q2.g.length c2_, .int .i64 q2.n]) BX.out 0 (.slice Ap (q2.s.length + 1) cp) rfl)
    have n1_ := Aside0.mk (Kd.R_set HO.out BX.out (by decide) 0 (.slice Ap (q2.s.length + 1) cp))
    have n2_ := Aside0.mk (Kd.R_set HQ.out BX.out (by decide) 0 (.slice Ap (q2.s.length + 1) cp))
    have n3_ := Aside0.mk (HB.out.setCell (p := ⟨gb, 0, none⟩) HGS.out (.slice Ap (q2.s.length + 1) cp))
    have n4_ := Aside0.mk (show w0.heap.size ≤ (World.setCell w6 ⟨gb, 0, none⟩ (.slice Ap (q2.s.length + 1) cp)).heap.size from Nat.le_trans HS.out (by simp [World.setCell]))
    have n5_ := Aside0.mk (blk_far BK.out (p := ⟨gb, 0, none⟩) (blk_ne BK.out BX.out (by decide)) (.slice Ap (q2.s.length + 1) cp))
    have n6_ : Aside0 (∀ (k : Nat) (cs : Array Value), w.heap[k]? = some (.cells cs 72 (0, 0)) → (World.setCell w6 ⟨gb, 0, none⟩ (.slice Ap (q2.s.length + 1) cp)).heap[k]? = some (.cells cs 72 (0, 0))) := ⟨fun k cs h => blk_far (HK.out k cs h) (p := ⟨gb, 0, none⟩) (blk_ne (HK.out k cs h) BX.out (by decide)) (.slice Ap (q2.s.length + 1) cp)⟩
    clear BX HO HQ HB HS BK HK
    generalize World.setCell w6 ⟨gb, 0, none⟩ (.slice Ap (q2.s.length + 1) cp) = w7 at n0_ n1_ n2_ n3_ n4_ n5_ n6_ ⊢
    have BX := n0_
    have HO := n1_
    have HQ := n2_
    have HB := n3_
    have HS := n4_
    have BK := n5_
    have HK := n6_
    clear n0_ n1_ n2_ n3_ n4_ n5_ n6_
    have BX : Aside0 (Ls.St 105 w0.heap.size gb w7 q3 Ap cp A2_ c2_) := ⟨by unfold Ls.St; rw [es_, eg_, en_, List.length_append]; exact BX.out⟩
    have HO : Aside0 (k86.R 86 w7 w0.heap.size (fun _ => True) (.slice Ap q3.s.length cp) q3.s) := ⟨by rw [es_]; exact HO.out⟩
    have HQ : Aside0 (k63.R 63 w7 w0.heap.size (fun _ => True) (.slice A2_ q3.g.length c2_) q3.g) := ⟨by rw [eg_]; exact HQ.out⟩
    clear es_ eg_ en_
    obtain ⟨hcz0, hfz0, hcz1, hfz1, hcz2, hfz2⟩ := bk3 BK.out; obtain ⟨hbz0, hbf0, hbz1, hbf1, hbz2, hbf2⟩ := bk3 BX.out
    obtain ⟨A1_, eA_⟩ : ∃ A1_, A1_ = Ap := ⟨_, rfl⟩
    obtain ⟨c1_, ec_⟩ : ∃ c1_, c1_ = cp := ⟨_, rfl⟩
    subst eA_
    subst ec_
    obtain ⟨ix, hix_⟩ : ∃ ix : Nat, ix = q.s.length + 2 := ⟨_, rfl⟩
    have hw_ : Go.RowKit.wrap64 ((q.s.length : Int) + 2) = (ix : Int) := by unfold Go.RowKit.wrap64; omega
    rw [← hix_] at B4
    clear hix_
    obtain ⟨hlt_, es_, eg_, en_⟩ := Ls.setT_some B4.out
    have HLT := Aside0.mk hlt_
    obtain ⟨gr, cr, ef_, hgr_, hgr2_, hgr3_⟩ := Kd.R_form HO.out (Nat.lt_of_le_of_lt (Nat.zero_le _) hlt_)
    injection ef_ with ef1_ ef2_ ef3_
    subst ef1_
    subst ef3_
    clear ef2_ hgr_ hgr2_ hgr3_
    obtain ⟨hsc_, hsf_, hsr_, hsg_⟩ := Ls.cell86 HO.out hlt_ ((q3.s.length : Nat) : Int)
    clear hsr_ hsg_
    have hi0_ : (0 : Int) ≤ ((ix : Nat) : Int) := Int.natCast_nonneg _
    have hi1_ : ((ix : Nat) : Int) < ((q3.s.length : Nat) : Int) := Int.ofNat_lt.mpr hlt_
    refine start_ (n := 14) (S := fun w' => w'.cell? ⟨gb, 0, none⟩ = some (.slice (some ⟨gr, 0, none⟩) q3.s.length c1_) ∧ w'.cell? ⟨gb, 1, none⟩ = some (.slice A2_ q3.g.length c2_) ∧ w'.cell? ⟨gr, (ix) * 3 + 2, none⟩ = some (.int .i64 (rd_T86 q3.s (ix : Nat)).f2) ∧ w'.frozen? ⟨gr, (ix) * 3 + 2, none⟩ = false) (ds := [13]) (bs 14 0) kR rfl kR ⟨hbz0, hbz1, hsc_, hsf_⟩ (fun hHeld => ?_)
    have n0_ := Aside0.mk (blk_drew BX.out)
    have n1_ := Aside0.mk (Kd.R_drew HO.out)
    have n2_ := Aside0.mk (Kd.R_drew HQ.out)
    have n3_ := Aside0.mk HB.out.drew
    have n4_ : Aside0 (w0.heap.size ≤ (World.drew _).heap.size) := HS
    have n5_ := Aside0.mk (blk_drew BK.out)
    have n6_ : Aside0 (∀ (k : Nat) (cs : Array Value), w.heap[k]? = some (.cells cs 72 (0, 0)) → (World.drew _).heap[k]? = some (.cells cs 72 (0, 0))) := ⟨fun k cs h => blk_drew (HK.out k cs h)⟩
    clear BX HO HQ HB HS BK HK hsc_ hsf_ hcz0 hfz0 hcz1 hfz1 hcz2 hfz2 hbz0 hbf0 hbz1 hbf1 hbz2 hbf2
    generalize hwd_ : World.drew _ = w3 at n0_ n1_ n2_ n3_ n4_ n5_ n6_ hHeld ⊢
    clear hwd_
    have BX := n0_
    have HO := n1_
    have HQ := n2_
    have HB := n3_
    have HS := n4_
    have BK := n5_
    have HK := n6_
    clear n0_ n1_ n2_ n3_ n4_ n5_ n6_
    refine pur_ 0 253 (bs 14 1) kR ?_
    refine pur_ 1 254 (bs 14 3) kR ?_
    refine pur_ 2 255 (bs 14 7) kR ?_
    refine pur_ 4 257 (bs 14 23) kR ?_
    refine pur_ 5 258 (bs 14 55) kR ?_
    rw [hw_]
    refine pur_ 6 259 (bs 14 119) kR ?_
    refine pur_ 7 260 (bs 14 247) kR ?_
    refine pur_ 8 261 (bs 14 503) kR ?_
    refine tak_ 3 256 (bs 14 511) kR hHeld ?_
    refine tak_ 9 262 (bs 14 1023) kR hHeld ?_
    refine pur_ 10 263 (bs 14 2047) kR ?_
    refine pur_ 11 264 (bs 14 4095) kR ?_
    refine pur_ 12 265 (bs 14 8191) kR ?_
    refine last_ (i := 13) (N := none) (bs 14 16383) rfl rfl kR (by decide) (fun K hK => ?_)
    have hs0_ := hHeld.2.2.1
    have hs1_ := hHeld.2.2.2
    refine skip_ (w1 := World.setCell _ ⟨gr, (ix) * 3 + 2, none⟩ (.int .i64 ((q3.s.length : Nat) : Int))) (by rfl) rfl (by first | (go_simp; done) | (go_simp; rfl)) ?_
    refine hK.out _ _ ?_
    clear hK K
    refine done_ kR ?_
    clear hHeld hs0_ hs1_ hi0_ hi1_ hlt_
    obtain ⟨_, _, hsr_, hsg_⟩ := Ls.cell86 HO.out HLT.out ((q3.s.length : Nat) : Int)
    have hle_ : w0.heap.size ≤ gr := Kd.R_base HO.out gr rfl
    have n0_ := Aside0.mk (blk_grown (lK BX.out) hsg_ (Kd.R_ne HO.out BX.out (by decide)))
    have m1_ := Aside0.mk (Kd.R_over HQ.out HO.out (by decide) hsg_)
    have m2_ := Aside0.mk hsr_
    have n3_ := Aside0.mk (HB.out.setCell (p := ⟨gr, (ix) * 3 + 2, none⟩) hle_ (.int .i64 ((q3.s.length : Nat) : Int)))
    have n4_ := Aside0.mk (Nat.le_trans HS.out hsg_.size)
    have n5_ := Aside0.mk (blk_grown (lK BK.out) hsg_ (Kd.R_ne HO.out BK.out (by decide)))
    have n6_ := Aside0.mk (fun (k : Nat) (cs : Array Value) (h : w.heap[k]? = some (.cells cs 72 (0, 0))) => blk_grown (HK.out k cs h) hsg_ (Kd.R_ne HO.out (HK.out k cs h) (by decide)))
    clear BX HO HQ HB HS BK HK hsr_ hsg_ hle_ HLT
    generalize World.setCell _ ⟨gr, (ix) * 3 + 2, none⟩ (.int .i64 ((q3.s.length : Nat) : Int)) = w4 at n0_ m1_ m2_ n3_ n4_ n5_ n6_ ⊢
    have BX := n0_
    have HQ := m1_
    have HQ_ := m2_
    have HB := n3_
    have HS := n4_
    have BK := n5_
    have HK := n6_
    clear n0_ m1_ m2_ n3_ n4_ n5_ n6_
    have BX : Aside0 (Ls.St 105 w0.heap.size gb w4 r (some ⟨gr, 0, none⟩) c1_ A2_ c2_) := ⟨by unfold Ls.St; rw [es_, eg_, en_, List.length_set]; exact BX.out⟩
    have HO : Aside0 (k86.R 86 w4 w0.heap.size (fun _ => True) (.slice (some ⟨gr, 0, none⟩) r.s.length c1_) r.s) := ⟨by rw [es_, List.length_set]; exact HQ_.out⟩
    have HQ : Aside0 (k63.R 63 w4 w0.heap.size (fun _ => True) (.slice A2_ r.g.length c2_) r.g) := ⟨by rw [eg_]; exact HQ.out⟩
    clear HQ_ es_ eg_ en_
    obtain ⟨hcz0, hfz0, hcz1, hfz1, hcz2, hfz2⟩ := bk3 BK.out; obtain ⟨hbz0, hbf0, hbz1, hbf1, hbz2, hbf2⟩ := bk3 BX.out
    go_wp2
    refine Ls.ret0 rfl rfl ?_
    exact ⟨rfl, ⟨_, _, _, _, BX.out, HO.out, HQ.out, HB.out⟩, HK.out⟩
   ·rw [if_neg k6] at h
    have k6b : (k == 6) = false := beq_eq_false_iff_ne.mpr k6
    replace h := lO h; obtain ⟨q1, B1, h⟩ := h
    split at h
    ·cases h
    rename_i f1 hf1
    obtain ⟨ad1, k1_, n1_, AA1, mm1, cc1, eA1, hm1, hc1, hok1⟩ := Ls.kid HN.out hf1
    have HOK1 := Aside0.mk hok1
    have HC1 := Aside0.mk hc1
    clear hok1 hc1
    obtain rfl : ad0 = ad1 := Option.some.inj eA1
    have hm1b : (1 < m) = True := eq_true hm1
    have hm1c : ((1 : Int) < (m : Int)) = True := eq_true (by omega)
    clear hm1 eA1
    by_cases k3 : k = 3
    ·rw [if_pos k3] at h
     subst k3
     have B2 := Aside0.mk h
     clear h
     go_enter Try.func67, Try.ntmps67
     go_upto_region 1 with (first | ((with_reducible refine gate_dst (N := 3) rfl ?_); refine bxe 3 #[.int .i64 3, .int .i64 n, .slice (some ad0) m c] 72 ?_; intro gt hgt_ w4 hbox hb_; have n0_ := Aside0.mk (blk_below BX.out hb_); have n1_ := Aside0.mk (Kd.R_below HO.out hb_); have n2_ := Aside0.mk (Kd.R_below HQ.out hb_); have n3_ : Aside0 (Below w0.heap.size w w4) := ⟨HB.out.trans (hb_.mono HS.out)⟩; have n4_ := Aside0.mk (Nat.le_trans HS.out hb_.size); have n5_ := Aside0.mk hbox; have n6_ : Aside0 (∀ (k : Nat) (cs : Array Value), w.heap[k]? = some (.cells cs 72 (0, 0)) → w4.heap[k]? = some (.cells cs 72 (0, 0))) := ⟨fun k cs h => blk_below h hb_⟩; clear BX HO HQ HB HS hbz0 hbf0 hbz1 hbf1 hbz2 hbf2 hbox hb_ hgt_; have BX := n0_; have HO := n1_; have HQ := n2_; have HB := n3_; have HS := n4_; have BK := n5_; have HK := n6_; clear n0_ n1_ n2_ n3_ n4_ n5_ n6_; obtain ⟨hcz0, hfz0, hcz1, hfz1, hcz2, hfz2⟩ := bk3 BK.out; obtain ⟨hbz0, hbf0, hbz1, hbf1, hbz2, hbf2⟩ := bk3 BX.out))
     obtain ⟨ha0, hb0, hd0⟩ := HC0.out _ (HB0.out.trans HB.out)
     simp only [Nat.zero_mul, Nat.one_mul, Ls.add0, Ls.add3] at ha0 hb0 hd0
     go_upto_region 9 with (first | (go_at_call 67; (with_reducible refine (HOK0.out _ _ _ _ _ _ _ HGS.out (HB0.out.trans HB.out) BX.out HO.out HQ.out B1.out).mono ?_); rintro e w5 ⟨rfl, ⟨A1_, c1_, A2_, c2_, hbx_, ho_, hq_, hb_⟩, hk_⟩; have n0_ := Aside0.mk hbx_; have n1_ := Aside0.mk ho_; have n2_ := Aside0.mk hq_; have n3_ := Aside0.mk (HB.out.trans hb_); have n4_ := Aside0.mk (Nat.le_trans HS.out hb_.size); have n5_ := Aside0.mk (hk_ _ _ BK.out); have n6_ : Aside0 (∀ (k : Nat) (cs : Array Value), w.heap[k]? = some (.cells cs 72 (0, 0)) → w5.heap[k]? = some (.cells cs 72 (0, 0))) := ⟨fun k cs h => hk_ k cs (HK.out k cs h)⟩; clear ha0 hb0 hd0 BX HO HQ HB HS BK HK hcz0 hfz0 hcz1 hfz1 hcz2 hfz2 hbz0 hbf0 hbz1 hbf1 hbz2 hbf2 hbx_ ho_ hq_ hb_ hk_; have BX := n0_; have HO := n1_; have HQ := n2_; have HB := n3_; have HS := n4_; have BK := n5_; have HK := n6_; clear n0_ n1_ n2_ n3_ n4_ n5_ n6_; obtain ⟨hcz0, hfz0, hcz1, hfz1, hcz2, hfz2⟩ := bk3 BK.out; obtain ⟨hbz0, hbf0, hbz1, hbf1, hbz2, hbf2⟩ := bk3 BX.out))
     obtain ⟨ha1, hb1, hd1⟩ := HC1.out _ (HB0.out.trans HB.out)
     simp only [Nat.zero_mul, Nat.one_mul, Ls.add0, Ls.add3] at ha1 hb1 hd1
     go_wp2_with (first | (go_at_call 67; (with_reducible refine (HOK1.out _ _ _ _ _ _ _ HGS.out (HB0.out.trans HB.out) BX.out HO.out HQ.out B2.out).mono ?_); rintro e w5 ⟨rfl, ⟨A1_, c1_, A2_, c2_, hbx_, ho_, hq_, hb_⟩, hk_⟩; have n0_ := Aside0.mk hbx_; have n1_ := Aside0.mk ho_; have n2_ := Aside0.mk hq_; have n3_ := Aside0.mk (HB.out.trans hb_); have n4_ := Aside0.mk (Nat.le_trans HS.out hb_.size); have n5_ := Aside0.mk (hk_ _ _ BK.out); have n6_ : Aside0 (∀ (k : Nat) (cs : Array Value), w.heap[k]? = some (.cells cs 72 (0, 0)) → w5.heap[k]? = some (.cells cs 72 (0, 0))) := ⟨fun k cs h => hk_ k cs (HK.out k cs h)⟩; clear ha1 hb1 hd1 BX HO HQ HB HS BK HK hcz0 hfz0 hcz1 hfz1 hcz2 hfz2 hbz0 hbf0 hbz1 hbf1 hbz2 hbf2 hbx_ ho_ hq_ hb_ hk_; have BX := n0_; have HO := n1_; have HQ := n2_; have HB := n3_; have HS := n4_; have BK := n5_; have HK := n6_; clear n0_ n1_ n2_ n3_ n4_ n5_ n6_; obtain ⟨hcz0, hfz0, hcz1, hfz1, hcz2, hfz2⟩ := bk3 BK.out; obtain ⟨hbz0, hbf0, hbz1, hbf1, hbz2, hbf2⟩ := bk3 BX.out))
     refine Ls.ret0 rfl rfl ?_
     exact ⟨rfl, ⟨_, _, _, _, BX.out, HO.out, HQ.out, HB.out⟩, HK.out⟩
    ·rw [if_neg k3] at h
     have k3b : (k == 3) = false := beq_eq_false_iff_ne.mpr k3
     by_cases k4 : k = 4
     ·rw [if_pos k4] at h
      subst k4
      replace h := lO h; obtain ⟨q2, B2, h⟩ := h
      replace h := lO h; obtain ⟨q3, B3, h⟩ := h
      replace h := lO h; obtain ⟨q4, B4, h⟩ := h
      have B5 := Aside0.mk h
      clear h
      have hlq_ := (Ls.put_some B2.out).1
      go_enter Try.func67, Try.ntmps67
      go_upto_region 1 with (first | ((with_reducible refine gate_dst (N := 3) rfl ?_); refine bxe 3 #[.int .i64 4, .int .i64 n, .slice (some ad0) m c] 72 ?_; intro gt hgt_ w4 hbox hb_; have n0_ := Aside0.mk (blk_below BX.out hb_); have n1_ := Aside0.mk (Kd.R_below HO.out hb_); have n2_ := Aside0.mk (Kd.R_below HQ.out hb_); have n3_ : Aside0 (Below w0.heap.size w w4) := ⟨HB.out.trans (hb_.mono HS.out)⟩; have n4_ := Aside0.mk (Nat.le_trans HS.out hb_.size); have n5_ := Aside0.mk hbox; have n6_ : Aside0 (∀ (k : Nat) (cs : Array Value), w.heap[k]? = some (.cells cs 72 (0, 0)) → w4.heap[k]? = some (.cells cs 72 (0, 0))) := ⟨fun k cs h => blk_below h hb_⟩; clear BX HO HQ HB HS hbz0 hbf0 hbz1 hbf1 hbz2 hbf2 hbox hb_ hgt_; have BX := n0_; have HO := n1_; have HQ := n2_; have HB := n3_; have HS := n4_; have BK := n5_; have HK := n6_; clear n0_ n1_ n2_ n3_ n4_ n5_ n6_; obtain ⟨hcz0, hfz0, hcz1, hfz1, hcz2, hfz2⟩ := bk3 BK.out; obtain ⟨hbz0, hbf0, hbz1, hbf1, hbz2, hbf2⟩ := bk3 BX.out))
      obtain ⟨ha0, hb0, hd0⟩ := HC0.out _ (HB0.out.trans HB.out)
      simp only [Nat.zero_mul, Nat.one_mul, Ls.add0, Ls.add3] at ha0 hb0 hd0
      go_upto_region 13 with (first | (go_at_call 67; (with_reducible refine (HOK0.out _ _ _ _ _ _ _ HGS.out (HB0.out.trans HB.out) BX.out HO.out HQ.out B1.out).mono ?_); rintro e w5 ⟨rfl, ⟨A1_, c1_, A2_, c2_, hbx_, ho_, hq_, hb_⟩, hk_⟩; have n0_ := Aside0.mk hbx_; have n1_ := Aside0.mk ho_; have n2_ := Aside0.mk hq_; have n3_ := Aside0.mk (HB.out.trans hb_); have n4_ := Aside0.mk (Nat.le_trans HS.out hb_.size); have n5_ := Aside0.mk (hk_ _ _ BK.out); have n6_ : Aside0 (∀ (k : Nat) (cs : Array Value), w.heap[k]? = some (.cells cs 72 (0, 0)) → w5.heap[k]? = some (.cells cs 72 (0, 0))) := ⟨fun k cs h => hk_ k cs (HK.out k cs h)⟩; clear ha0 hb0 hd0 BX HO HQ HB HS BK HK hcz0 hfz0 hcz1 hfz1 hcz2 hfz2 hbz0 hbf0 hbz1 hbf1 hbz2 hbf2 hbx_ ho_ hq_ hb_ hk_; have BX := n0_; have HO := n1_; have HQ := n2_; have HB := n3_; have HS := n4_; have BK := n5_; have HK := n6_; clear n0_ n1_ n2_ n3_ n4_ n5_ n6_; obtain ⟨hcz0, hfz0, hcz1, hfz1, hcz2, hfz2⟩ := bk3 BK.out; obtain ⟨hbz0, hbf0, hbz1, hbf1, hbz2, hbf2⟩ := bk3 BX.out))
      obtain ⟨hl_, es_, eg_, en_⟩ := Ls.put_some B2.out
      have HL := Aside0.mk hl_
      clear hl_
      go_upto_region 14 with (first | ((with_reducible refine gate_builtin (b := .append) (xs := #[.tmp 76, .tmp 78]) rfl ?_); at_builtin; refine Kd.R_append k86 (w0 := w) w0.heap.size rfl (.tmp 76) (.tmp 78) 35 86 (.agg #[.int .i64 0, .int .i64 0, .int .i64 0]) 24 rfl Try.underlying35 Ls.info86 rfl (by decide) (by omega) (.slice A1_ q1.s.length c1_) q1.s (⟨4, 0, 0⟩ : S86) [.int .i64 4, .int .i64 0, .int .i64 0] (fun _ => True) (fun _ => False) rfl (by first | (go_simp; done) | (go_simp; rfl)) ?aP (fun _ hk => hk.elim) (fun _ _ => trivial) ?aO ?aB ?aS ?aL ?_; (case aP => exact k86_mkM _ _ _ (⟨4, 0, 0⟩ : S86)); (case aO => exact lR HO.out); (case aB => exact HB.out); (case aS => exact HS.out); (case aL => have := HL.out; omega); intro v6 w6 ho hb hg hat; clear hcz0 hfz0 hcz1 hfz1 hcz2 hfz2 hbz0 hbf0 hbz1 hbf1 hbz2 hbf2; have n0_ := Aside0.mk (blk_grown (lK BX.out) hg (Kd.R_ne HO.out BX.out (by decide))); have m_ := Aside0.mk (Kd.R_over (lR HQ.out) HO.out (by decide) hg); have n4_ := Aside0.mk (Nat.le_trans HS.out hg.size); have n5_ := Aside0.mk (blk_grown (lK BK.out) hg (Kd.R_ne HO.out BK.out (by decide))); have n6_ : Aside0 (∀ (k : Nat) (cs : Array Value), w.heap[k]? = some (.cells cs 72 (0, 0)) → w6.heap[k]? = some (.cells cs 72 (0, 0))) := ⟨fun k cs h => blk_grown (HK.out k cs h) hg (Kd.R_ne HO.out (HK.out k cs h) (by decide))⟩; clear BX HO HQ HB HS BK HK; have BX := n0_; have HQ := m_; have HO := Aside0.mk ho; have HB := Aside0.mk hb; have HS := n4_; have BK := n5_; have HK := n6_; clear n0_ m_ n4_ n5_ n6_ ho hb hg hat; obtain ⟨Ap, cp, ep⟩ := Kd.R_slice HO.out; subst ep; obtain ⟨hcz0, hfz0, hcz1, hfz1, hcz2, hfz2⟩ := bk3 BK.out; obtain ⟨hbz0, hbf0, hbz1, hbf1, hbz2, hbf2⟩ := bk3 BX.out))
      clear HL hcz0 hfz0 hcz1 hfz1 hcz2 hfz2 hbz0 hbf0 hbz1 hbf1 hbz2 hbf2
      have n0_ := Aside0.mk (blk_put (cs := #[.slice A1_ q1.s.length c1_, .slice A2_ q1.g.length c2_, .int .i64 q1.n]) BX.out 0 (.slice Ap (q1.s.length + 1) cp) rfl)
      have n1_ := Aside0.mk (Kd.R_set HO.out BX.out (by decide) 0 (.slice Ap (q1.s.length + 1) cp))
      have n2_ := Aside0.mk (Kd.R_set HQ.out BX.out (by decide) 0 (.slice Ap (q1.s.length + 1) cp))
      have n3_ := Aside0.mk (HB.out.setCell (p := ⟨gb, 0, none⟩) HGS.out (.slice Ap (q1.s.length + 1) cp))
      have n4_ := Aside0.mk (show w0.heap.size ≤ (World.setCell w6 ⟨gb, 0, none⟩ (.slice Ap (q1.s.length + 1) cp)).heap.size from Nat.le_trans HS.out (by simp [World.setCell]))
      have n5_ := Aside0.mk (blk_far BK.out (p := ⟨gb, 0, none⟩) (blk_ne BK.out BX.out (by decide)) (.slice Ap (q1.s.length + 1) cp))
      have n6_ : Aside0 (∀ (k : Nat) (cs : Array Value), w.heap[k]? = some (.cells cs 72 (0, 0)) → (World.setCell w6 ⟨gb, 0, none⟩ (.slice Ap (q1.s.length + 1) cp)).heap[k]? = some (.cells cs 72 (0, 0))) := ⟨fun k cs h => blk_far (HK.out k cs h) (p := ⟨gb, 0, none⟩) (blk_ne (HK.out k cs h) BX.out (by decide)) (.slice Ap (q1.s.length + 1) cp)⟩
      clear BX HO HQ HB HS BK HK
      generalize World.setCell w6 ⟨gb, 0, none⟩ (.slice Ap (q1.s.length + 1) cp) = w7 at n0_ n1_ n2_ n3_ n4_ n5_ n6_ ⊢
      have BX := n0_
      have HO := n1_
      have HQ := n2_
      have HB := n3_
      have HS := n4_
      have BK := n5_
      have HK := n6_
      clear n0_ n1_ n2_ n3_ n4_ n5_ n6_
      have BX : Aside0 (Ls.St 105 w0.heap.size gb w7 q2 Ap cp A2_ c2_) := ⟨by unfold Ls.St; rw [es_, eg_, en_, List.length_append]; exact BX.out⟩
      have HO : Aside0 (k86.R 86 w7 w0.heap.size (fun _ => True) (.slice Ap q2.s.length cp) q2.s) := ⟨by rw [es_]; exact HO.out⟩
      have HQ : Aside0 (k63.R 63 w7 w0.heap.size (fun _ => True) (.slice A2_ q2.g.length c2_) q2.g) := ⟨by rw [eg_]; exact HQ.out⟩
      clear es_ eg_ en_
      obtain ⟨hcz0, hfz0, hcz1, hfz1, hcz2, hfz2⟩ := bk3 BK.out; obtain ⟨hbz0, hbf0, hbz1, hbf1, hbz2, hbf2⟩ := bk3 BX.out
      obtain ⟨A1_, eA_⟩ : ∃ A1_, A1_ = Ap := ⟨_, rfl⟩
      obtain ⟨c1_, ec_⟩ : ∃ c1_, c1_ = cp := ⟨_, rfl⟩
      subst eA_
      subst ec_
      have hw_ : Go.RowKit.wrap64 ((q1.s.length : Int) + 1) = (q1.s.length : Int) + 1 := by unfold Go.RowKit.wrap64; omega
      obtain ⟨hl_, es_, eg_, en_⟩ := Ls.grd_some B3.out
      have HL := Aside0.mk hl_
      clear hl_
      refine start_ (n := 17) (S := fun w' => w'.cell? ⟨gb, 0, none⟩ = some (.slice A1_ q2.s.length c1_) ∧ w'.frozen? ⟨gb, 0, none⟩ = false ∧ w'.cell? ⟨gb, 1, none⟩ = some (.slice A2_ q2.g.length c2_) ∧ w'.frozen? ⟨gb, 1, none⟩ = false ∧ w'.cell? ⟨gt, 1, none⟩ = some (.int .i64 n)) (ds := [16]) (bs 17 0) kR rfl kR ⟨hbz0, hbf0, hbz1, hbf1, hcz1⟩ (fun hHeld => ?_)
      have n0_ := Aside0.mk (blk_drew BX.out)
      have n1_ := Aside0.mk (Kd.R_drew HO.out)
      have n2_ := Aside0.mk (Kd.R_drew HQ.out)
      have n3_ := Aside0.mk HB.out.drew
      have n4_ : Aside0 (w0.heap.size ≤ (World.drew _).heap.size) := HS
      have n5_ := Aside0.mk (blk_drew BK.out)
      have n6_ : Aside0 (∀ (k : Nat) (cs : Array Value), w.heap[k]? = some (.cells cs 72 (0, 0)) → (World.drew _).heap[k]? = some (.cells cs 72 (0, 0))) := ⟨fun k cs h => blk_drew (HK.out k cs h)⟩
      clear BX HO HQ HB HS BK HK hcz0 hfz0 hcz1 hfz1 hcz2 hfz2 hbz0 hbf0 hbz1 hbf1 hbz2 hbf2
      generalize hwd_ : World.drew _ = w3 at n0_ n1_ n2_ n3_ n4_ n5_ n6_ hHeld ⊢
      clear hwd_
      have BX := n0_
      have HO := n1_
      have HQ := n2_
      have HB := n3_
      have HS := n4_
      have BK := n5_
      have HK := n6_
      clear n0_ n1_ n2_ n3_ n4_ n5_ n6_
      refine pur_ 0 82 (bs 17 1) kR ?_
      refine pur_ 1 83 (bs 17 3) kR ?_
      refine pur_ 2 84 (bs 17 7) kR ?_
      refine pur_ 3 85 (bs 17 15) kR ?_
      refine pur_ 5 87 (bs 17 47) kR ?_
      refine pur_ 6 88 (bs 17 111) kR ?_
      refine pur_ 7 89 (bs 17 239) kR ?_
      refine pur_ 9 91 (bs 17 751) kR ?_
      refine pur_ 10 92 (bs 17 1775) kR ?_
      rw [hw_]
      refine tak_ 4 86 (bs 17 1791) kR hHeld ?_
      refine tak_ 8 90 (bs 17 2047) kR hHeld ?_
      refine pur_ 11 93 (bs 17 4095) kR ?_
      refine one_ (i := 12) (N := some 94) (bs 17 8191) rfl rfl kR (by decide) (fun K hK => ?_)
      refine value_ (w1 := ?_) (v := ?_) (by rfl) rfl ?_ ?_
      rotate_left 2
      ·go_simp
       constructor
       ·rfl
       ·rfl
      refine hK.out _ _ ⟨bZ (bA (lK BX.out) _) 0, blk_frozen (bA (lK BX.out) _) 0, bZ (bA (lK BX.out) _) 1, blk_frozen (bA (lK BX.out) _) 1, bZ (bA (lK BK.out) _) 1⟩ (fun hHeld => ?_)
      clear hK K
      refine norm_ (a' := ?_) ?_ ?_
      rotate_left
      ·show Act.put _ (some 94) _ = _
       simp only [Act.put, List.setIfInBounds_toArray, List.set_cons_zero, List.set_cons_succ, i64_w, i32_w]
       rfl
      refine one_ (i := 13) (N := some 95) (bs 17 16383) rfl rfl kR (by decide) (fun K hK => ?_)
      refine Kd.R_append_step k63 (w0 := w) w0.heap.size (by rfl) (.tmp 86) (.tmp 94) 36 63 (.agg #[.int .i64 0, .int .i64 0, .int .i64 0, .int .i64 0]) 32 rfl Try.underlying36 Ls.info63 rfl (by decide) (by omega) (.slice A2_ q2.g.length c2_) q2.g (⟨(q.s.length : Nat), (q1.s.length : Nat), n, (q1.s.length : Int) + 1⟩ : S63) [.int .i64 (q.s.length : Nat), .int .i64 (q1.s.length : Nat), .int .i64 n, .int .i64 ((q1.s.length : Int) + 1)] (fun _ => True) (fun _ => False) rfl rfl ?aP (fun _ hk => hk.elim) (fun _ _ => trivial) ?aO ?aB ?aS ?aL ?_
      (case aP => exact k63_mkM _ _ _ (⟨(q.s.length : Nat), (q1.s.length : Nat), n, (q1.s.length : Int) + 1⟩ : S63))
      (case aO => exact lR HQ.out)
      (case aB => exact HB.out)
      (case aS => exact HS.out)
      (case aL => have := HL.out; omega)
      intro v6 w6 ho hb hg hat
      have n0_ := Aside0.mk (blk_grown (lK BX.out) hg (Kd.R_ne HQ.out BX.out (by decide)))
      have m_ := Aside0.mk (Kd.R_over (lR HO.out) HQ.out (by decide) hg)
      have n4_ := Aside0.mk (Nat.le_trans HS.out hg.size)
      have n5_ := Aside0.mk (blk_grown (lK BK.out) hg (Kd.R_ne HQ.out BK.out (by decide)))
      have n6_ : Aside0 (∀ (k : Nat) (cs : Array Value), w.heap[k]? = some (.cells cs 72 (0, 0)) → w6.heap[k]? = some (.cells cs 72 (0, 0))) := ⟨fun k cs h => blk_grown (HK.out k cs h) hg (Kd.R_ne HQ.out (HK.out k cs h) (by decide))⟩
      clear BX HO HQ HB HS BK HK
      have BX := n0_
      have HO := m_
      have HQ := Aside0.mk ho
      have HB := Aside0.mk hb
      have HS := n4_
      have BK := n5_
      have HK := n6_
      clear n0_ m_ n4_ n5_ n6_ ho hb hg hat
      obtain ⟨Ap, cp, ep⟩ := Kd.R_slice HQ.out
      subst ep
      refine hK.out _ _ ⟨bZ (BX.out) 0, blk_frozen (BX.out) 0, bZ (BX.out) 1, blk_frozen (BX.out) 1, bZ (BK.out) 1⟩ (fun hHeld => ?_)
      clear hK K
      refine norm_ (a' := ?_) ?_ ?_
      rotate_left
      ·show Act.put _ (some 95) _ = _
       simp only [Act.put, List.setIfInBounds_toArray, List.set_cons_zero, List.set_cons_succ, i64_w, i32_w]
       rfl
      refine pur_ 14 96 (bs 17 32767) kR ?_
      refine pur_ 15 97 (bs 17 65535) kR ?_
      refine last_ (i := 16) (N := none) (bs 17 131071) rfl rfl kR (by decide) (fun K hK => ?_)
      have hs0_ := hHeld.1
      have hs1_ := hHeld.2.1
      have hs2_ := hHeld.2.2.1
      have hs3_ := hHeld.2.2.2.1
      refine skip_ (w1 := World.setCell _ ⟨gb, 1, none⟩ (.slice Ap (q2.g ++ [(⟨(q.s.length : Nat), (q1.s.length : Nat), n, (q1.s.length : Int) + 1⟩ : S63)]).length cp)) (by rfl) rfl (by first | (go_simp; done) | (go_simp; rfl)) ?_
      refine hK.out _ _ ?_
      clear hK K
      refine done_ kR ?_
      clear hHeld HL hs0_ hs1_ hs2_ hs3_
      have n0_ := Aside0.mk (blk_put (cs := #[.slice A1_ q2.s.length c1_, .slice A2_ q2.g.length c2_, .int .i64 q2.n]) BX.out 1 (.slice Ap (q2.g ++ [(⟨(q.s.length : Nat), (q1.s.length : Nat), n, (q1.s.length : Int) + 1⟩ : S63)]).length cp) rfl)
      have n1_ := Aside0.mk (Kd.R_set HO.out BX.out (by decide) 1 (.slice Ap (q2.g ++ [(⟨(q.s.length : Nat), (q1.s.length : Nat), n, (q1.s.length : Int) + 1⟩ : S63)]).length cp))
      have n2_ := Aside0.mk (Kd.R_set HQ.out BX.out (by decide) 1 (.slice Ap (q2.g ++ [(⟨(q.s.length : Nat), (q1.s.length : Nat), n, (q1.s.length : Int) + 1⟩ : S63)]).length cp))
      have n3_ := Aside0.mk (HB.out.setCell (p := ⟨gb, 1, none⟩) HGS.out (.slice Ap (q2.g ++ [(⟨(q.s.length : Nat), (q1.s.length : Nat), n, (q1.s.length : Int) + 1⟩ : S63)]).length cp))
      have n4_ := Aside0.mk (show w0.heap.size ≤ (World.setCell w6 ⟨gb, 1, none⟩ (.slice Ap (q2.g ++ [(⟨(q.s.length : Nat), (q1.s.length : Nat), n, (q1.s.length : Int) + 1⟩ : S63)]).length cp)).heap.size from Nat.le_trans HS.out (by simp [World.setCell]))
      have n5_ := Aside0.mk (blk_far BK.out (p := ⟨gb, 1, none⟩) (blk_ne BK.out BX.out (by decide)) (.slice Ap (q2.g ++ [(⟨(q.s.length : Nat), (q1.s.length : Nat), n, (q1.s.length : Int) + 1⟩ : S63)]).length cp))
      have n6_ : Aside0 (∀ (k : Nat) (cs : Array Value), w.heap[k]? = some (.cells cs 72 (0, 0)) → (World.setCell w6 ⟨gb, 1, none⟩ (.slice Ap (q2.g ++ [(⟨(q.s.length : Nat), (q1.s.length : Nat), n, (q1.s.length : Int) + 1⟩ : S63)]).length cp)).heap[k]? = some (.cells cs 72 (0, 0))) := ⟨fun k cs h => blk_far (HK.out k cs h) (p := ⟨gb, 1, none⟩) (blk_ne (HK.out k cs h) BX.out (by decide)) (.slice Ap (q2.g ++ [(⟨(q.s.length : Nat), (q1.s.length : Nat), n, (q1.s.length : Int) + 1⟩ : S63)]).length cp)⟩
      clear BX HO HQ HB HS BK HK
      generalize World.setCell w6 ⟨gb, 1, none⟩ (.slice Ap (q2.g ++ [(⟨(q.s.length : Nat), (q1.s.length : Nat), n, (q1.s.length : Int) + 1⟩ : S63)]).length cp) = w7 at n0_ n1_ n2_ n3_ n4_ n5_ n6_ ⊢
      have BX := n0_
      have HO := n1_
      have HQ := n2_
      have HB := n3_
      have HS := n4_
      have BK := n5_
      have HK := n6_
      clear n0_ n1_ n2_ n3_ n4_ n5_ n6_
      have BX : Aside0 (Ls.St 105 w0.heap.size gb w7 q3 A1_ c1_ Ap cp) := ⟨by unfold Ls.St; rw [es_, eg_, en_]; exact BX.out⟩
      have HO : Aside0 (k86.R 86 w7 w0.heap.size (fun _ => True) (.slice A1_ q3.s.length c1_) q3.s) := ⟨by rw [es_]; exact HO.out⟩
      have HQ : Aside0 (k63.R 63 w7 w0.heap.size (fun _ => True) (.slice Ap q3.g.length cp) q3.g) := ⟨by rw [eg_]; exact HQ.out⟩
      clear es_ eg_ en_
      obtain ⟨hcz0, hfz0, hcz1, hfz1, hcz2, hfz2⟩ := bk3 BK.out; obtain ⟨hbz0, hbf0, hbz1, hbf1, hbz2, hbf2⟩ := bk3 BX.out
      obtain ⟨A2_, eA_⟩ : ∃ A2_, A2_ = Ap := ⟨_, rfl⟩
      obtain ⟨c2_, ec_⟩ : ∃ c2_, c2_ = cp := ⟨_, rfl⟩
      subst eA_
      subst ec_
      obtain ⟨ha1, hb1, hd1⟩ := HC1.out _ (HB0.out.trans HB.out)
      simp only [Nat.zero_mul, Nat.one_mul, Ls.add0, Ls.add3] at ha1 hb1 hd1
      go_upto_region 16 with (first | (go_at_call 67; (with_reducible refine (HOK1.out _ _ _ _ _ _ _ HGS.out (HB0.out.trans HB.out) BX.out HO.out HQ.out B4.out).mono ?_); rintro e w5 ⟨rfl, ⟨A1_, c1_, A2_, c2_, hbx_, ho_, hq_, hb_⟩, hk_⟩; have n0_ := Aside0.mk hbx_; have n1_ := Aside0.mk ho_; have n2_ := Aside0.mk hq_; have n3_ := Aside0.mk (HB.out.trans hb_); have n4_ := Aside0.mk (Nat.le_trans HS.out hb_.size); have n5_ := Aside0.mk (hk_ _ _ BK.out); have n6_ : Aside0 (∀ (k : Nat) (cs : Array Value), w.heap[k]? = some (.cells cs 72 (0, 0)) → w5.heap[k]? = some (.cells cs 72 (0, 0))) := ⟨fun k cs h => hk_ k cs (HK.out k cs h)⟩; clear ha1 hb1 hd1 BX HO HQ HB HS BK HK hcz0 hfz0 hcz1 hfz1 hcz2 hfz2 hbz0 hbf0 hbz1 hbf1 hbz2 hbf2 hbx_ ho_ hq_ hb_ hk_; have BX := n0_; have HO := n1_; have HQ := n2_; have HB := n3_; have HS := n4_; have BK := n5_; have HK := n6_; clear n0_ n1_ n2_ n3_ n4_ n5_ n6_; obtain ⟨hcz0, hfz0, hcz1, hfz1, hcz2, hfz2⟩ := bk3 BK.out; obtain ⟨hbz0, hbf0, hbz1, hbf1, hbz2, hbf2⟩ := bk3 BX.out))
      obtain ⟨hlt_, es_, eg_, en_⟩ := Ls.setT_some B5.out
      have HLT := Aside0.mk hlt_
      obtain ⟨gr, cr, ef_, hgr_, hgr2_, hgr3_⟩ := Kd.R_form HO.out (Nat.lt_of_le_of_lt (Nat.zero_le _) hlt_)
      injection ef_ with ef1_ ef2_ ef3_
      subst ef1_
      subst ef3_
      clear ef2_ hgr_ hgr2_ hgr3_
      obtain ⟨hsc_, hsf_, hsr_, hsg_⟩ := Ls.cell86 HO.out hlt_ ((q4.s.length : Nat) : Int)
      clear hsr_ hsg_
      have hi0_ : (0 : Int) ≤ ((q1.s.length : Nat) : Int) := Int.natCast_nonneg _
      have hi1_ : ((q1.s.length : Nat) : Int) < ((q4.s.length : Nat) : Int) := Int.ofNat_lt.mpr hlt_
      refine start_ (n := 13) (S := fun w' => w'.cell? ⟨gb, 0, none⟩ = some (.slice (some ⟨gr, 0, none⟩) q4.s.length c1_) ∧ w'.cell? ⟨gb, 1, none⟩ = some (.slice A2_ q4.g.length c2_) ∧ w'.cell? ⟨gr, (q1.s.length) * 3 + 2, none⟩ = some (.int .i64 (rd_T86 q4.s (q1.s.length : Nat)).f2) ∧ w'.frozen? ⟨gr, (q1.s.length) * 3 + 2, none⟩ = false) (ds := [12]) (bs 13 0) kR rfl kR ⟨hbz0, hbz1, hsc_, hsf_⟩ (fun hHeld => ?_)
      have n0_ := Aside0.mk (blk_drew BX.out)
      have n1_ := Aside0.mk (Kd.R_drew HO.out)
      have n2_ := Aside0.mk (Kd.R_drew HQ.out)
      have n3_ := Aside0.mk HB.out.drew
      have n4_ : Aside0 (w0.heap.size ≤ (World.drew _).heap.size) := HS
      have n5_ := Aside0.mk (blk_drew BK.out)
      have n6_ : Aside0 (∀ (k : Nat) (cs : Array Value), w.heap[k]? = some (.cells cs 72 (0, 0)) → (World.drew _).heap[k]? = some (.cells cs 72 (0, 0))) := ⟨fun k cs h => blk_drew (HK.out k cs h)⟩
      clear BX HO HQ HB HS BK HK hsc_ hsf_ hcz0 hfz0 hcz1 hfz1 hcz2 hfz2 hbz0 hbf0 hbz1 hbf1 hbz2 hbf2
      generalize hwd_ : World.drew _ = w3 at n0_ n1_ n2_ n3_ n4_ n5_ n6_ hHeld ⊢
      clear hwd_
      have BX := n0_
      have HO := n1_
      have HQ := n2_
      have HB := n3_
      have HS := n4_
      have BK := n5_
      have HK := n6_
      clear n0_ n1_ n2_ n3_ n4_ n5_ n6_
      refine pur_ 0 104 (bs 13 1) kR ?_
      refine pur_ 1 105 (bs 13 3) kR ?_
      refine pur_ 2 106 (bs 13 7) kR ?_
      refine pur_ 4 108 (bs 13 23) kR ?_
      refine pur_ 5 109 (bs 13 55) kR ?_
      refine pur_ 6 110 (bs 13 119) kR ?_
      refine pur_ 7 111 (bs 13 247) kR ?_
      refine tak_ 3 107 (bs 13 255) kR hHeld ?_
      refine tak_ 8 112 (bs 13 511) kR hHeld ?_
      refine pur_ 9 113 (bs 13 1023) kR ?_
      refine pur_ 10 114 (bs 13 2047) kR ?_
      refine pur_ 11 115 (bs 13 4095) kR ?_
      refine last_ (i := 12) (N := none) (bs 13 8191) rfl rfl kR (by decide) (fun K hK => ?_)
      have hs0_ := hHeld.2.2.1
      have hs1_ := hHeld.2.2.2
      refine skip_ (w1 := World.setCell _ ⟨gr, (q1.s.length) * 3 + 2, none⟩ (.int .i64 ((q4.s.length : Nat) : Int))) (by rfl) rfl (by first | (go_simp; done) | (go_simp; rfl)) ?_
      refine hK.out _ _ ?_
      clear hK K
      refine done_ kR ?_
      clear hHeld hs0_ hs1_ hi0_ hi1_ hlt_
      obtain ⟨_, _, hsr_, hsg_⟩ := Ls.cell86 HO.out HLT.out ((q4.s.length : Nat) : Int)
      have hle_ : w0.heap.size ≤ gr := Kd.R_base HO.out gr rfl
      have n0_ := Aside0.mk (blk_grown (lK BX.out) hsg_ (Kd.R_ne HO.out BX.out (by decide)))
      have m1_ := Aside0.mk (Kd.R_over HQ.out HO.out (by decide) hsg_)
      have m2_ := Aside0.mk hsr_
      have n3_ := Aside0.mk (HB.out.setCell (p := ⟨gr, (q1.s.length) * 3 + 2, none⟩) hle_ (.int .i64 ((q4.s.length : Nat) : Int)))
      have n4_ := Aside0.mk (Nat.le_trans HS.out hsg_.size)
      have n5_ := Aside0.mk (blk_grown (lK BK.out) hsg_ (Kd.R_ne HO.out BK.out (by decide)))
      have n6_ := Aside0.mk (fun (k : Nat) (cs : Array Value) (h : w.heap[k]? = some (.cells cs 72 (0, 0))) => blk_grown (HK.out k cs h) hsg_ (Kd.R_ne HO.out (HK.out k cs h) (by decide)))
      clear BX HO HQ HB HS BK HK hsr_ hsg_ hle_ HLT
      generalize World.setCell _ ⟨gr, (q1.s.length) * 3 + 2, none⟩ (.int .i64 ((q4.s.length : Nat) : Int)) = w4 at n0_ m1_ m2_ n3_ n4_ n5_ n6_ ⊢
      have BX := n0_
      have HQ := m1_
      have HQ_ := m2_
      have HB := n3_
      have HS := n4_
      have BK := n5_
      have HK := n6_
      clear n0_ m1_ m2_ n3_ n4_ n5_ n6_
      have BX : Aside0 (Ls.St 105 w0.heap.size gb w4 r (some ⟨gr, 0, none⟩) c1_ A2_ c2_) := ⟨by unfold Ls.St; rw [es_, eg_, en_, List.length_set]; exact BX.out⟩
      have HO : Aside0 (k86.R 86 w4 w0.heap.size (fun _ => True) (.slice (some ⟨gr, 0, none⟩) r.s.length c1_) r.s) := ⟨by rw [es_, List.length_set]; exact HQ_.out⟩
      have HQ : Aside0 (k63.R 63 w4 w0.heap.size (fun _ => True) (.slice A2_ r.g.length c2_) r.g) := ⟨by rw [eg_]; exact HQ.out⟩
      clear HQ_ es_ eg_ en_
      obtain ⟨hcz0, hfz0, hcz1, hfz1, hcz2, hfz2⟩ := bk3 BK.out; obtain ⟨hbz0, hbf0, hbz1, hbf1, hbz2, hbf2⟩ := bk3 BX.out
      go_wp2
      refine Ls.ret0 rfl rfl ?_
      exact ⟨rfl, ⟨_, _, _, _, BX.out, HO.out, HQ.out, HB.out⟩, HK.out⟩
     ·rw [if_neg k4] at h
      have k4b : (k == 4) = false := beq_eq_false_iff_ne.mpr k4
      by_cases k5 : k = 5
      ·rw [if_pos k5] at h
       subst k5
       replace h := lO h; obtain ⟨q2, B2, h⟩ := h
       replace h := lO h; obtain ⟨q3, B3, h⟩ := h
       replace h := lO h; obtain ⟨q4, B4, h⟩ := h
       replace h := lO h; obtain ⟨q5, B5, h⟩ := h
       replace h := lO h; obtain ⟨q6, B6, h⟩ := h
       replace h := lO h; obtain ⟨q7, B7, h⟩ := h
       have B8 := Aside0.mk h
       clear h
       have hlq_ := (Ls.put_some B4.out).1
       go_enter Try.func67, Try.ntmps67
       go_upto_region 1 with (first | ((with_reducible refine gate_dst (N := 3) rfl ?_); refine bxe 3 #[.int .i64 5, .int .i64 n, .slice (some ad0) m c] 72 ?_; intro gt hgt_ w4 hbox hb_; have n0_ := Aside0.mk (blk_below BX.out hb_); have n1_ := Aside0.mk (Kd.R_below HO.out hb_); have n2_ := Aside0.mk (Kd.R_below HQ.out hb_); have n3_ : Aside0 (Below w0.heap.size w w4) := ⟨HB.out.trans (hb_.mono HS.out)⟩; have n4_ := Aside0.mk (Nat.le_trans HS.out hb_.size); have n5_ := Aside0.mk hbox; have n6_ : Aside0 (∀ (k : Nat) (cs : Array Value), w.heap[k]? = some (.cells cs 72 (0, 0)) → w4.heap[k]? = some (.cells cs 72 (0, 0))) := ⟨fun k cs h => blk_below h hb_⟩; clear BX HO HQ HB HS hbz0 hbf0 hbz1 hbf1 hbz2 hbf2 hbox hb_ hgt_; have BX := n0_; have HO := n1_; have HQ := n2_; have HB := n3_; have HS := n4_; have BK := n5_; have HK := n6_; clear n0_ n1_ n2_ n3_ n4_ n5_ n6_; obtain ⟨hcz0, hfz0, hcz1, hfz1, hcz2, hfz2⟩ := bk3 BK.out; obtain ⟨hbz0, hbf0, hbz1, hbf1, hbz2, hbf2⟩ := bk3 BX.out))
       obtain ⟨ha0, hb0, hd0⟩ := HC0.out _ (HB0.out.trans HB.out)
       simp only [Nat.zero_mul, Nat.one_mul, Ls.add0, Ls.add3] at ha0 hb0 hd0
       go_upto_region 21 with (first | (go_at_call 67; (with_reducible refine (HOK0.out _ _ _ _ _ _ _ HGS.out (HB0.out.trans HB.out) BX.out HO.out HQ.out B1.out).mono ?_); rintro e w5 ⟨rfl, ⟨A1_, c1_, A2_, c2_, hbx_, ho_, hq_, hb_⟩, hk_⟩; have n0_ := Aside0.mk hbx_; have n1_ := Aside0.mk ho_; have n2_ := Aside0.mk hq_; have n3_ := Aside0.mk (HB.out.trans hb_); have n4_ := Aside0.mk (Nat.le_trans HS.out hb_.size); have n5_ := Aside0.mk (hk_ _ _ BK.out); have n6_ : Aside0 (∀ (k : Nat) (cs : Array Value), w.heap[k]? = some (.cells cs 72 (0, 0)) → w5.heap[k]? = some (.cells cs 72 (0, 0))) := ⟨fun k cs h => hk_ k cs (HK.out k cs h)⟩; clear ha0 hb0 hd0 BX HO HQ HB HS BK HK hcz0 hfz0 hcz1 hfz1 hcz2 hfz2 hbz0 hbf0 hbz1 hbf1 hbz2 hbf2 hbx_ ho_ hq_ hb_ hk_; have BX := n0_; have HO := n1_; have HQ := n2_; have HB := n3_; have HS := n4_; have BK := n5_; have HK := n6_; clear n0_ n1_ n2_ n3_ n4_ n5_ n6_; obtain ⟨hcz0, hfz0, hcz1, hfz1, hcz2, hfz2⟩ := bk3 BK.out; obtain ⟨hbz0, hbf0, hbz1, hbf1, hbz2, hbf2⟩ := bk3 BX.out))
       obtain ⟨hl_, es_, eg_, en_⟩ := Ls.grd_some B2.out
       have HL := Aside0.mk hl_
       clear hl_
       go_upto_region 22 with (first | ((with_reducible refine gate_builtin (b := .append) (xs := #[.tmp 138, .tmp 142]) rfl ?_); at_builtin; refine Kd.R_append k63 (w0 := w) w0.heap.size rfl (.tmp 138) (.tmp 142) 36 63 (.agg #[.int .i64 0, .int .i64 0, .int .i64 0, .int .i64 0]) 32 rfl Try.underlying36 Ls.info63 rfl (by decide) (by omega) (.slice A2_ q1.g.length c2_) q1.g (⟨(q.s.length : Nat), (q1.s.length : Nat), 0, 0⟩ : S63) [.int .i64 (q.s.length : Nat), .int .i64 (q1.s.length : Nat), .int .i64 0, .int .i64 0] (fun _ => True) (fun _ => False) rfl (by first | (go_simp; done) | (go_simp; rfl)) ?aP (fun _ hk => hk.elim) (fun _ _ => trivial) ?aO ?aB ?aS ?aL ?_; (case aP => exact k63_mkM _ _ _ (⟨(q.s.length : Nat), (q1.s.length : Nat), 0, 0⟩ : S63)); (case aO => exact lR HQ.out); (case aB => exact HB.out); (case aS => exact HS.out); (case aL => have := HL.out; omega); intro v6 w6 ho hb hg hat; clear hcz0 hfz0 hcz1 hfz1 hcz2 hfz2 hbz0 hbf0 hbz1 hbf1 hbz2 hbf2; have n0_ := Aside0.mk (blk_grown (lK BX.out) hg (Kd.R_ne HQ.out BX.out (by decide))); have m_ := Aside0.mk (Kd.R_over (lR HO.out) HQ.out (by decide) hg); have n4_ := Aside0.mk (Nat.le_trans HS.out hg.size); have n5_ := Aside0.mk (blk_grown (lK BK.out) hg (Kd.R_ne HQ.out BK.out (by decide))); have n6_ : Aside0 (∀ (k : Nat) (cs : Array Value), w.heap[k]? = some (.cells cs 72 (0, 0)) → w6.heap[k]? = some (.cells cs 72 (0, 0))) := ⟨fun k cs h => blk_grown (HK.out k cs h) hg (Kd.R_ne HQ.out (HK.out k cs h) (by decide))⟩; clear BX HO HQ HB HS BK HK; have BX := n0_; have HO := m_; have HQ := Aside0.mk ho; have HB := Aside0.mk hb; have HS := n4_; have BK := n5_; have HK := n6_; clear n0_ m_ n4_ n5_ n6_ ho hb hg hat; obtain ⟨Ap, cp, ep⟩ := Kd.R_slice HQ.out; subst ep; obtain ⟨hcz0, hfz0, hcz1, hfz1, hcz2, hfz2⟩ := bk3 BK.out; obtain ⟨hbz0, hbf0, hbz1, hbf1, hbz2, hbf2⟩ := bk3 BX.out))
       clear HL hcz0 hfz0 hcz1 hfz1 hcz2 hfz2 hbz0 hbf0 hbz1 hbf1 hbz2 hbf2
       have n0_ := Aside0.mk (blk_put (cs := #[.slice A1_ q1.s.length c1_, .slice A2_ q1.g.length c2_, .int .i64 q1.n]) BX.out 1 (.slice Ap (q1.g.length + 1) cp) rfl)
       have n1_ := Aside0.mk (Kd.R_set HO.out BX.out (by decide) 1 (.slice Ap (q1.g.length + 1) cp))
       have n2_ := Aside0.mk (Kd.R_set HQ.out BX.out (by decide) 1 (.slice Ap (q1.g.length + 1) cp))
       have n3_ := Aside0.mk (HB.out.setCell (p := ⟨gb, 1, none⟩) HGS.out (.slice Ap (q1.g.length + 1) cp))
       have n4_ := Aside0.mk (show w0.heap.size ≤ (World.setCell w6 ⟨gb, 1, none⟩ (.slice Ap (q1.g.length + 1) cp)).heap.size from Nat.le_trans HS.out (by simp [World.setCell]))
       have n5_ := Aside0.mk (blk_far BK.out (p := ⟨gb, 1, none⟩) (blk_ne BK.out BX.out (by decide)) (.slice Ap (q1.g.length + 1) cp))
       have n6_ : Aside0 (∀ (k : Nat) (cs : Array Value), w.heap[k]? = some (.cells cs 72 (0, 0)) → (World.setCell w6 ⟨gb, 1, none⟩ (.slice Ap (q1.g.length + 1) cp)).heap[k]? = some (.cells cs 72 (0, 0))) := ⟨fun k cs h => blk_far (HK.out k cs h) (p := ⟨gb, 1, none⟩) (blk_ne (HK.out k cs h) BX.out (by decide)) (.slice Ap (q1.g.length + 1) cp)⟩
       clear BX HO HQ HB HS BK HK
       generalize World.setCell w6 ⟨gb, 1, none⟩ (.slice Ap (q1.g.length + 1) cp) = w7 at n0_ n1_ n2_ n3_ n4_ n5_ n6_ ⊢
       have BX := n0_
       have HO := n1_
       have HQ := n2_
       have HB := n3_
       have HS := n4_
       have BK := n5_
       have HK := n6_
       clear n0_ n1_ n2_ n3_ n4_ n5_ n6_
       have BX : Aside0 (Ls.St 105 w0.heap.size gb w7 q2 A1_ c1_ Ap cp) := ⟨by unfold Ls.St; rw [es_, eg_, en_, List.length_append]; exact BX.out⟩
       have HO : Aside0 (k86.R 86 w7 w0.heap.size (fun _ => True) (.slice A1_ q2.s.length c1_) q2.s) := ⟨by rw [es_]; exact HO.out⟩
       have HQ : Aside0 (k63.R 63 w7 w0.heap.size (fun _ => True) (.slice Ap q2.g.length cp) q2.g) := ⟨by rw [eg_]; exact HQ.out⟩
       clear es_ eg_ en_
       obtain ⟨hcz0, hfz0, hcz1, hfz1, hcz2, hfz2⟩ := bk3 BK.out; obtain ⟨hbz0, hbf0, hbz1, hbf1, hbz2, hbf2⟩ := bk3 BX.out
       obtain ⟨A2_, eA_⟩ : ∃ A2_, A2_ = Ap := ⟨_, rfl⟩
       obtain ⟨c2_, ec_⟩ : ∃ c2_, c2_ = cp := ⟨_, rfl⟩
       subst eA_
       subst ec_
       obtain ⟨ha1, hb1, hd1⟩ := HC1.out _ (HB0.out.trans HB.out)
       simp only [Nat.zero_mul, Nat.one_mul, Ls.add0, Ls.add3] at ha1 hb1 hd1
       go_upto_region 24 with (first | (go_at_call 67; (with_reducible refine (HOK1.out _ _ _ _ _ _ _ HGS.out (HB0.out.trans HB.out) BX.out HO.out HQ.out B3.out).mono ?_); rintro e w5 ⟨rfl, ⟨A1_, c1_, A2_, c2_, hbx_, ho_, hq_, hb_⟩, hk_⟩; have n0_ := Aside0.mk hbx_; have n1_ := Aside0.mk ho_; have n2_ := Aside0.mk hq_; have n3_ := Aside0.mk (HB.out.trans hb_); have n4_ := Aside0.mk (Nat.le_trans HS.out hb_.size); have n5_ := Aside0.mk (hk_ _ _ BK.out); have n6_ : Aside0 (∀ (k : Nat) (cs : Array Value), w.heap[k]? = some (.cells cs 72 (0, 0)) → w5.heap[k]? = some (.cells cs 72 (0, 0))) := ⟨fun k cs h => hk_ k cs (HK.out k cs h)⟩; clear ha1 hb1 hd1 BX HO HQ HB HS BK HK hcz0 hfz0 hcz1 hfz1 hcz2 hfz2 hbz0 hbf0 hbz1 hbf1 hbz2 hbf2 hbx_ ho_ hq_ hb_ hk_; have BX := n0_; have HO := n1_; have HQ := n2_; have HB := n3_; have HS := n4_; have BK := n5_; have HK := n6_; clear n0_ n1_ n2_ n3_ n4_ n5_ n6_; obtain ⟨hcz0, hfz0, hcz1, hfz1, hcz2, hfz2⟩ := bk3 BK.out; obtain ⟨hbz0, hbf0, hbz1, hbf1, hbz2, hbf2⟩ := bk3 BX.out))
       obtain ⟨hl_, es_, eg_, en_⟩ := Ls.put_some B4.out
       have HL := Aside0.mk hl_
       clear hl_
       go_upto_region 25 with (first | ((with_reducible refine gate_builtin (b := .append) (xs := #[.tmp 161, .tmp 163]) rfl ?_); at_builtin; refine Kd.R_append k86 (w0 := w) w0.heap.size rfl (.tmp 161) (.tmp 163) 35 86 (.agg #[.int .i64 0, .int .i64 0, .int .i64 0]) 24 rfl Try.underlying35 Ls.info86 rfl (by decide) (by omega) (.slice A1_ q3.s.length c1_) q3.s (⟨4, 0, 0⟩ : S86) [.int .i64 4, .int .i64 0, .int .i64 0] (fun _ => True) (fun _ => False) rfl (by first | (go_simp; done) | (go_simp; rfl)) ?aP (fun _ hk => hk.elim) (fun _ _ => trivial) ?aO ?aB ?aS ?aL ?_; (case aP => exact k86_mkM _ _ _ (⟨4, 0, 0⟩ : S86)); (case aO => exact lR HO.out); (case aB => exact HB.out); (case aS => exact HS.out); (case aL => have := HL.out; omega); intro v6 w6 ho hb hg hat; clear hcz0 hfz0 hcz1 hfz1 hcz2 hfz2 hbz0 hbf0 hbz1 hbf1 hbz2 hbf2; have n0_ := Aside0.mk (blk_grown (lK BX.out) hg (Kd.R_ne HO.out BX.out (by decide))); have m_ := Aside0.mk (Kd.R_over (lR HQ.out) HO.out (by decide) hg); have n4_ := Aside0.mk (Nat.le_trans HS.out hg.size); have n5_ := Aside0.mk (blk_grown (lK BK.out) hg (Kd.R_ne HO.out BK.out (by decide))); have n6_ : Aside0 (∀ (k : Nat) (cs : Array Value), w.heap[k]? = some (.cells cs 72 (0, 0)) → w6.heap[k]? = some (.cells cs 72 (0, 0))) := ⟨fun k cs h => blk_grown (HK.out k cs h) hg (Kd.R_ne HO.out (HK.out k cs h) (by decide))⟩; clear BX HO HQ HB HS BK HK; have BX := n0_; have HQ := m_; have HO := Aside0.mk ho; have HB := Aside0.mk hb; have HS := n4_; have BK := n5_; have HK := n6_; clear n0_ m_ n4_ n5_ n6_ ho hb hg hat; obtain ⟨Ap, cp, ep⟩ := Kd.R_slice HO.out; subst ep; obtain ⟨hcz0, hfz0, hcz1, hfz1, hcz2, hfz2⟩ := bk3 BK.out; obtain ⟨hbz0, hbf0, hbz1, hbf1, hbz2, hbf2⟩ := bk3 BX.out))
       clear HL hcz0 hfz0 hcz1 hfz1 hcz2 hfz2 hbz0 hbf0 hbz1 hbf1 hbz2 hbf2
       have n0_ := Aside0.mk (blk_put (cs := #[.slice A1_ q3.s.length c1_, .slice A2_ q3.g.length c2_, .int .i64 q3.n]) BX.out 0 (.slice Ap (q3.s.length + 1) cp) rfl)
       have n1_ := Aside0.mk (Kd.R_set HO.out BX.out (by decide) 0 (.slice Ap (q3.s.length + 1) cp))
       have n2_ := Aside0.mk (Kd.R_set HQ.out BX.out (by decide) 0 (.slice Ap (q3.s.length + 1) cp))
       have n3_ := Aside0.mk (HB.out.setCell (p := ⟨gb, 0, none⟩) HGS.out (.slice Ap (q3.s.length + 1) cp))
       have n4_ := Aside0.mk (show w0.heap.size ≤ (World.setCell w6 ⟨gb, 0, none⟩ (.slice Ap (q3.s.length + 1) cp)).heap.size from Nat.le_trans HS.out (by simp [World.setCell]))
       have n5_ := Aside0.mk (blk_far BK.out (p := ⟨gb, 0, none⟩) (blk_ne BK.out BX.out (by decide)) (.slice Ap (q3.s.length + 1) cp))
       have n6_ : Aside0 (∀ (k : Nat) (cs : Array Value), w.heap[k]? = some (.cells cs 72 (0, 0)) → (World.setCell w6 ⟨gb, 0, none⟩ (.slice Ap (q3.s.length + 1) cp)).heap[k]? = some (.cells cs 72 (0, 0))) := ⟨fun k cs h => blk_far (HK.out k cs h) (p := ⟨gb, 0, none⟩) (blk_ne (HK.out k cs h) BX.out (by decide)) (.slice Ap (q3.s.length + 1) cp)⟩
       clear BX HO HQ HB HS BK HK
       generalize World.setCell w6 ⟨gb, 0, none⟩ (.slice Ap (q3.s.length + 1) cp) = w7 at n0_ n1_ n2_ n3_ n4_ n5_ n6_ ⊢
       have BX := n0_
       have HO := n1_
       have HQ := n2_
       have HB := n3_
       have HS := n4_
       have BK := n5_
       have HK := n6_
       clear n0_ n1_ n2_ n3_ n4_ n5_ n6_
       have BX : Aside0 (Ls.St 105 w0.heap.size gb w7 q4 Ap cp A2_ c2_) := ⟨by unfold Ls.St; rw [es_, eg_, en_, List.length_append]; exact BX.out⟩
       have HO : Aside0 (k86.R 86 w7 w0.heap.size (fun _ => True) (.slice Ap q4.s.length cp) q4.s) := ⟨by rw [es_]; exact HO.out⟩
       have HQ : Aside0 (k63.R 63 w7 w0.heap.size (fun _ => True) (.slice A2_ q4.g.length c2_) q4.g) := ⟨by rw [eg_]; exact HQ.out⟩
       clear es_ eg_ en_
       obtain ⟨hcz0, hfz0, hcz1, hfz1, hcz2, hfz2⟩ := bk3 BK.out; obtain ⟨hbz0, hbf0, hbz1, hbf1, hbz2, hbf2⟩ := bk3 BX.out
       obtain ⟨A1_, eA_⟩ : ∃ A1_, A1_ = Ap := ⟨_, rfl⟩
       obtain ⟨c1_, ec_⟩ : ∃ c1_, c1_ = cp := ⟨_, rfl⟩
       subst eA_
       subst ec_
       obtain ⟨hlt_, es_, eg_, en_⟩ := Ls.setA_some B5.out
       have HLT := Aside0.mk hlt_
       obtain ⟨gr, cr, ef_, hgr_, hgr2_, hgr3_⟩ := Kd.R_form HQ.out (Nat.lt_of_le_of_lt (Nat.zero_le _) hlt_)
       injection ef_ with ef1_ ef2_ ef3_
       subst ef1_
       subst ef3_
       clear ef2_ hgr_ hgr2_ hgr3_
       obtain ⟨hsc_, hsf_, hsr_, hsg_⟩ := Ls.cell63 HQ.out hlt_ ((q3.s.length : Int) + 1)
       clear hsr_ hsg_
       have hi0_ : (0 : Int) ≤ ((q1.g.length : Nat) : Int) := Int.natCast_nonneg _
       have hi1_ : ((q1.g.length : Nat) : Int) < ((q4.g.length : Nat) : Int) := Int.ofNat_lt.mpr hlt_
       go_upto_region 26 with (fail)
       clear hsc_ hsf_ hi0_ hi1_ hlt_ hcz0 hfz0 hcz1 hfz1 hcz2 hfz2 hbz0 hbf0 hbz1 hbf1 hbz2 hbf2
       obtain ⟨_, _, hsr_, hsg_⟩ := Ls.cell63 HQ.out HLT.out ((q3.s.length : Int) + 1)
       have hle_ : w0.heap.size ≤ gr := Kd.R_base HQ.out gr rfl
       have n0_ := Aside0.mk (blk_grown (lK BX.out) hsg_ (Kd.R_ne HQ.out BX.out (by decide)))
       have m1_ := Aside0.mk (Kd.R_over HO.out HQ.out (by decide) hsg_)
       have m2_ := Aside0.mk hsr_
       have n3_ := Aside0.mk (HB.out.setCell (p := ⟨gr, (q1.g.length) * 4 + 3, none⟩) hle_ (.int .i64 ((q3.s.length : Int) + 1)))
       have n4_ := Aside0.mk (Nat.le_trans HS.out hsg_.size)
       have n5_ := Aside0.mk (blk_grown (lK BK.out) hsg_ (Kd.R_ne HQ.out BK.out (by decide)))
       have n6_ := Aside0.mk (fun (k : Nat) (cs : Array Value) (h : w.heap[k]? = some (.cells cs 72 (0, 0))) => blk_grown (HK.out k cs h) hsg_ (Kd.R_ne HQ.out (HK.out k cs h) (by decide)))
       clear BX HO HQ HB HS BK HK hsr_ hsg_ hle_ HLT
       generalize World.setCell _ ⟨gr, (q1.g.length) * 4 + 3, none⟩ (.int .i64 ((q3.s.length : Int) + 1)) = w4 at n0_ m1_ m2_ n3_ n4_ n5_ n6_ ⊢
       have BX := n0_
       have HO := m1_
       have HQ_ := m2_
       have HB := n3_
       have HS := n4_
       have BK := n5_
       have HK := n6_
       clear n0_ m1_ m2_ n3_ n4_ n5_ n6_
       have BX : Aside0 (Ls.St 105 w0.heap.size gb w4 q5 A1_ c1_ (some ⟨gr, 0, none⟩) c2_) := ⟨by unfold Ls.St; rw [es_, eg_, en_, List.length_set]; exact BX.out⟩
       have HQ : Aside0 (k63.R 63 w4 w0.heap.size (fun _ => True) (.slice (some ⟨gr, 0, none⟩) q5.g.length c2_) q5.g) := ⟨by rw [eg_, List.length_set]; exact HQ_.out⟩
       have HO : Aside0 (k86.R 86 w4 w0.heap.size (fun _ => True) (.slice A1_ q5.s.length c1_) q5.s) := ⟨by rw [es_]; exact HO.out⟩
       clear HQ_ es_ eg_ en_
       obtain ⟨hcz0, hfz0, hcz1, hfz1, hcz2, hfz2⟩ := bk3 BK.out; obtain ⟨hbz0, hbf0, hbz1, hbf1, hbz2, hbf2⟩ := bk3 BX.out
       obtain ⟨ha1, hb1, hd1⟩ := HC1.out _ (HB0.out.trans HB.out)
       simp only [Nat.zero_mul, Nat.one_mul, Ls.add0, Ls.add3] at ha1 hb1 hd1
       go_upto_region 27 with (first | (go_at_call 67; (with_reducible refine (HOK1.out _ _ _ _ _ _ _ HGS.out (HB0.out.trans HB.out) BX.out HO.out HQ.out B6.out).mono ?_); rintro e w5 ⟨rfl, ⟨A1_, c1_, A2_, c2_, hbx_, ho_, hq_, hb_⟩, hk_⟩; have n0_ := Aside0.mk hbx_; have n1_ := Aside0.mk ho_; have n2_ := Aside0.mk hq_; have n3_ := Aside0.mk (HB.out.trans hb_); have n4_ := Aside0.mk (Nat.le_trans HS.out hb_.size); have n5_ := Aside0.mk (hk_ _ _ BK.out); have n6_ : Aside0 (∀ (k : Nat) (cs : Array Value), w.heap[k]? = some (.cells cs 72 (0, 0)) → w5.heap[k]? = some (.cells cs 72 (0, 0))) := ⟨fun k cs h => hk_ k cs (HK.out k cs h)⟩; clear ha1 hb1 hd1 BX HO HQ HB HS BK HK hcz0 hfz0 hcz1 hfz1 hcz2 hfz2 hbz0 hbf0 hbz1 hbf1 hbz2 hbf2 hbx_ ho_ hq_ hb_ hk_; have BX := n0_; have HO := n1_; have HQ := n2_; have HB := n3_; have HS := n4_; have BK := n5_; have HK := n6_; clear n0_ n1_ n2_ n3_ n4_ n5_ n6_; obtain ⟨hcz0, hfz0, hcz1, hfz1, hcz2, hfz2⟩ := bk3 BK.out; obtain ⟨hbz0, hbf0, hbz1, hbf1, hbz2, hbf2⟩ := bk3 BX.out))
       obtain ⟨hl_, es_, eg_, en_⟩ := Ls.put_some B7.out
       have HL := Aside0.mk hl_
       clear hl_
       go_upto_region 28 with (first | ((with_reducible refine gate_builtin (b := .append) (xs := #[.tmp 186, .tmp 189]) rfl ?_); at_builtin; refine Kd.R_append k86 (w0 := w) w0.heap.size rfl (.tmp 186) (.tmp 189) 35 86 (.agg #[.int .i64 0, .int .i64 0, .int .i64 0]) 24 rfl Try.underlying35 Ls.info86 rfl (by decide) (by omega) (.slice A1_ q6.s.length c1_) q6.s (⟨3, (q1.g.length : Nat), 0⟩ : S86) [.int .i64 3, .int .i64 (q1.g.length : Nat), .int .i64 0] (fun _ => True) (fun _ => False) rfl (by first | (go_simp; done) | (go_simp; rfl)) ?aP (fun _ hk => hk.elim) (fun _ _ => trivial) ?aO ?aB ?aS ?aL ?_; (case aP => exact k86_mkM _ _ _ (⟨3, (q1.g.length : Nat), 0⟩ : S86)); (case aO => exact lR HO.out); (case aB => exact HB.out); (case aS => exact HS.out); (case aL => have := HL.out; omega); intro v6 w6 ho hb hg hat; clear hcz0 hfz0 hcz1 hfz1 hcz2 hfz2 hbz0 hbf0 hbz1 hbf1 hbz2 hbf2; have n0_ := Aside0.mk (blk_grown (lK BX.out) hg (Kd.R_ne HO.out BX.out (by decide))); have m_ := Aside0.mk (Kd.R_over (lR HQ.out) HO.out (by decide) hg); have n4_ := Aside0.mk (Nat.le_trans HS.out hg.size); have n5_ := Aside0.mk (blk_grown (lK BK.out) hg (Kd.R_ne HO.out BK.out (by decide))); have n6_ : Aside0 (∀ (k : Nat) (cs : Array Value), w.heap[k]? = some (.cells cs 72 (0, 0)) → w6.heap[k]? = some (.cells cs 72 (0, 0))) := ⟨fun k cs h => blk_grown (HK.out k cs h) hg (Kd.R_ne HO.out (HK.out k cs h) (by decide))⟩; clear BX HO HQ HB HS BK HK; have BX := n0_; have HQ := m_; have HO := Aside0.mk ho; have HB := Aside0.mk hb; have HS := n4_; have BK := n5_; have HK := n6_; clear n0_ m_ n4_ n5_ n6_ ho hb hg hat; obtain ⟨Ap, cp, ep⟩ := Kd.R_slice HO.out; subst ep; obtain ⟨hcz0, hfz0, hcz1, hfz1, hcz2, hfz2⟩ := bk3 BK.out; obtain ⟨hbz0, hbf0, hbz1, hbf1, hbz2, hbf2⟩ := bk3 BX.out))
       clear HL hcz0 hfz0 hcz1 hfz1 hcz2 hfz2 hbz0 hbf0 hbz1 hbf1 hbz2 hbf2
       have n0_ := Aside0.mk (blk_put (cs := #[.slice A1_ q6.s.length c1_, .slice A2_ q6.g.length c2_, .int .i64 q6.n]) BX.out 0 (.slice Ap (q6.s.length + 1) cp) rfl)
       have n1_ := Aside0.mk (Kd.R_set HO.out BX.out (by decide) 0 (.slice Ap (q6.s.length + 1) cp))
       have n2_ := Aside0.mk (Kd.R_set HQ.out BX.out (by decide) 0 (.slice Ap (q6.s.length + 1) cp))
       have n3_ := Aside0.mk (HB.out.setCell (p := ⟨gb, 0, none⟩) HGS.out (.slice Ap (q6.s.length + 1) cp))
       have n4_ := Aside0.mk (show w0.heap.size ≤ (World.setCell w6 ⟨gb, 0, none⟩ (.slice Ap (q6.s.length + 1) cp)).heap.size from Nat.le_trans HS.out (by simp [World.setCell]))
       have n5_ := Aside0.mk (blk_far BK.out (p := ⟨gb, 0, none⟩) (blk_ne BK.out BX.out (by decide)) (.slice Ap (q6.s.length + 1) cp))
       have n6_ : Aside0 (∀ (k : Nat) (cs : Array Value), w.heap[k]? = some (.cells cs 72 (0, 0)) → (World.setCell w6 ⟨gb, 0, none⟩ (.slice Ap (q6.s.length + 1) cp)).heap[k]? = some (.cells cs 72 (0, 0))) := ⟨fun k cs h => blk_far (HK.out k cs h) (p := ⟨gb, 0, none⟩) (blk_ne (HK.out k cs h) BX.out (by decide)) (.slice Ap (q6.s.length + 1) cp)⟩
       clear BX HO HQ HB HS BK HK
       generalize World.setCell w6 ⟨gb, 0, none⟩ (.slice Ap (q6.s.length + 1) cp) = w7 at n0_ n1_ n2_ n3_ n4_ n5_ n6_ ⊢
       have BX := n0_
       have HO := n1_
       have HQ := n2_
       have HB := n3_
       have HS := n4_
       have BK := n5_
       have HK := n6_
       clear n0_ n1_ n2_ n3_ n4_ n5_ n6_
       have BX : Aside0 (Ls.St 105 w0.heap.size gb w7 q7 Ap cp A2_ c2_) := ⟨by unfold Ls.St; rw [es_, eg_, en_, List.length_append]; exact BX.out⟩
       have HO : Aside0 (k86.R 86 w7 w0.heap.size (fun _ => True) (.slice Ap q7.s.length cp) q7.s) := ⟨by rw [es_]; exact HO.out⟩
       have HQ : Aside0 (k63.R 63 w7 w0.heap.size (fun _ => True) (.slice A2_ q7.g.length c2_) q7.g) := ⟨by rw [eg_]; exact HQ.out⟩
       clear es_ eg_ en_
       obtain ⟨hcz0, hfz0, hcz1, hfz1, hcz2, hfz2⟩ := bk3 BK.out; obtain ⟨hbz0, hbf0, hbz1, hbf1, hbz2, hbf2⟩ := bk3 BX.out
       obtain ⟨A1_, eA_⟩ : ∃ A1_, A1_ = Ap := ⟨_, rfl⟩
       obtain ⟨c1_, ec_⟩ : ∃ c1_, c1_ = cp := ⟨_, rfl⟩
       subst eA_
       subst ec_
       obtain ⟨hlt_, es_, eg_, en_⟩ := Ls.setT_some B8.out
       have HLT := Aside0.mk hlt_
       obtain ⟨gr, cr, ef_, hgr_, hgr2_, hgr3_⟩ := Kd.R_form HO.out (Nat.lt_of_le_of_lt (Nat.zero_le _) hlt_)
       injection ef_ with ef1_ ef2_ ef3_
       subst ef1_
       subst ef3_
       clear ef2_ hgr_ hgr2_ hgr3_
       obtain ⟨hsc_, hsf_, hsr_, hsg_⟩ := Ls.cell86 HO.out hlt_ ((q7.s.length : Nat) : Int)
       clear hsr_ hsg_
       have hi0_ : (0 : Int) ≤ ((q3.s.length : Nat) : Int) := Int.natCast_nonneg _
       have hi1_ : ((q3.s.length : Nat) : Int) < ((q7.s.length : Nat) : Int) := Int.ofNat_lt.mpr hlt_
       refine start_ (n := 13) (S := fun w' => w'.cell? ⟨gb, 0, none⟩ = some (.slice (some ⟨gr, 0, none⟩) q7.s.length c1_) ∧ w'.cell? ⟨gb, 1, none⟩ = some (.slice A2_ q7.g.length c2_) ∧ w'.cell? ⟨gr, (q3.s.length) * 3 + 2, none⟩ = some (.int .i64 (rd_T86 q7.s (q3.s.length : Nat)).f2) ∧ w'.frozen? ⟨gr, (q3.s.length) * 3 + 2, none⟩ = false) (ds := [12]) (bs 13 0) kR rfl kR ⟨hbz0, hbz1, hsc_, hsf_⟩ (fun hHeld => ?_)
       have n0_ := Aside0.mk (blk_drew BX.out)
       have n1_ := Aside0.mk (Kd.R_drew HO.out)
       have n2_ := Aside0.mk (Kd.R_drew HQ.out)
       have n3_ := Aside0.mk HB.out.drew
       have n4_ : Aside0 (w0.heap.size ≤ (World.drew _).heap.size) := HS
       have n5_ := Aside0.mk (blk_drew BK.out)
       have n6_ : Aside0 (∀ (k : Nat) (cs : Array Value), w.heap[k]? = some (.cells cs 72 (0, 0)) → (World.drew _).heap[k]? = some (.cells cs 72 (0, 0))) := ⟨fun k cs h => blk_drew (HK.out k cs h)⟩
       clear BX HO HQ HB HS BK HK hsc_ hsf_ hcz0 hfz0 hcz1 hfz1 hcz2 hfz2 hbz0 hbf0 hbz1 hbf1 hbz2 hbf2
       generalize hwd_ : World.drew _ = w3 at n0_ n1_ n2_ n3_ n4_ n5_ n6_ hHeld ⊢
       clear hwd_
       have BX := n0_
       have HO := n1_
       have HQ := n2_
       have HB := n3_
       have HS := n4_
       have BK := n5_
       have HK := n6_
       clear n0_ n1_ n2_ n3_ n4_ n5_ n6_
       refine pur_ 0 193 (bs 13 1) kR ?_
       refine pur_ 1 194 (bs 13 3) kR ?_
       refine pur_ 2 195 (bs 13 7) kR ?_
       refine pur_ 4 197 (bs 13 23) kR ?_
       refine pur_ 5 198 (bs 13 55) kR ?_
       refine pur_ 6 199 (bs 13 119) kR ?_
       refine pur_ 7 200 (bs 13 247) kR ?_
       refine tak_ 3 196 (bs 13 255) kR hHeld ?_
       refine tak_ 8 201 (bs 13 511) kR hHeld ?_
       refine pur_ 9 202 (bs 13 1023) kR ?_
       refine pur_ 10 203 (bs 13 2047) kR ?_
       refine pur_ 11 204 (bs 13 4095) kR ?_
       refine last_ (i := 12) (N := none) (bs 13 8191) rfl rfl kR (by decide) (fun K hK => ?_)
       have hs0_ := hHeld.2.2.1
       have hs1_ := hHeld.2.2.2
       refine skip_ (w1 := World.setCell _ ⟨gr, (q3.s.length) * 3 + 2, none⟩ (.int .i64 ((q7.s.length : Nat) : Int))) (by rfl) rfl (by first | (go_simp; done) | (go_simp; rfl)) ?_
       refine hK.out _ _ ?_
       clear hK K
       refine done_ kR ?_
       clear hHeld hs0_ hs1_ hi0_ hi1_ hlt_
       obtain ⟨_, _, hsr_, hsg_⟩ := Ls.cell86 HO.out HLT.out ((q7.s.length : Nat) : Int)
       have hle_ : w0.heap.size ≤ gr := Kd.R_base HO.out gr rfl
       have n0_ := Aside0.mk (blk_grown (lK BX.out) hsg_ (Kd.R_ne HO.out BX.out (by decide)))
       have m1_ := Aside0.mk (Kd.R_over HQ.out HO.out (by decide) hsg_)
       have m2_ := Aside0.mk hsr_
       have n3_ := Aside0.mk (HB.out.setCell (p := ⟨gr, (q3.s.length) * 3 + 2, none⟩) hle_ (.int .i64 ((q7.s.length : Nat) : Int)))
       have n4_ := Aside0.mk (Nat.le_trans HS.out hsg_.size)
       have n5_ := Aside0.mk (blk_grown (lK BK.out) hsg_ (Kd.R_ne HO.out BK.out (by decide)))
       have n6_ := Aside0.mk (fun (k : Nat) (cs : Array Value) (h : w.heap[k]? = some (.cells cs 72 (0, 0))) => blk_grown (HK.out k cs h) hsg_ (Kd.R_ne HO.out (HK.out k cs h) (by decide)))
       clear BX HO HQ HB HS BK HK hsr_ hsg_ hle_ HLT
       generalize World.setCell _ ⟨gr, (q3.s.length) * 3 + 2, none⟩ (.int .i64 ((q7.s.length : Nat) : Int)) = w4 at n0_ m1_ m2_ n3_ n4_ n5_ n6_ ⊢
       have BX := n0_
       have HQ := m1_
       have HQ_ := m2_
       have HB := n3_
       have HS := n4_
       have BK := n5_
       have HK := n6_
       clear n0_ m1_ m2_ n3_ n4_ n5_ n6_
       have BX : Aside0 (Ls.St 105 w0.heap.size gb w4 r (some ⟨gr, 0, none⟩) c1_ A2_ c2_) := ⟨by unfold Ls.St; rw [es_, eg_, en_, List.length_set]; exact BX.out⟩
       have HO : Aside0 (k86.R 86 w4 w0.heap.size (fun _ => True) (.slice (some ⟨gr, 0, none⟩) r.s.length c1_) r.s) := ⟨by rw [es_, List.length_set]; exact HQ_.out⟩
       have HQ : Aside0 (k63.R 63 w4 w0.heap.size (fun _ => True) (.slice A2_ r.g.length c2_) r.g) := ⟨by rw [eg_]; exact HQ.out⟩
       clear HQ_ es_ eg_ en_
       obtain ⟨hcz0, hfz0, hcz1, hfz1, hcz2, hfz2⟩ := bk3 BK.out; obtain ⟨hbz0, hbf0, hbz1, hbf1, hbz2, hbf2⟩ := bk3 BX.out
       go_wp2
       refine Ls.ret0 rfl rfl ?_
       exact ⟨rfl, ⟨_, _, _, _, BX.out, HO.out, HQ.out, HB.out⟩, HK.out⟩
      ·rw [if_neg k5] at h
       cases h
theorem spec_l16L_lay.calls : ∀ (t : S72) (w0 : World) (gb : Nat) (A : Option Addr) (c : Nat), Kd.C k72 w0 A t.f2.length t.f2 → Ls.Ok w0 gb (Ls.lay t) t.f0 t.f1 A t.f2.length c := by
 intro t
 induction hN : SizeOf.sizeOf t using Nat.strongRecOn generalizing t with
 | _ N ih =>
 subst hN
 intro w0 gb A c h
 obtain ⟨kd, n, ks⟩ := t
 have e : Ls.lay ⟨kd, n, ks⟩ = Ls.node kd n (Ls.lays ks) := by funext q; unfold Ls.lay; rfl
 rw [e]
 simp only at h ⊢
 refine Ls.node_ok ⟨fun i f hf => ?_⟩
 obtain ⟨t, ht, rfl⟩ := Ls.lays_at ks i f hf
 have hil : i < ks.length := by
  by_cases hl : i < ks.length
  ·exact hl
  ·rw [List.getElem?_eq_none (by omega)] at ht; cases ht
 obtain ⟨ad, A2, c2, e1, h1, h2, h3, h4, h5⟩ := at_T72 h (i : Int) (by omega) (by omega)
 have e2 : rd_T72 ks (i : Int) = t := by unfold rd_T72; rw [Int.toNat_natCast, List.getD, ht]; rfl
 rw [e2, Int.toNat_natCast] at h1 h2 h3
 rw [e2] at h4 h5
 refine ⟨hil, ad, t.f0, t.f1, A2, t.f2.length, c2, e1, h1, h2, h3, ih (SizeOf.sizeOf t) ?_ t rfl w0 gb A2 c2 h5⟩
 have hm : t ∈ ks := List.mem_of_getElem? ht
 have := List.sizeOf_lt_of_mem hm
 simp
 omega


end Go.Proofs.Ytgjojppbichaiaa.Q
