/- An element lent out of a row whose elements lie apart, its cells stored into, its inner row handed over, and put back. Conditions: none. -/
import Derived.Test.YtpoddnhfnphdcaaWApart
import Derived.Test.YtpoddnhfnphdcaaWKept
import Derived.Test.YtpoddnhfnphdcaaWLast
import Derived.Test.YtpoddnhfnphdcaaWMore
set_option linter.unusedVariables false
namespace Go.Proofs.Ytpoddnhfnphdcaa.Mk
open Go.RowKit Go.Proofs.YtpoddnhfnphdcaaW.PrintWords

section
variable {α β : Type} {d : Kd α} {e : Nat} {di : Kd β} {ei : Nat} {w0 wS W w1 : World} {P : Nat → Prop} {g n cap : Nat} {xs : List α} {i : Nat} {v : Value} {ys ys' : List β} {c : List Value}

/-- Element i is lent: its cells are c, its inner row is v. -/
def Hole (d : Kd α) (e : Nat) (di : Kd β) (ei : Nat) (w0 wS : World) (P : Nat → Prop) (g n cap : Nat) (xs : List α) (i : Nat) (v : Value) (ys : List β) (c : List Value) (W : World) : Prop :=
  ∃ oki : Nat → Prop, Kd.H d e W w0.heap.size P (.slice (some ⟨g, 0, none⟩) n cap) xs (i : Int) oki c ∧ di.R ei W w0.heap.size oki v ys ∧ (∀ k, oki k → P k ∧ k ≠ g) ∧ P g ∧ w0.heap.size ≤ g ∧ i < n ∧ Below w0.heap.size w0 W ∧ Kept wS W P

theorem hole_open (z x : α) (cf : Value → List Value) (hS : Kd.S d e W w0.heap.size P (.slice (some ⟨g, 0, none⟩) n cap) xs) (hB : Below w0.heap.size w0 W) (hK : Kept wS W P) (hi : i < n) (hx : xs.getD i z = x)
    (hopen : ∀ (base : Nat) (ok : Nat → Prop) (cs : List Value), d.M W base ok x cs → ∃ v, cs = cf v ∧ di.R ei W base ok v ys) :
    ∃ v, Hole d e di ei w0 wS P g n cap xs i v ys (cf v) W := by
  obtain ⟨oki, c, hcl, hM, hcc, hfr, hoki, hH⟩ := Kd.S_elem hS z (i : Int) (by omega) (by omega)
  rw [Int.toNat_natCast, hx] at hM
  obtain ⟨v, rfl, hR⟩ := hopen _ _ _ hM
  have hgP : P g := by
    obtain ⟨f, hR⟩ := hS
    exact hR.1 g (by simp [Value.ownBlock])
  exact ⟨v, oki, hH, hR, hoki, hgP, Kd.S_base hS g (by simp [Value.ownBlock]), hi, hB, hK⟩

theorem hole_store {sz : Nat} (hsz : d.sz = sz) (h : Hole d e di ei w0 wS P g n cap xs i v ys c W) (j : Nat) (hj : j < sz) (u : Value) (hu : u.oneCell' = true) :
    Hole d e di ei w0 wS P g n cap xs i v ys (c.set j u) (W.setCell ⟨g, i * sz + j, none⟩ u) := by
  subst hsz
  obtain ⟨oki, hH, hR, hoki, hgP, hgb, hi, hB, hK⟩ := h
  have hcl : c.length = d.sz := by
    obtain ⟨_, _, _, hcl, _⟩ := Kd.H_raw hH (by omega) (by omega)
    exact hcl
  obtain ⟨h1, h2⟩ := Kd.H_seg hH (by omega) (by omega) (seg := [u]) (j := j) (by simp; omega) (by simpa using hu)
  have hc : c.take j ++ [u] ++ c.drop (j + 1) = c.set j u := by
    rw [List.set_eq_take_append_cons_drop, if_pos (by omega)]; simp
  simp only [Int.toNat_natCast, World.setCells, List.length_cons, List.length_nil, Nat.zero_add, hc] at h1 h2
  exact ⟨oki, h1, Kd.R_grown hR h2 (fun k hk he => (hoki k hk).2 (by injection he)), hoki, hgP, hgb, hi, below_set hB hgb, Kept.of_grown h2 hK (fun k hk => .inl (by injection hk with hk; subst hk; exact hgP))⟩

theorem hole_cells {sz : Nat} (hsz : d.sz = sz) (h : Hole d e di ei w0 wS P g n cap xs i v ys c W) (j : Nat) (u : Value) (hu : c[j]? = some u) : W.cell? ⟨g, i * sz + j, none⟩ = some u ∧ W.frozen? ⟨g, i * sz + j, none⟩ = false := by
  subst hsz
  obtain ⟨oki, hH, _, _, _, _, hi, _⟩ := h
  obtain ⟨rows, _, hraw, hcl, _, hcc, _⟩ := Kd.H_raw hH (by omega) (by omega)
  refine ⟨by have := hcc j u hu; rwa [Int.toNat_natCast] at this, ?_⟩
  obtain ⟨_, _, _, _, hfr⟩ := Kd.R_elem hraw [] (i : Int) (by omega) (by omega)
  have := hfr j
  rwa [Int.toNat_natCast] at this

theorem hole_call {Pg : Program} {f : FuncId} {args : Array Value} {E : Ending} (h : Hole d e di ei w0 wS P g n cap xs i v ys c W)
    (hc : ∀ oki : Nat → Prop, Below w0.heap.size w0 W → di.R ei W w0.heap.size oki v ys → Calls Pg f args W fun e' w' => e' = E ∧ di.R ei w' w0.heap.size (fun k => oki k ∨ W.heap.size ≤ k) v ys' ∧ Below w0.heap.size w0 w' ∧ Kept W w' (fun k => oki k)) (hE : di.E = []) :
    Calls Pg f args W fun e' w' => e' = E ∧ Hole d e di ei w0 wS P g n cap xs i v ys' c w' := by
  obtain ⟨oki, hH, hR, hoki, hgP, hgb, hi, hB, hK⟩ := h
  refine (hc oki hB hR).mono fun e' w' ⟨he, hR2, hB2, hK2⟩ => ⟨he, oki, ?_, ?_, hoki, hgP, hgb, hi, hB2, ?_⟩
  · exact Kd.H_step hH (fun k _ hk hlt => hK2.2 k hlt hk)
  · exact Kd.R_mono (Kd.R_tight hE hR2) (fun k hk => hR.1 k hk.symm)
  · exact hK.then_ hK2 (fun k hk => .inl (hoki k hk).1)

theorem hole_close (h : Hole d e di ei w0 wS P g n cap xs i v ys c W) (x' : α) (hmk : ∀ (base : Nat) (ok : Nat → Prop), di.R ei W base ok v ys → d.M W base ok x' c) :
    Kd.S d e W w0.heap.size P (.slice (some ⟨g, 0, none⟩) n cap) (xs.set i x') ∧ Below w0.heap.size w0 W ∧ Kept wS W P := by
  obtain ⟨oki, hH, hR, hoki, hgP, hgb, hi, hB, hK⟩ := h
  refine ⟨?_, hB, hK⟩
  have := Kd.H_back hH (hmk _ _ hR) (fun k hk => hk)
  rwa [Int.toNat_natCast] at this
end
end Go.Proofs.Ytpoddnhfnphdcaa.Mk

/-! short names -/
namespace Go.Proofs.Ytpoddnhfnphdcaa.Q
open Go.RowKit Go.Proofs.YtpoddnhfnphdcaaW.PrintWords Go.Proofs.YtpoddnhfnphdcaaW.PrintLast
theorem bN {w : World} {g : Nat} {o : Obj} (h : w.heap[g]? = some o) (n : Nat) : (w.drewN n).heap[g]? = some o := blk_drewN h n
theorem bD {w : World} {g : Nat} {o : Obj} (h : w.heap[g]? = some o) : w.drew.heap[g]? = some o := blk_drew h
theorem bA {w : World} {g : Nat} {o : Obj} (h : w.heap[g]? = some o) (o' : Obj) : (w.alloc o').heap[g]? = some o := blk_alloc h o'
theorem bc0 {w : World} {g : Nat} {t : TypeId} {v0 : Value} {vs : List Value} (h : w.heap[g]? = some (.cells (v0 :: vs).toArray t (0, 0))) : w.cell? ⟨g, 0, none⟩ = some v0 := (blk_cell h 0).trans rfl
theorem bc1 {w : World} {g : Nat} {t : TypeId} {v0 v1 : Value} {vs : List Value} (h : w.heap[g]? = some (.cells (v0 :: v1 :: vs).toArray t (0, 0))) : w.cell? ⟨g, 1, none⟩ = some v1 := (blk_cell h 1).trans rfl
theorem bc2 {w : World} {g : Nat} {t : TypeId} {v0 v1 v2 : Value} {vs : List Value} (h : w.heap[g]? = some (.cells (v0 :: v1 :: v2 :: vs).toArray t (0, 0))) : w.cell? ⟨g, 2, none⟩ = some v2 := (blk_cell h 2).trans rfl
theorem bc3 {w : World} {g : Nat} {t : TypeId} {v0 v1 v2 v3 : Value} {vs : List Value} (h : w.heap[g]? = some (.cells (v0 :: v1 :: v2 :: v3 :: vs).toArray t (0, 0))) : w.cell? ⟨g, 3, none⟩ = some v3 := (blk_cell h 3).trans rfl
theorem bc4 {w : World} {g : Nat} {t : TypeId} {v0 v1 v2 v3 v4 : Value} {vs : List Value} (h : w.heap[g]? = some (.cells (v0 :: v1 :: v2 :: v3 :: v4 :: vs).toArray t (0, 0))) : w.cell? ⟨g, 4, none⟩ = some v4 := (blk_cell h 4).trans rfl
theorem bc5 {w : World} {g : Nat} {t : TypeId} {v0 v1 v2 v3 v4 v5 : Value} {vs : List Value} (h : w.heap[g]? = some (.cells (v0 :: v1 :: v2 :: v3 :: v4 :: v5 :: vs).toArray t (0, 0))) : w.cell? ⟨g, 5, none⟩ = some v5 := (blk_cell h 5).trans rfl
theorem bc6 {w : World} {g : Nat} {t : TypeId} {v0 v1 v2 v3 v4 v5 v6 : Value} {vs : List Value} (h : w.heap[g]? = some (.cells (v0 :: v1 :: v2 :: v3 :: v4 :: v5 :: v6 :: vs).toArray t (0, 0))) : w.cell? ⟨g, 6, none⟩ = some v6 := (blk_cell h 6).trans rfl
theorem bc7 {w : World} {g : Nat} {t : TypeId} {v0 v1 v2 v3 v4 v5 v6 v7 : Value} {vs : List Value} (h : w.heap[g]? = some (.cells (v0 :: v1 :: v2 :: v3 :: v4 :: v5 :: v6 :: v7 :: vs).toArray t (0, 0))) : w.cell? ⟨g, 7, none⟩ = some v7 := (blk_cell h 7).trans rfl
theorem bc8 {w : World} {g : Nat} {t : TypeId} {v0 v1 v2 v3 v4 v5 v6 v7 v8 : Value} {vs : List Value} (h : w.heap[g]? = some (.cells (v0 :: v1 :: v2 :: v3 :: v4 :: v5 :: v6 :: v7 :: v8 :: vs).toArray t (0, 0))) : w.cell? ⟨g, 8, none⟩ = some v8 := (blk_cell h 8).trans rfl
theorem bc9 {w : World} {g : Nat} {t : TypeId} {v0 v1 v2 v3 v4 v5 v6 v7 v8 v9 : Value} {vs : List Value} (h : w.heap[g]? = some (.cells (v0 :: v1 :: v2 :: v3 :: v4 :: v5 :: v6 :: v7 :: v8 :: v9 :: vs).toArray t (0, 0))) : w.cell? ⟨g, 9, none⟩ = some v9 := (blk_cell h 9).trans rfl
end Go.Proofs.Ytpoddnhfnphdcaa.Q
