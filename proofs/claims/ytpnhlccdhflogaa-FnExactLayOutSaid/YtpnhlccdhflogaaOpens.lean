/- What an argument's cells read as, told in the kinds of the printed contracts: whole numbers, bools, slices, structs. Conditions: none. -/
import Derived.Deep.Slices
import Derived.WideShapes
import Derived.Test.YtpnhlccdhflogaaWWords
set_option linter.unusedVariables false
namespace Go.Proofs.Ytpnhlccdhflogaa.Opens
open Go.ChangeShapes Go.WideShapes Go.Deep Go.RowKit Go.Proofs.YtpnhlccdhflogaaW.PrintWords

/-- Cells that read as a datum of type t are cells of kind d, and what they hold fits p. -/
def CellsTell {α : Type} (P : Program) (t : TypeId) (d : Kd α) (p : α → Prop) : Prop :=
  ∀ (H : Type) (enc : TypeId × Value → H) (w : World) (base : Nat) (spare : Nat → Bool) (held : Bool) (fuel : Nat) (cs : List Value) (x : DataW H × List MemPlace),
    DataW.trod enc P w base spare held fuel t cs = some x → ∃ y, d.K w y cs ∧ p y

theorem op_int {P : Program} {t : TypeId} {k : IntKind} (ht : P.underlying t = some (.int k)) : CellsTell P t (Kd.int k) (fun n => (Lit.int k n).wf = true) :=
  fun _ _ _ _ _ _ _ _ _ h => by
    obtain ⟨n, rfl, rfl, hw⟩ := DataW.trod_int ht h
    exact ⟨n, rfl, hw⟩

theorem op_bool {P : Program} {t : TypeId} (ht : P.underlying t = some .bool) : CellsTell P t Kd.bool (fun _ => True) :=
  fun _ _ _ _ _ _ _ _ _ h => by
    obtain ⟨n, rfl, rfl⟩ := DataW.trod_bool ht h
    exact ⟨n, rfl, trivial⟩

theorem op_slice {α : Type} {P : Program} {t e : TypeId} {d : Kd α} {p : α → Prop} (ht : P.underlying t = some (.slice e)) (hs : P.cellsOf e = d.sz) (hd : CellsTell P e d p) :
    CellsTell P t (Kd.slice e d) (fun xs => xs.length ≤ maxLen ∧ ∀ x ∈ xs, p x) :=
  fun H enc w base spare held fuel cs x h => by
    rcases open_slice ht h with ⟨rfl, rfl⟩ | ⟨a, len, cap, m, n, D, Pl, rfl, hb, hl, hm, hmm, rfl, hx⟩
    · exact ⟨[], ⟨none, 0, rfl, Nat.le_refl _, Kd.C_nil _ _⟩, by simp [maxLen], by simp⟩
    · have hlm : len ≤ m := by rw [hmm]; split <;> omega
      have key : ∀ q, q ≤ len → ∃ ys : List α, ys.length = q ∧ (∀ y ∈ ys, p y) ∧ ∀ j y, ys[j]? = some y → ∃ c, c.length = d.sz ∧ d.K w y c ∧ ∀ i u, c[i]? = some u → w.cell? (a.add (j * d.sz + i)) = some u := by
        intro q
        induction q with
        | zero => exact fun _ => ⟨[], rfl, by simp, fun j y hy => by simp at hy⟩
        | succ q ih =>
          intro hq
          obtain ⟨ys, hl2, hp2, hc2⟩ := ih (by omega)
          obtain ⟨cs', hcs, htr⟩ := hx q (by omega)
          obtain ⟨y, hK, hpy⟩ := hd H enc w base spare held n cs' _ htr
          obtain ⟨_, hlen, hcell⟩ := World.cells?_some hcs
          refine ⟨ys ++ [y], by simp [hl2], ?_, ?_⟩
          · intro z hz
            rcases List.mem_append.1 hz with hz | hz
            · exact hp2 z hz
            · rw [List.mem_singleton.1 hz]; exact hpy
          · intro j z hz
            by_cases hj : j < ys.length
            · rw [List.getElem?_append_left hj] at hz
              exact hc2 j z hz
            · rw [List.getElem?_append_right (by omega)] at hz
              have hj0 : j - ys.length = 0 := by
                by_cases h0 : j - ys.length = 0
                · exact h0
                · rw [List.getElem?_eq_none (by simp; omega)] at hz; cases hz
              have hjq : j = q := by omega
              subst hjq
              rw [hj0] at hz
              simp at hz
              subst hz
              refine ⟨cs', by rw [hlen, hs], hK, fun i u hu => ?_⟩
              have hi : i < cs'.length := by
                by_cases hi : i < cs'.length
                · exact hi
                · rw [List.getElem?_eq_none (by omega)] at hu; cases hu
              rw [← hu, ← hcell i (by omega), Go.Deep.add_add, hs]
      obtain ⟨ys, hl2, hp2, hc2⟩ := key len (Nat.le_refl _)
      have hmx : len ≤ maxLen := Nat.le_trans hl hm
      refine ⟨ys, ⟨some a, cap, by rw [hl2], by rw [hl2]; exact hl, ?_⟩, by rw [hl2]; exact hmx, hp2⟩
      exact ⟨rfl, by rw [hl2]; simpa [maxLen] using hmx, fun _ => ⟨a, rfl, hc2⟩⟩

/-- The fields of a struct from one on, at an offset. -/
def OpFs {α : Type} (P : Program) (fs : List Field) (o : Nat) (d : Kd α) (p : α → Prop) : Prop :=
  ∀ (H : Type) (enc : TypeId × Value → H) (w : World) (base : Nat) (spare : Nat → Bool) (held : Bool) (fuel : Nat) (cs : List Value),
    (∀ f ∈ fs, ∃ x, DataW.trod enc P w base spare held fuel f.type ((cs.drop f.offset).take (P.cellsOf f.type)) = some x) → cs.length = o + d.sz → ∃ y, d.K w y (cs.drop o) ∧ p y

theorem opfs_one {α : Type} {P : Program} {f : Field} {o : Nat} {d : Kd α} {p : α → Prop} (ho : f.offset = o) (hs : P.cellsOf f.type = d.sz) (hd : CellsTell P f.type d p) : OpFs P [f] o d p :=
  fun H enc w base spare held fuel cs h hl => by
    obtain ⟨x, hx⟩ := h f (by simp)
    rw [ho, hs, List.take_of_length_le (by rw [List.length_drop]; omega)] at hx
    exact hd H enc w base spare held fuel _ x hx

theorem opfs_cons {α β : Type} {P : Program} {f : Field} {fs : List Field} {o o1 : Nat} {d : Kd α} {d1 : Kd β} {p : α → Prop} {p1 : β → Prop} (ho : f.offset = o) (hs : P.cellsOf f.type = d.sz) (ho1 : o1 = o + d.sz) (hd : CellsTell P f.type d p) (hr : OpFs P fs o1 d1 p1) :
    OpFs P (f :: fs) o (Kd.pair d d1) (fun x => p x.1 ∧ p1 x.2) :=
  fun H enc w base spare held fuel cs h hl => by
    have hsz : (Kd.pair d d1).sz = d.sz + d1.sz := rfl
    obtain ⟨x, hx⟩ := h f (by simp)
    rw [ho, hs] at hx
    obtain ⟨y, hK, hp⟩ := hd H enc w base spare held fuel _ x hx
    obtain ⟨y1, hK1, hp1⟩ := hr H enc w base spare held fuel cs (fun g hg => h g (List.mem_cons_of_mem _ hg)) (by omega)
    subst ho1
    refine ⟨(y, y1), ⟨(cs.drop o).take d.sz, cs.drop (o + d.sz), ?_, hK, hK1⟩, hp, hp1⟩
    rw [← List.drop_drop, List.take_append_drop]

theorem op_struct {α β : Type} {P : Program} {t : TypeId} {fs : Array Field} {d : Kd α} {p : α → Prop} (f : β → α) (g : α → β) (hfg : ∀ a, f (g a) = a) (ht : P.underlying t = some (.struct fs)) (hs : P.cellsOf t = d.sz) (hd : OpFs P fs.toList 0 d p) :
    CellsTell P t (Kd.iso d f) (fun b => p (f b)) :=
  fun H enc w base spare held fuel cs x h => by
    obtain ⟨xs, n, _, rfl, hl, hlen, hf⟩ := DataW.trod_struct ht h
    obtain ⟨y, hK, hp⟩ := hd H enc w base spare held n cs (fun f hfm => by
      obtain ⟨i, hi, rfl⟩ := List.mem_iff_getElem.1 hfm
      have hi2 : i < fs.size := by simpa using hi
      have h1 := hf i fs[i] (by simp [hi2])
      rw [List.getElem?_eq_getElem (by omega)] at h1
      exact ⟨_, by simpa using h1⟩) (by omega)
    rw [List.drop_zero] at hK
    exact ⟨g y, by show d.K w (f (g y)) cs; rw [hfg]; exact hK, by show p (f (g y)); rw [hfg]; exact hp⟩

/-- A struct's value is its cells. -/
theorem okw_struct {P : Program} {w : World} {r : Reach} {base : Nat} {t : TypeId} {fs : Array Field} {v : Value} (ht : P.underlying t = some (.struct fs)) (h : Value.okWide P w r base t v) : ∃ cs, v = .agg cs := by
  unfold Value.okWide at h
  rw [ht] at h
  obtain ⟨cs, rfl, _⟩ := h
  exact ⟨cs, rfl⟩

/-- A slice argument, opened. -/
theorem open_sl {α H : Type} {enc : TypeId × Value → H} {P : Program} {w : World} {base : Nat} {spare : Nat → Bool} {held : Bool} {t e : TypeId} {d : Kd α} {p : List α → Prop} {a : Option Addr} {len cap : Nat} {x : DataW H} {ps : List MemPlace}
    (ho : CellsTell P t (Kd.slice e d) p) (h : DataW.Trod enc P w base spare held t (.slice a len cap) x ps) : ∃ l : List α, len = l.length ∧ l.length ≤ cap ∧ d.C w a l.length l ∧ p l := by
  obtain ⟨fuel, hf⟩ := h
  obtain ⟨y, ⟨A, c, hcs, hle, hC⟩, hp⟩ := ho _ _ _ _ _ _ _ _ _ hf
  simp [Value.cells] at hcs
  obtain ⟨rfl, rfl, rfl⟩ := hcs
  exact ⟨y, rfl, hle, hC, hp⟩

/-- A struct argument, opened. -/
theorem open_st {α H : Type} {enc : TypeId × Value → H} {P : Program} {w : World} {base : Nat} {spare : Nat → Bool} {held : Bool} {t : TypeId} {d : Kd α} {p : α → Prop} {cs : Array Value} {x : DataW H} {ps : List MemPlace}
    (ho : CellsTell P t d p) (h : DataW.Trod enc P w base spare held t (.agg cs) x ps) : ∃ y : α, d.K w y cs.toList ∧ p y := by
  obtain ⟨fuel, hf⟩ := h
  obtain ⟨y, hK, hp⟩ := ho _ _ _ _ _ _ _ _ _ hf
  exact ⟨y, by simpa [Value.cells] using hK, hp⟩

end Go.Proofs.Ytpnhlccdhflogaa.Opens
