/- Facts of rows by intervals of blocks, and boxes that are filled. Conditions: none. -/
import Derived.Test.YtpnhlccdhflogaaWApart
import Derived.Test.YtpnhlccdhflogaaWKept
import Derived.Test.YtpnhlccdhflogaaWLast
import Derived.Test.YtpnhlccdhflogaaWMore
set_option linter.unusedVariables false
namespace Go.Proofs.Ytpnhlccdhflogaa.Lk
open Go.RowKit Go.Proofs.YtpnhlccdhflogaaW.PrintWords
section
variable {α β : Type} {d : Kd α} {e base b lo hi g t : Nat} {w W w1 w2 : World} {O Sep S : Nat → Prop} {v u : Value} {xs : List α}

/-- Told anew: within the blocks between two worlds. -/
theorem newS (h : Kd.S d e w b O v xs) (hb : base ≤ b) (sep : ∀ k, O k → Sep k) : Kd.S d e w base (fun k => (b ≤ k ∧ k < w.heap.size) ∧ Sep k) v xs :=
  Kd.S_mono (Kd.S_lower (Kd.S_bound h) hb) (fun k hk => ⟨⟨hk.2.1, hk.2.2.1⟩, sep k hk.1⟩)
theorem newN (h : Kd.N d e w b O v xs) (hb : base ≤ b) (sep : ∀ k, O k → b ≤ k ∧ Sep k) : Kd.N d e w base (fun k => (b ≤ k ∧ k < w.heap.size) ∧ Sep k) v xs :=
  Kd.N_mono (Kd.N_lower (Kd.N_bound h) hb) (fun k hk => ⟨⟨(sep k hk.1).1, hk.2⟩, (sep k hk.1).2⟩)
theorem newR (hE : d.E = []) (h : d.R e w b O v xs) (hb : base ≤ b) (sep : ∀ k, O k → Sep k) : d.R e w base (fun k => (b ≤ k ∧ k < w.heap.size) ∧ some k = v.ownBlock ∧ Sep k) v xs :=
  Kd.R_mono (Kd.R_lower (Kd.R_bound (Kd.R_tight2 hE h)) hb) (fun k hk => ⟨⟨hk.2.1, hk.2.2.1⟩, hk.1.1, sep k hk.1.2⟩)
theorem Sr {A : Option Addr} {n c : Nat} (h : Kd.S d e w base O (.slice A n c) xs) : xs.length ≤ c ∧ d.C w A xs.length xs := by obtain ⟨h1, h2, h3⟩ := Kd.S_reads' h; subst h1; exact ⟨h2, h3⟩
theorem Rr {A : Option Addr} {n c : Nat} (h : d.R e w base O (.slice A n c) xs) : xs.length ≤ c ∧ d.C w A xs.length xs := by obtain ⟨h1, h2, h3⟩ := Kd.R_reads' h; subst h1; exact ⟨h2, h3⟩
theorem Nr {A : Option Addr} {n c : Nat} (h : Kd.N d e w base O (.slice A n c) xs) : xs.length ≤ c ∧ d.C w A xs.length xs := by obtain ⟨h1, h2, h3⟩ := Kd.N_reads' h; subst h1; exact ⟨h2, h3⟩
/-- A flat row that was marked: its block is the one it had. -/
theorem markedR (hE : d.E = []) (h : d.R e w base O v xs) (hs : ∀ k, some k = v.ownBlock → S k) : d.R e w base S v xs :=
  Kd.R_mono (Kd.R_tight hE h) hs
theorem sameBelow (h : Below w.heap.size w W) : Below w.heap.size w W := h

/-- A box's cells stored one by one. -/
def fill (w : World) (g : Nat) : Nat → List Value → World
  | _, [] => w
  | i, x :: xs => fill (w.setCell ⟨g, i, none⟩ x) g (i + 1) xs
theorem fill_blk : ∀ (us : List Value) (i : Nat) (w : World) (cs : Array Value), w.heap[g]? = some (.cells cs t (0, 0)) → i + us.length = cs.size →
    (fill w g i us).heap[g]? = some (.cells (cs.toList.take i ++ us).toArray t (0, 0))
  | [], i, w, cs, h, hl => by
    have : cs.toList.take i = cs.toList := List.take_of_length_le (by simp at hl ⊢; omega)
    simpa [fill, this] using h
  | x :: us, i, w, cs, h, hl => by
    have ih := fill_blk us (i + 1) (w.setCell ⟨g, i, none⟩ x) (cs.setIfInBounds i x) (blk_set h i x) (by simp at hl ⊢; omega)
    rw [fill, ih]
    have hi : i < cs.toList.length := by simp at hl ⊢; omega
    have e1 : (cs.setIfInBounds i x).toList.take (i + 1) = cs.toList.take i ++ [x] := by
      have hm : (cs.toList.take i).length = i := by simp; simp at hi; omega
      rw [Array.toList_setIfInBounds, List.take_set, List.take_succ_eq_append_getElem hi, List.set_append, if_neg (by omega), hm, Nat.sub_self]
      rfl
    rw [e1]; simp
theorem fill_below : ∀ (us : List Value) (i : Nat) (w w1 : World), Below w.heap.size w w1 → w.heap.size ≤ g → Below w.heap.size w (fill w1 g i us)
  | [], i, w, w1, h, hg => h
  | x :: us, i, w, w1, h, hg => fill_below us (i + 1) w _ (below_set h hg) hg
theorem filled {us : List Value} {cs : Array Value} (h : w1.heap[g]? = some (.cells cs t (0, 0))) (hl : us.length = cs.size) : (fill w1 g 0 us).heap[g]? = some (.cells us.toArray t (0, 0)) := by
  have := fill_blk us 0 w1 cs h (by omega)
  simpa using this
theorem fill_size : ∀ (us : List Value) (i : Nat) (w : World), (fill w g i us).heap.size = w.heap.size
  | [], i, w => rfl
  | x :: us, i, w => by rw [fill, fill_size us (i + 1)]; simp [World.setCell]
theorem fill_kept : ∀ (us : List Value) (i : Nat) (w : World), Kept w (fill w g i us) (fun k => k = g)
  | [], i, w => Kept.refl _ _
  | x :: us, i, w => (Kept.setCell (Kept.refl w (fun k => k = g)) (.inl rfl) x).then_ (fill_kept us (i + 1) _) (fun _ hk => .inl hk)
end
section
variable {P : Program} {ops : Array Oper} {Q : Exit → Act → World → Prop}
open Go.Proofs.YtpnhlccdhflogaaW.PrintLast
/-- A variable that is made, one step of a region whose order is open. -/
theorem alloc_step {oi : Oper} {N : Option Tmp} {a : Act} {w : World} {K : Act → World → Prop} {cs : Array Value} {t : TypeId} (hw : Region.wanted oi (yielded ops a.tmps) = true) (hN : oi.dst = N)
    (hrun : (execOp a.eval oi).run P w = .ok (.value (.pointer (some ⟨w.heap.size, 0, none⟩))) (w.alloc (.cells cs t (0, 0))))
    (h : ∀ g w1, g = w.heap.size → w1.heap[g]? = some (.cells cs t (0, 0)) → Below w.heap.size w w1 → K (a.put N (.pointer (some ⟨g, 0, none⟩))) w1) : if Region.wanted oi (yielded ops a.tmps) = true then Oper.wp P oi a w K Q else K (a.put N undef) w := by
  rw [if_pos hw]
  subst hN
  unfold Oper.wp
  rw [hrun]
  exact h _ _ rfl (heap_alloc_new w _) ((Below.refl _ _).alloc (Nat.le_refl _) _)
/-- A store, one step of a region whose order is open. -/
theorem store_step {oi : Oper} {a : Act} {w w1 : World} {K : Act → World → Prop} (hw : Region.wanted oi (yielded ops a.tmps) = true) (hN : oi.dst = none) (hrun : (execOp a.eval oi).run P w = .ok .skip w1)
    (h : ∀ w', w' = w1 → K a w') : if Region.wanted oi (yielded ops a.tmps) = true then Oper.wp P oi a w K Q else K (a.put none undef) w := by
  rw [if_pos hw]
  unfold Oper.wp
  rw [hrun]
  show K (a.put oi.dst undef) w1
  rw [hN]
  exact h _ rfl
end
end Go.Proofs.Ytpnhlccdhflogaa.Lk
