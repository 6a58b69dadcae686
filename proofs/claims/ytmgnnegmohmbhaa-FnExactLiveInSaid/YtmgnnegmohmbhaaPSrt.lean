/- Where a number stands; the two sorts: both tell the same rising row. Conditions: none. -/
import Derived.Test.YtmgnnegmohmbhaaKit
import Derived.Test.YtmgnnegmohmbhaaQx0
import Derived.Test.YtmgnnegmohmbhaaQx4
import Derived.Test.YtmgnnegmohmbhaaQx6
import Derived.Test.YtmgnnegmohmbhaaQx7
import Derived.Test.YtmgnnegmohmbhaaQx13
set_option linter.unusedVariables false
set_option linter.unusedSimpArgs false
namespace Go.Proofs.Ytmgnnegmohmbhaa.Pure
open Go.RowKit Go.Proofs.Ytmgnnegmohmbhaa.Q Go.Proofs.YtmgnnegmohmbhaaW.PrintWords Go.Proofs.YtmgnnegmohmbhaaW.PrintLast Go.Proofs.Ytmgnnegmohmbhaa.Kit
def idxF : List Int → Int → Nat → Int
  | [], _, _ => -1
  | x :: xs, a, i => if a = x then (i : Int) else idxF xs a (i + 1)
theorem idxF_neg : ∀ (l : List Int) (a : Int) (i : Nat), a ∉ l → idxF l a i = -1
  | [], _, _, _ => rfl
  | x :: xs, a, i, h => by
    simp only [List.mem_cons, not_or] at h
    simp only [idxF]; rw [if_neg h.1]; exact idxF_neg xs a (i + 1) h.2
theorem idxF_at : ∀ (p : List Int) (a : Int) (q : List Int) (i : Nat), a ∉ p → idxF (p ++ a :: q) a i = (i + p.length : Nat)
  | [], a, q, i, _ => by simp [idxF]
  | x :: p, a, q, i, h => by
    simp only [List.mem_cons, not_or] at h
    simp only [List.cons_append, idxF]; rw [if_neg h.1, idxF_at p a q (i + 1) h.2]
    simp only [List.length_cons]; omega
theorem idxF_mem {l : List Int} {a : Int} (h : a ∈ l) : ∃ p q, l = p ++ a :: q ∧ a ∉ p ∧ idxF l a 0 = (p.length : Nat) := by
  have key : ∀ l : List Int, a ∈ l → ∃ p q, l = p ++ a :: q ∧ a ∉ p := by
    intro l
    induction l with
    | nil => intro h; cases h
    | cons x xs ih =>
      intro h
      by_cases hx : a = x
      · exact ⟨[], xs, by simp [hx], by simp⟩
      · obtain ⟨p, q, e, hp⟩ := ih (by simpa [hx] using h)
        exact ⟨x :: p, q, by simp [e], by simp [hx, hp]⟩
  obtain ⟨p, q, h1, h2⟩ := key l h
  exact ⟨p, q, h1, h2, by rw [h1, idxF_at p a q 0 h2]; simp⟩
theorem idxF_nonneg (l : List Int) (a : Int) : decide (idxF l a 0 ≥ 0) = l.contains a := by
  by_cases h : a ∈ l
  · obtain ⟨p, q, _, _, e⟩ := idxF_mem h
    rw [e]; simp [h]
  · rw [idxF_neg l a 0 h]; simp [h]
theorem index_l0 (l : List Int) (a : Int) (hb : l.length ≤ 1048576) : ∀ (post pre : List Int), l = pre ++ post →
    Ev (fun k => slices_Index_int_int.l0 k l a (l.length : Int) (pre.length : Int)) (idxF post a pre.length)
  | [], pre, hl => by
    have : l.length = pre.length := by rw [hl]; simp
    refine Ev.step (fun k => by simp only [slices_Index_int_int.l0]; rw [if_neg (by omega)]) ?_
    exact some_ev rfl
  | x :: post, pre, hl => by
    have hn : l.length = pre.length + (post.length + 1) := by rw [hl]; simp
    have hr : rd l (pre.length : Int) = x := by rw [hl]; exact rd_at rfl
    have ih := index_l0 l a hb post (pre ++ [x]) (by simp [hl])
    refine Ev.step (fun k => by simp only [slices_Index_int_int.l0]; rw [if_pos (by omega), if_pos (by omega), if_pos (by omega), hr, w_succ (by omega)]) ?_
    simp only [idxF]
    refine ite_ev (fun _ => Ev.now _) (fun _ => ?_)
    simpa using ih
theorem index_ev (l : List Int) (a : Int) (hb : l.length ≤ 1048576) : Ev (fun k => slices_Index_int_int.f k l a) (idxF l a 0) := by
  have := index_l0 l a hb l [] rfl
  unfold slices_Index_int_int.f
  simpa using this
theorem contains_ev (l : List Int) (a : Int) (hb : l.length ≤ 1048576) : Ev (fun k => slices_Contains_int_int.f k l a) (l.contains a) := by
  unfold slices_Contains_int_int.f
  exact bind_ev (index_ev l a hb) (some_ev (idxF_nonneg l a))
theorem has_l0 (l : List Int) (a : Int) (hb : l.length ≤ 1048576) : ∀ (post pre : List Int), l = pre ++ post →
    Ev (fun k => spec_l1Has.l0 k a l (l.length : Int) (pre.length : Int)) (post.contains a)
  | [], pre, hl => by
    have : l.length = pre.length := by rw [hl]; simp
    refine Ev.step (fun k => by simp only [spec_l1Has.l0]; rw [if_neg (by omega)]) ?_
    exact some_ev rfl
  | x :: post, pre, hl => by
    have hn : l.length = pre.length + (post.length + 1) := by rw [hl]; simp
    have hr : rd l (pre.length : Int) = x := by rw [hl]; exact rd_at rfl
    have ih := has_l0 l a hb post (pre ++ [x]) (by simp [hl])
    refine Ev.step (fun k => by simp only [spec_l1Has.l0]; rw [if_pos (by omega), if_pos (by omega), if_pos (by omega), hr, w_succ (by omega)]) ?_
    by_cases hx : x = a
    · exact ite_t hx (some_ev (by simp [hx]))
    · refine ite_f hx ?_
      have e : (x :: post).contains a = post.contains a := by simp [Ne.symm hx]
      rw [e]
      simpa using ih
theorem has_ev (l : List Int) (a : Int) (hb : l.length ≤ 1048576) : Ev (fun k => spec_l1Has.f k l a) (l.contains a) := by
  have := has_l0 l a hb l [] rfl
  unfold spec_l1Has.f
  simpa using this

/-- x put into a rising row. -/
def insL (x : Int) : List Int → List Int
  | [] => [x]
  | y :: ys => if y < x then y :: insL x ys else x :: y :: ys
def srt (s : List Int) : List Int → List Int
  | [] => s
  | x :: xs => srt (insL x s) xs
theorem insL_len (x : Int) : ∀ s, (insL x s).length = s.length + 1
  | [] => rfl
  | y :: ys => by unfold insL; split <;> simp [insL_len x ys]
theorem insL_mem (x a : Int) : ∀ s, a ∈ insL x s ↔ a = x ∨ a ∈ s
  | [] => by simp [insL]
  | y :: ys => by
    unfold insL
    split
    · simp only [List.mem_cons, insL_mem x a ys]; constructor <;> (intro h; rcases h with h | h | h <;> simp [h])
    · simp
def Rising (s : List Int) : Prop := s.Pairwise (· < ·)
theorem insL_rising (x : Int) : ∀ s, Rising s → x ∉ s → Rising (insL x s)
  | [], _, _ => by simp [insL, Rising]
  | y :: ys, h, hx => by
    simp only [Rising, List.pairwise_cons] at h
    simp only [List.mem_cons, not_or] at hx
    unfold insL
    split
    · rename_i hlt
      simp only [Rising, List.pairwise_cons]
      refine ⟨fun a ha => ?_, insL_rising x ys h.2 hx.2⟩
      rcases (insL_mem x a ys).1 ha with rfl | ha
      · exact hlt
      · exact h.1 a ha
    · rename_i hge
      simp only [Rising, List.pairwise_cons]
      refine ⟨fun a ha => ?_, h.1, h.2⟩
      rcases List.mem_cons.1 ha with rfl | ha
      · omega
      · have := h.1 a ha; omega
theorem insL_snoc (x y : Int) (h : x < y) : ∀ s, insL x (s ++ [y]) = insL x s ++ [y]
  | [] => by simp only [List.nil_append, insL]; rw [if_neg (by omega)]; rfl
  | z :: zs => by
    simp only [List.cons_append, insL]
    split
    · rw [insL_snoc x y h zs]; rfl
    · simp
theorem insL_end (x : Int) : ∀ s, (∀ y ∈ s, y < x) → insL x s = s ++ [x]
  | [], _ => rfl
  | y :: ys, h => by
    unfold insL
    rw [if_pos (h y (by simp)), insL_end x ys (fun z hz => h z (by simp [hz]))]; rfl
theorem srt_len : ∀ (xs s : List Int), (srt s xs).length = s.length + xs.length
  | [], s => by simp [srt]
  | x :: xs, s => by simp only [srt]; rw [srt_len xs, insL_len]; simp; omega
theorem srt_mem (a : Int) : ∀ (xs s : List Int), a ∈ srt s xs ↔ a ∈ s ∨ a ∈ xs
  | [], s => by simp [srt]
  | x :: xs, s => by
    simp only [srt]; rw [srt_mem a xs, insL_mem]; simp only [List.mem_cons]
    rw [or_assoc, or_left_comm]

theorem put_l0 (x : Int) : ∀ (post pre : List Int), x ∉ post → pre.length + post.length ≤ 1048576 →
    Ev (fun k => spec_l1Put.l0 k (pre ++ post) x (pre.length : Int)) (pre ++ insL x post)
  | [], pre, hx, hb => by
    simp at hb
    refine Ev.step (fun k => by simp only [spec_l1Put.l0]; rw [if_neg (by simp)]) ?_
    refine ite_t (by omega) (ite_t (by simp) (bind_ev (Ev.now _) (ite_t (by simp; omega) (bind_ev (Ev.now _) (ite_t (by simp; omega) (bind_ev (Ev.now _) (bind_ev (Ev.now _) (ite_t (by simp; omega) (some_ev ?_)))))))))
    simp [insL]
  | y :: post, pre, hx, hb => by
    simp only [List.mem_cons, not_or] at hx
    simp at hb
    refine Ev.step (fun k => by
      simp only [spec_l1Put.l0]
      rw [if_pos (by simp; omega), if_pos (by omega), rd_at rfl, w_succ (by omega)]) ?_
    unfold insL
    by_cases h : y < x
    · refine ite_t h ?_
      rw [if_pos h]
      have ih := put_l0 x post (pre ++ [y]) hx.2 (by simp; omega)
      simpa using ih
    · refine ite_f h (ite_f (fun e => hx.1 e.symm) ?_)
      rw [if_neg h]
      refine ite_t (by simp; omega) (bind_ev (Ev.now _) (ite_t (by simp; omega) (bind_ev (Ev.now _) (ite_t (by simp; omega) (bind_ev (Ev.now _) (bind_ev (Ev.now _) (ite_t (by simp; omega) (some_ev ?_))))))))
      simp
theorem put_ev (x : Int) (s : List Int) (hx : x ∉ s) (hb : s.length ≤ 1048576) : Ev (fun k => spec_l1Put.f k s x) (insL x s) := by
  have := put_l0 x s [] hx (by simpa using hb)
  unfold spec_l1Put.f
  simpa using this
theorem sorted_l0 (l : List Int) (hb : l.length ≤ 10000) : ∀ (post pre s : List Int), l = pre ++ post → s.length ≤ pre.length → post.Nodup → (∀ x ∈ post, x ∉ s) →
    Ev (fun k => spec_l14Sorted.l0 k s l (l.length : Int) (pre.length : Int)) (srt s post)
  | [], pre, s, hl, hs, hn, hd => by
    have : l.length = pre.length := by rw [hl]; simp
    refine Ev.step (fun k => by simp only [spec_l14Sorted.l0]; rw [if_neg (by omega)]) ?_
    exact some_ev rfl
  | x :: post, pre, s, hl, hs, hn, hd => by
    have hn' : l.length = pre.length + (post.length + 1) := by rw [hl]; simp
    have hr : rd l (pre.length : Int) = x := by rw [hl]; exact rd_at rfl
    simp only [List.nodup_cons] at hn
    refine Ev.step (fun k => by simp only [spec_l14Sorted.l0]; rw [if_pos (by omega), if_pos (by omega), if_pos (by omega), hr, w_succ (by omega)]) ?_
    refine bind_ev (put_ev x s (hd x (by simp)) (by omega)) ?_
    have ih := sorted_l0 l hb post (pre ++ [x]) (insL x s) (by simp [hl]) (by rw [insL_len]; simp; omega) hn.2 (fun y hy he => by
      rcases (insL_mem x y s).1 he with rfl | he
      · exact hn.1 hy
      · exact hd y (by simp [hy]) he)
    simpa [srt] using ih
theorem sorted_ev (l : List Int) (hb : l.length ≤ 10000) (hn : l.Nodup) : Ev (fun k => spec_l14Sorted.f k l) (srt [] l) := by
  have := sorted_l0 l hb l [] [] rfl (by simp) hn (by simp)
  unfold spec_l14Sorted.f
  simpa using this

theorem less_eq (a b : Int) : cmp_Less_int.f a b = some (decide (a < b)) := by
  unfold cmp_Less_int.f cmp_isNaN_int.f; simp
theorem rd_set {l : List Int} {n : Nat} (p q : List Int) (x : Int) (h : l = p ++ x :: q) (hn : n = p.length) : rd l (n : Int) = x := by subst h; exact rd_at hn
theorem ins_l1 (n : Nat) (hb : n ≤ 10000) (x : Int) (R : List Int) : ∀ (m : Nat) (a b post : List Int), a.length = m → a.length + b.length + post.length + 1 = n → Rising a → x ∉ a →
    Ev (fun k => slices_insertionSortOrdered_int.l0 k (insL x a ++ b ++ post) 0 (n : Int) ((a.length + b.length + 1 : Nat) : Int)) R →
    Ev (fun k => slices_insertionSortOrdered_int.l1 k (a ++ x :: b ++ post) 0 (n : Int) ((a.length + b.length : Nat) : Int) (a.length : Int)) R
  | 0, a, b, post, ha, hl, hr, hx, h => by
    obtain rfl := List.eq_nil_of_length_eq_zero ha
    refine Ev.step (fun k => by simp only [slices_insertionSortOrdered_int.l1]; rw [if_neg (by simp), w_succ (by simp at hl ⊢; omega)]) ?_
    simpa [insL] using h
  | m + 1, a, b, post, ha, hl, hr, hx, h => by
    obtain ⟨a', y, rfl⟩ : ∃ a' y, a = a' ++ [y] := ⟨a.dropLast, a.getLast (by intro e; simp [e] at ha), (List.dropLast_concat_getLast _).symm⟩
    have ha' : a'.length = m := by simpa using ha
    have hw : wrap64 (((a' ++ [y]).length : Int) - 1) = ((a'.length : Nat) : Int) := by simp at hl ⊢; unfold wrap64; omega
    have e1 : rd (a' ++ [y] ++ x :: b ++ post) (((a' ++ [y]).length : Nat) : Int) = x := rd_set (a' ++ [y]) (b ++ post) x (by simp) rfl
    have e2 : rd (a' ++ [y] ++ x :: b ++ post) ((a'.length : Nat) : Int) = y := rd_set a' (x :: b ++ post) y (by simp) rfl
    simp only [List.mem_append, List.mem_singleton, not_or] at hx
    have hpw := hr
    simp only [Rising, List.pairwise_append, List.mem_singleton, forall_eq] at hpw
    refine Ev.step (fun k => by
      simp only [slices_insertionSortOrdered_int.l1]
      rw [hw, e1, e2, if_pos (by simp; try omega), if_pos (by omega), if_pos (by simp; omega), if_pos (by omega), if_pos (by simp; omega), less_eq]) ?_
    refine bind_ev (Ev.now _) ?_
    by_cases hxy : x < y
    · refine ite_t (by simpa using hxy) ?_
      have es : ((a' ++ [y] ++ x :: b ++ post).set (((a' ++ [y]).length : Nat) : Int).toNat y).set ((a'.length : Nat) : Int).toNat x = a' ++ x :: (y :: b) ++ post := by
        simp only [Int.toNat_natCast]
        rw [show a' ++ [y] ++ x :: b ++ post = (a' ++ [y]) ++ x :: (b ++ post) by simp, set_at rfl, show a' ++ [y] ++ y :: (b ++ post) = a' ++ y :: (y :: b ++ post) by simp, set_at rfl]
        simp
      rw [es]
      have hl' : a'.length + (y :: b).length + post.length + 1 = n := by simp at hl ⊢; omega
      have ih := ins_l1 n hb x R m a' (y :: b) post ha' hl' hpw.1 hx.1 (by
        rw [insL_snoc x y hxy] at h
        simpa [Nat.add_assoc, Nat.add_comm, Nat.add_left_comm] using h)
      have hc : (a'.length + (y :: b).length : Nat) = ((a' ++ [y]).length + b.length : Nat) := by simp; omega
      rw [hc] at ih
      exact ih
    · refine ite_f (by simpa using hxy) ?_
      rw [w_succ (by simp at hl ⊢; omega)]
      rw [insL_end x (a' ++ [y]) (fun z hz => by
        rcases List.mem_append.1 hz with hz | hz
        · have := hpw.2.2 z hz; have := hx.2; omega
        · have := List.mem_singleton.1 hz; subst this; have := hx.2; omega)] at h
      simpa using h
theorem ins_l0 (n : Nat) (hb : n ≤ 10000) : ∀ (post s : List Int), s.length + post.length = n → Rising s → post.Nodup → (∀ x ∈ post, x ∉ s) →
    Ev (fun k => slices_insertionSortOrdered_int.l0 k (s ++ post) 0 (n : Int) (s.length : Int)) (srt s post)
  | [], s, hl, hr, hn, hd => by
    simp at hl
    refine Ev.step (fun k => by simp only [slices_insertionSortOrdered_int.l0]; rw [if_neg (by omega)]) ?_
    exact some_ev (by simp [srt])
  | x :: post, s, hl, hr, hn, hd => by
    simp at hl
    simp only [List.nodup_cons] at hn
    have hxs := hd x (by simp)
    refine Ev.step (fun k => by simp only [slices_insertionSortOrdered_int.l0]; rw [if_pos (by omega)]) ?_
    have ih := ins_l0 n hb post (insL x s) (by rw [insL_len]; omega) (insL_rising x s hr hxs) hn.2 (fun y hy he => by
      rcases (insL_mem x y s).1 he with rfl | he
      · exact hn.1 hy
      · exact hd y (by simp [hy]) he)
    have h1 := ins_l1 n hb x (srt (insL x s) post) s.length s [] post rfl (by simp; omega) hr hxs (by
      rw [insL_len] at ih
      simpa using ih)
    simpa [srt] using h1
theorem sort_ev (l : List Int) (hb : l.length ≤ 12) (hn : l.Nodup) : Ev (fun k => slices_Sort_int_int.f k l) (srt [] l) := by
  unfold slices_Sort_int_int.f slices_insertionSortOrdered_int.f
  refine ite_t hb ?_
  cases l with
  | nil =>
    refine Ev.step (fun k => by simp only [slices_insertionSortOrdered_int.l0]; rw [if_neg (by rw [show wrap64 (0 + 1) = 1 by unfold wrap64; omega]; simp)]) ?_
    exact some_ev rfl
  | cons x xs =>
    simp only [List.nodup_cons] at hn
    have := ins_l0 (x :: xs).length (by omega) xs [x] (by simp; omega) (by simp [Rising]) hn.2 (fun y hy he => hn.1 (by simp at he; exact he ▸ hy))
    rw [show wrap64 (0 + 1) = 1 by unfold wrap64; omega]
    simpa [srt, insL] using this
end Go.Proofs.Ytmgnnegmohmbhaa.Pure
