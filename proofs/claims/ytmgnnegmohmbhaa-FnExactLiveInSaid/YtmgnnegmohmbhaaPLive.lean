/- LiveIn: the program's row of what is still to do and the reference's tell the same cells. Conditions: none. -/
import Derived.Test.YtmgnnegmohmbhaaPM
import Derived.Test.YtmgnnegmohmbhaaPSrt
import Derived.Test.YtmgnnegmohmbhaaGoodFnExactLiveIn
import Derived.Test.YtmgnnegmohmbhaaQx0
import Derived.Test.YtmgnnegmohmbhaaQx1
import Derived.Test.YtmgnnegmohmbhaaQx5
import Derived.Test.YtmgnnegmohmbhaaQx13
set_option linter.unusedVariables false
set_option linter.unusedSimpArgs false
namespace Go.Proofs.Ytmgnnegmohmbhaa.Pure
open Go.RowKit Go.Proofs.Ytmgnnegmohmbhaa.Q Go.Proofs.YtmgnnegmohmbhaaW.PrintWords Go.Proofs.YtmgnnegmohmbhaaW.PrintLast Go.Proofs.Ytmgnnegmohmbhaa.Kit Go.Proofs.Ytmgnnegmohmbhaa.Wf

theorem nodup_le {α : Type} [DecidableEq α] : ∀ (l s : List α), l.Nodup → (∀ x ∈ l, x ∈ s) → l.length ≤ s.length
  | [], s, _, _ => by simp
  | x :: l, s, hn, hs => by
    have hx := hs x (by simp)
    have h1 := nodup_le l (s.erase x) (List.nodup_cons.1 hn).2 (fun y hy => by
      have hne : y ≠ x := fun e => (List.nodup_cons.1 hn).1 (e ▸ hy)
      exact (List.mem_erase_of_ne hne).2 (hs y (by simp [hy])))
    have h2 := List.length_erase_of_mem hx
    have h3 : 0 < s.length := List.length_pos_of_mem hx
    simp only [List.length_cons]
    omega
/-- Cells that are taken once each. -/
def Once (n : Nat) (a : List Int) : Prop := a.Nodup ∧ ∀ x ∈ a, 0 ≤ x ∧ x < n
theorem Once.len {n : Nat} {a : List Int} (h : Once n a) : a.length ≤ n := by
  have := nodup_le a ((List.range n).map (fun (k : Nat) => (k : Int))) h.1 (fun x hx => by
    have := h.2 x hx
    simp only [List.mem_map, List.mem_range]
    exact ⟨x.toNat, by omega, by omega⟩)
  simpa using this
theorem Once.snoc {n : Nat} {a : List Int} {x : Int} (h : Once n a) (h0 : 0 ≤ x) (h1 : x < n) (hx : x ∉ a) : Once n (a ++ [x]) := by
  refine ⟨List.nodup_append.2 ⟨h.1, by simp, fun y hy z hz => ?_⟩, fun y hy => ?_⟩
  · simp at hz; subst hz; exact fun e => hx (e ▸ hy)
  · rcases List.mem_append.1 hy with hy | hy
    · exact h.2 y hy
    · simp at hy; subst hy; exact ⟨h0, h1⟩
def addX (a : List Int) : List Int → List Int
  | [] => a
  | x :: xs => if 0 ≤ x ∧ x ∉ a then addX (a ++ [x]) xs else addX a xs
theorem addX_app : ∀ (xs ys a : List Int), addX a (xs ++ ys) = addX (addX a xs) ys
  | [], ys, a => rfl
  | x :: xs, ys, a => by
    simp only [List.cons_append, addX]
    split <;> exact addX_app xs ys _
theorem addX_pre : ∀ (xs a : List Int), ∃ t, addX a xs = a ++ t
  | [], a => ⟨[], by simp [addX]⟩
  | x :: xs, a => by
    simp only [addX]
    split
    · obtain ⟨t, ht⟩ := addX_pre xs (a ++ [x])
      exact ⟨x :: t, by rw [ht]; simp⟩
    · exact addX_pre xs a
theorem addX_once {n : Nat} : ∀ (xs a : List Int), Once n a → (∀ x ∈ xs, x < n) → Once n (addX a xs)
  | [], a, h, _ => h
  | x :: xs, a, h, hx => by
    simp only [addX]
    split
    · rename_i hc
      exact addX_once xs _ (h.snoc hc.1 (hx x (by simp)) hc.2) (fun y hy => hx y (by simp [hy]))
    · exact addX_once xs a h (fun y hy => hx y (by simp [hy]))
section
variable (cs : List S44) (rs : List Int) (m : Bool) (hb : cs.length ≤ 10)
include hb
theorem live_l2 (x6 : Int) (R : List Int) (l : List Int) (hl : l.length ≤ 1000) : ∀ (post pre a : List Int), l = pre ++ post → Once cs.length a → (∀ x ∈ post, x < cs.length) →
    Ev (fun k => spec_l15Live.l1 k (addX a post) (wrap64 (x6 + 1)) cs rs m) R →
    Ev (fun k => spec_l15Live.l2 k a x6 l (l.length : Int) (pre.length : Int) cs rs m) R
  | [], pre, a, he, ha, hx, h => by
    have : l.length = pre.length := by rw [he]; simp
    refine Ev.step (fun k => by simp only [spec_l15Live.l2]; rw [if_neg (by omega)]) ?_
    exact h
  | x :: post, pre, a, he, ha, hx, h => by
    have hn' : l.length = pre.length + (post.length + 1) := by rw [he]; simp
    have hr : rd l (pre.length : Int) = x := by rw [he]; exact rd_at rfl
    have hal := ha.len
    have ih := fun a' h1 h2 => live_l2 x6 R l hl post (pre ++ [x]) a' (by simp [he]) h1 (fun y hy => hx y (by simp [hy])) h2
    refine Ev.step (fun k => by simp only [spec_l15Live.l2]; rw [if_pos (by omega), if_pos (by omega), if_pos (by omega), hr, w_succ (by omega)]) ?_
    simp only [addX] at h
    by_cases h0 : 0 ≤ x
    · refine ite_t h0 (bind_ev (has_ev a x (by omega)) ?_)
      by_cases hm : x ∈ a
      · refine ite_t (by simpa using hm) ?_
        rw [if_neg (fun e => e.2 hm)] at h
        simpa using ih a ha h
      · refine ite_f (by simpa using hm) (ite_t (by omega) ?_)
        rw [if_pos ⟨h0, hm⟩] at h
        simpa using ih _ (ha.snoc h0 (hx x (by simp)) hm) h
    · refine ite_f h0 ?_
      rw [if_neg (fun e => h0 e.1)] at h
      simpa using ih a ha h
theorem live_l0 (R : List Int) (l : List Int) (hl : l.length ≤ 1000) : ∀ (post pre a : List Int), l = pre ++ post → Once cs.length a → (∀ x ∈ post, x < cs.length) →
    Ev (fun k => spec_l15Live.l1 k (addX a post) 0 cs rs m) R →
    Ev (fun k => spec_l15Live.l0 k a l (l.length : Int) (pre.length : Int) cs rs m) R
  | [], pre, a, he, ha, hx, h => by
    have : l.length = pre.length := by rw [he]; simp
    refine Ev.step (fun k => by simp only [spec_l15Live.l0]; rw [if_neg (by omega)]) ?_
    exact h
  | x :: post, pre, a, he, ha, hx, h => by
    have hn' : l.length = pre.length + (post.length + 1) := by rw [he]; simp
    have hr : rd l (pre.length : Int) = x := by rw [he]; exact rd_at rfl
    have hal := ha.len
    have ih := fun a' h1 h2 => live_l0 R l hl post (pre ++ [x]) a' (by simp [he]) h1 (fun y hy => hx y (by simp [hy])) h2
    refine Ev.step (fun k => by simp only [spec_l15Live.l0]; rw [if_pos (by omega), if_pos (by omega), if_pos (by omega), hr, w_succ (by omega)]) ?_
    simp only [addX] at h
    by_cases h0 : 0 ≤ x
    · refine ite_t h0 (bind_ev (has_ev a x (by omega)) ?_)
      by_cases hm : x ∈ a
      · refine ite_t (by simpa using hm) ?_
        rw [if_neg (fun e => e.2 hm)] at h
        simpa using ih a ha h
      · refine ite_f (by simpa using hm) (ite_t (by omega) ?_)
        rw [if_pos ⟨h0, hm⟩] at h
        simpa using ih _ (ha.snoc h0 (hx x (by simp)) hm) h
    · refine ite_f h0 ?_
      rw [if_neg (fun e => h0 e.1)] at h
      simpa using ih a ha h
/-- What a cell leads to. -/
def leads (x : Int) : List Int := (rd_T44 cs x).f0
theorem live_main (hlk : ∀ x : Int, 0 ≤ x → x < cs.length → (leads cs x).length = 2 ∧ ∀ y ∈ leads cs x, y < cs.length) : ∀ (M : Nat) (out todo : List Int), M ≤ 900 → 3 * (cs.length - out.length) + todo.length ≤ M → Once cs.length out → (∀ x ∈ todo, x < cs.length) →
    ∃ R : List Int, R.length ≤ 10 ∧ Ev (fun k => impl_Marker_live.l0 k out todo cs rs m) R ∧ Ev (fun k => spec_l15Live.l1 k (addX out todo) (out.length : Int) cs rs m) R
  | M, out, [], hM, hm, ho, ht => by
    have hol := ho.len
    refine ⟨srt [] out, by rw [srt_len]; simp; omega, ?_, ?_⟩
    · refine Ev.step (fun k => by simp only [impl_Marker_live.l0]; rw [if_neg (by simp)]) ?_
      exact bind_ev (sort_ev out (by omega) ho.1) (Ev.now _)
    · show Ev (fun k => spec_l15Live.l1 k out (out.length : Int) cs rs m) _
      refine Ev.step (fun k => by simp only [spec_l15Live.l1]; rw [if_neg (show ¬ ((out.length : Int) < (out.length : Int)) by omega)]) ?_
      exact bind_ev (sorted_ev out (by omega) ho.1) (Ev.now _)
  | 0, out, x :: rest, hM, hm, ho, ht => by simp at hm
  | M + 1, out, x :: rest, hM, hm, ho, ht => by
    have hol := ho.len
    simp only [List.length_cons] at hm
    have hx := ht x (by simp)
    have hrest : ∀ y ∈ rest, y < cs.length := fun y hy => ht y (by simp [hy])
    have hr : rd (x :: rest) 0 = x := rd_at (pre := []) rfl
    have hd : (x :: rest).drop (1 : Int).toNat = rest := rfl
    by_cases h0 : 0 ≤ x
    · by_cases hmem : x ∈ out
      · obtain ⟨R, hR, h1, h2⟩ := live_main hlk M out rest (by omega) (by omega) ho hrest
        refine ⟨R, hR, ?_, ?_⟩
        · refine Ev.step (fun k => by simp only [impl_Marker_live.l0]; rw [hr, hd, if_pos (by simp; try omega), if_pos (by simp; try omega), if_pos (by simp; try omega)]) ?_
          refine bind_ev (Ev.now _) (ite_t h0 (bind_ev (contains_ev out x (by omega)) (ite_t (by simpa using hmem) ?_)))
          exact h1
        · simp only [addX]; rw [if_neg (fun e => e.2 hmem)]; exact h2
      · obtain ⟨l1, l2⟩ := hlk x h0 hx
        have ho' := ho.snoc h0 hx hmem
        have ho'l := ho'.len
        simp only [List.length_append, List.length_singleton] at ho'l
        have hrl : ∀ y ∈ rest ++ leads cs x, y < cs.length := fun y hy => by
          rcases List.mem_append.1 hy with hy | hy
          · exact hrest y hy
          · exact l2 y hy
        obtain ⟨R, hR, h1, h2⟩ := live_main hlk M (out ++ [x]) (rest ++ leads cs x) (by omega) (by simp only [List.length_append, List.length_singleton, l1]; omega) ho' hrl
        refine ⟨R, hR, ?_, ?_⟩
        · refine Ev.step (fun k => by simp only [impl_Marker_live.l0]; rw [hr, hd, if_pos (by simp; try omega), if_pos (by simp; try omega), if_pos (by simp; try omega)]) ?_
          refine bind_ev (Ev.now _) (ite_t h0 (bind_ev (contains_ev out x (by omega)) (ite_f (by simpa using hmem) ?_)))
          refine ite_t (by omega) (ite_t h0 (ite_t hx (ite_t (by have := l1; simp only [leads] at this; omega) ?_)))
          exact h1
        · simp only [addX]; rw [if_pos ⟨h0, hmem⟩]
          have hpre := addX_pre rest (out ++ [x])
          have hgood := addX_once rest (out ++ [x]) ho' hrest
          have hS : addX (out ++ [x]) (rest ++ leads cs x) = addX (addX (out ++ [x]) rest) (leads cs x) := addX_app _ _ _
          obtain ⟨t, ht'⟩ := hpre
          rw [hS] at h2
          generalize hSS : addX (out ++ [x]) rest = S at h2 ht' hgood ⊢
          have hrS : rd S (out.length : Int) = x := by rw [ht']; rw [List.append_assoc]; exact rd_at rfl
          have hSl : S.length = out.length + (1 + t.length) := by rw [ht']; simp; omega
          have hSlen := hgood.len
          refine Ev.step (fun k => by simp only [spec_l15Live.l1]; rw [if_pos (by omega), if_pos (by omega), hrS, if_pos h0, if_pos hx]) ?_
          have := live_l2 cs rs m hb (out.length : Int) R (leads cs x) (by omega) (leads cs x) [] S rfl hgood l2 (by
            rw [w_succ (by omega)]
            simpa using h2)
          exact this
    · obtain ⟨R, hR, h1, h2⟩ := live_main hlk M out rest (by omega) (by omega) ho hrest
      refine ⟨R, hR, ?_, ?_⟩
      · refine Ev.step (fun k => by simp only [impl_Marker_live.l0]; rw [hr, hd, if_pos (by simp; try omega), if_pos (by simp; try omega), if_pos (by simp; try omega)]) ?_
        refine bind_ev (Ev.now _) (ite_f h0 ?_)
        exact h1
      · simp only [addX]; rw [if_neg (fun e => h0 e.1)]; exact h2
end
theorem goodM_facts {cs : List S44} {rs : List Int} {m : Bool} (h : goodM cs rs m = true) : cs.length ≤ 10 ∧ rs.length = 2 ∧ (∀ x ∈ rs, x < cs.length) ∧ ∀ x : Int, 0 ≤ x → x < cs.length → (leads cs x).length = 2 ∧ ∀ y ∈ leads cs x, y < cs.length := by
  unfold goodM at h
  simp only [Bool.and_eq_true, decide_eq_true_eq, List.all_eq_true] at h
  obtain ⟨⟨h1, h2⟩, h3, h4⟩ := h
  have h1' := (inB_iff _ _ _).1 h1
  have tk : ∀ x, taken cs x = true → x < cs.length := fun x hx => by
    by_cases h0 : 0 ≤ x
    · exact taken_lt hx h0
    · omega
  refine ⟨by omega, h2, fun x hx => ?_, fun x h0 hx => ?_⟩
  · have := h4 x hx
    unfold rt at this
    simp only [Bool.and_eq_true] at this
    exact tk x this.1
  · obtain ⟨n, rfl⟩ := Int.eq_ofNat_of_zero_le h0
    have hn : n < cs.length := by omega
    have e : cs = cs.take n ++ cs[n] :: cs.drop (n + 1) := by simp
    have er : rd_T44 cs ((n : Nat) : Int) = cs[n] := by
      have h5 : rd_T44 (cs.take n ++ cs[n] :: cs.drop (n + 1)) ((n : Nat) : Int) = cs[n] := rdat_T44 (by simp; omega)
      rwa [← e] at h5
    have hc := h3 cs[n] (List.getElem_mem hn)
    unfold leads
    rw [er]
    unfold cellOk hd lk at hc
    simp only [Bool.and_eq_true, decide_eq_true_eq, List.all_eq_true] at hc
    exact ⟨hc.1.1.1, fun y hy => tk y (hc.2 y hy).1.1⟩
theorem live_both (cs : List S44) (rs : List Int) (m : Bool) (hrs : rs.length ≤ 1048576) (hcs : cs.length ≤ 1048576) (hm : ∀ c ∈ cs, c.f0.length ≤ 1048576) :
    ∃ o : List Int × Bool, o.1.length ≤ 1048576 ∧ Ev (fun k => spec_LiveIn.f k cs rs m) o ∧ Ev (fun k => impl_LiveIn.f k cs rs m) o := by
  unfold spec_LiveIn.f impl_LiveIn.f
  by_cases h : goodM cs rs m = true
  · obtain ⟨hb, h2, hr, hlk⟩ := goodM_facts h
    obtain ⟨R, hR, e1, e2⟩ := live_main cs rs m hb hlk 900 [] rs (by omega) (by simp only [List.length_nil, h2]; omega) ⟨by simp, by simp⟩ hr
    refine ⟨(R, true), by simp only; omega, ?_, ?_⟩
    · refine bind_ev (spec_good cs rs m hrs hcs hm) (ite_t h ?_)
      refine bind_ev ?_ (Ev.now _)
      unfold spec_l15Live.f
      have := live_l0 cs rs m hb R rs (by omega) rs [] [] rfl ⟨by simp, by simp⟩ hr (by simpa using e2)
      simpa using this
    · refine bind_ev (impl_good cs rs m hcs hm) (ite_t h ?_)
      refine bind_ev ?_ (Ev.now _)
      unfold impl_Marker_live.f
      refine bind_ev (Ev.now _) (ite_t (by simp; omega) ?_)
      simpa using e1
  · exact ⟨([], false), by simp, bind_ev (spec_good cs rs m hrs hcs hm) (ite_f h (Ev.now _)), bind_ev (impl_good cs rs m hcs hm) (ite_f h (Ev.now _))⟩
theorem cntCell_le : ∀ (l : List S44), (∀ c ∈ l, c.f0.length ≤ 1048576) → markCellS_cnt l ≤ l.length * 1048578
  | [], _ => by simp [markCellS_cnt]
  | x :: xs, h => by
    have ih := cntCell_le xs (fun c hc => h c (List.mem_cons_of_mem _ hc))
    have h1 := h x (by simp)
    simp only [markCellS_cnt, markCellS_cnt1, List.length_cons]
    omega
theorem FnExactLiveIn (y : S33) (hp : wf_S33 y) : ∃ k, laws_FnExactLiveIn.f k y.f0 y.f1 y.f2 = some true := by
  obtain ⟨z, ⟨k1, hz⟩, hz2⟩ := szMarker_ok y 1048576 (by omega) (by omega) hp
  unfold laws_FnExactLiveIn.f
  by_cases h : z < 0
  · exact ⟨k1, if_pos ⟨z, hz k1 (Nat.le_refl _), .inl h⟩⟩
  · have hl := (hz2 (by omega)).2
    have hl2 := cv_bd y hl
    have hm : ∀ c ∈ (cv_S33 y).f0, c.f0.length ≤ 1048576 := fun c hc => (hl2.1.2 c hc).1
    obtain ⟨k2, ht⟩ := toMarker_ev y hl
    obtain ⟨⟨o, b⟩, ho, ⟨k3, h1⟩, ⟨k4, h2⟩⟩ := live_both (cv_S33 y).f0 (cv_S33 y).f1 (cv_S33 y).f2 hl2.2.1 hl2.1.1 hm
    simp only at ho
    obtain ⟨k5, he⟩ := eqMarker_ev _ hl2
    obtain ⟨k6, hq⟩ := eqIntS_ev o ho
    obtain ⟨k7, hh⟩ := heldIntS_ev o.length 1 (by omega) (by omega) (by omega)
    obtain ⟨k8, hk⟩ := markIntS_flat o 1 (by omega) (by omega) (by omega)
    have hc := cntCell_le _ hm
    have hc2 : (1 + (markCellS_cnt (cv_S33 y).f0 : Nat) + ((cv_S33 y).f1.length : Nat) : Int) < 2305843009213693952 := by
      have h3 := hl2.1.1
      have h4 := hl2.2.1
      omega
    generalize hk' : k1 + k2 + k3 + k4 + k5 + k6 + k7 + k8 = k
    exact ⟨k, if_pos ⟨z, hz k (by omega), .inr ⟨h, _, _, _, ht k (by omega), _, _, h1 k (by omega), _, _, _, ht k (by omega), _, h2 k (by omega), hq k (by omega), _, _, _, ht k (by omega), he k (by omega), hc2, hq k (by omega), _, _, hk k (by omega), by omega, hh k (by omega),
      _, _, _, ht k (by omega), _, h2 k (by omega), hq k (by omega), hh k (by omega), trivial⟩⟩⟩
end Go.Proofs.Ytmgnnegmohmbhaa.Pure
