/- Markers: the program and the reference ask the same of a marker. Conditions: none. -/
import Derived.Test.YtmgnnegmohmbhaaDataN
import Derived.Test.YtmgnnegmohmbhaaQx0
import Derived.Test.YtmgnnegmohmbhaaQx2
import Derived.Test.YtmgnnegmohmbhaaQx3
import Derived.Test.YtmgnnegmohmbhaaQx5
import Derived.Test.YtmgnnegmohmbhaaQx6
set_option linter.unusedVariables false
set_option linter.unusedSimpArgs false
namespace Go.Proofs.Ytmgnnegmohmbhaa.Pure
open Go.RowKit Go.Proofs.Ytmgnnegmohmbhaa.Q Go.Proofs.YtmgnnegmohmbhaaW.PrintWords Go.Proofs.YtmgnnegmohmbhaaW.PrintLast Go.Proofs.Ytmgnnegmohmbhaa.Kit Go.Proofs.Ytmgnnegmohmbhaa.Wf

def inB (a b c : Int) : Bool := if a ≥ b then decide (a ≤ c) else false
theorem spec_in (a b c : Int) : spec_l1In.f a b c = some (inB a b c) := by unfold spec_l1In.f inB; split <;> rfl
theorem impl_in (a b c : Int) : impl_in.f a b c = some (inB a b c) := by unfold impl_in.f inB; split <;> rfl
theorem inB_iff (a b c : Int) : inB a b c = true ↔ b ≤ a ∧ a ≤ c := by
  unfold inB; split <;> simp <;> omega
/-- Is it -1, or a cell that is not free? -/
def taken (cs : List S44) (x : Int) : Bool := decide (x = -1) || (decide (0 ≤ x) && decide (x < cs.length) && !(rd_T44 cs x).f2)
/-- Is it a white cell? -/
def wh (cs : List S44) (x : Int) : Bool := decide (0 ≤ x) && decide ((rd_T44 cs x).f1 = 0)
def lk (cs : List S44) (fr : Bool) (co : Int) (x : Int) : Bool := taken cs x && !(fr && !decide (x = -1)) && !(decide (co = 2) && wh cs x)
def hd (m : Bool) (c : S44) : Bool := decide (c.f0.length = 2) && inB c.f1 0 2 && !((c.f1 != 0) && (c.f2 || !m))
def cellOk (m : Bool) (cs : List S44) (c : S44) : Bool := hd m c && c.f0.all (lk cs c.f2 c.f1)
def rt (m : Bool) (cs : List S44) (x : Int) : Bool := taken cs x && !(m && wh cs x)
def goodM (cs : List S44) (rs : List Int) (m : Bool) : Bool := inB cs.length 2 10 && decide (rs.length = 2) && (cs.all (cellOk m cs) && rs.all (rt m cs))

theorem taken_lt {cs : List S44} {x : Int} (h : taken cs x = true) (h0 : 0 ≤ x) : x < cs.length := by
  unfold taken at h
  rcases (by simpa using h : x = -1 ∨ (0 ≤ x ∧ x < cs.length) ∧ _) with e | ⟨⟨_, h⟩, _⟩
  · omega
  · exact h
theorem taken_spec (cs : List S44) (rs : List Int) (m : Bool) (x : Int) : spec_l15Cell.f cs rs m x = some (taken cs x) := by
  unfold spec_l15Cell.f taken
  by_cases h : x = -1
  · rw [if_pos h]; simp [h]
  · rw [if_neg h]
    by_cases h1 : x ≥ 0
    · rw [if_pos h1]
      by_cases h2 : x < (cs.length : Int)
      · rw [if_pos h2, if_pos h1]; simp [h, h2]; intro h3; omega
      · rw [if_neg h2]; simp [h, h2]
    · rw [if_neg h1]; simp [h]; omega
theorem taken_impl (cs : List S44) (rs : List Int) (m : Bool) (x : Int) (hb : cs.length ≤ 1048576) : impl_Marker_isTaken.f cs rs m x = some (taken cs x) := by
  unfold impl_Marker_isTaken.f taken
  by_cases h : x = -1
  · rw [if_pos h]; simp [h]
  · rw [if_neg h, w64 (by omega) (by omega), impl_in]
    simp only [Option.bind_some]
    by_cases h1 : inB x 0 (↑cs.length - 1) = true
    · have h2 := (inB_iff _ _ _).1 h1
      rw [if_pos h1, if_pos h2.1, if_pos (by omega)]
      simp [h, h2.1, show x < (cs.length : Int) by omega]
    · rw [if_neg h1]
      have h2 : ¬ (0 ≤ x ∧ x ≤ ↑cs.length - 1) := fun z => h1 ((inB_iff _ _ _).2 z)
      have : (decide (0 ≤ x) && decide (x < (cs.length : Int))) = false := by
        rw [Bool.and_eq_false_iff]; simp; omega
      rw [this]; simp [h]
theorem color_spec (cs : List S44) (rs : List Int) (m : Bool) (x : Int) (h : taken cs x = true) : ∃ c : Int, spec_l15Color.f cs rs m x = some c ∧ decide (c = 0) = wh cs x := by
  unfold spec_l15Color.f wh
  by_cases h0 : x < 0
  · exact ⟨1, if_pos h0, by simp; omega⟩
  · refine ⟨(rd_T44 cs x).f1, ?_, by simp; omega⟩
    rw [if_neg h0, if_pos (by omega), if_pos (taken_lt h (by omega))]

theorem tail_spec {f : Nat → Option Bool} {r : Bool} (co c : Int) (b : Bool) (hc : decide (c = 0) = b) (h : Ev f r) :
    Ev (fun k => if co = 2 then ((some c).bind fun t => if t = 0 then some false else f k) else f k) (!(decide (co = 2) && b) && r) := by
  subst hc
  by_cases h1 : co = 2
  · refine ite_t h1 ?_
    simp only [Option.bind_some]
    by_cases h2 : c = 0
    · exact ite_t h2 (some_ev (by simp [h1, h2]))
    · refine ite_f h2 ?_
      simpa [h1, h2] using h
  · refine ite_f h1 ?_
    simpa [h1] using h
theorem spec_l1 (x21 : List S44) (x22 x23 : Int) (cs : List S44) (rs : List Int) (m : Bool) (fl : List Int) (co : Int) (fr : Bool) (r : Bool)
    (hr : Ev (fun k => spec_GoodMarker.l0 k x21 x22 (wrap64 (x23 + 1)) cs rs m) r) : ∀ (post pre : List Int), pre.length + post.length ≤ 1048576 →
    Ev (fun k => spec_GoodMarker.l1 k x21 x22 x23 (pre ++ post) ((pre ++ post).length : Int) (pre.length : Int) cs rs m fl co fr) (post.all (lk cs fr co) && r)
  | [], pre, hb => by
    refine Ev.step (fun k => by simp only [spec_GoodMarker.l1]; rw [if_neg (by simp)]) ?_
    simpa using hr
  | x :: post, pre, hb => by
    simp at hb
    refine Ev.step (fun k => by
      simp only [spec_GoodMarker.l1]
      rw [if_pos (by simp; omega), if_pos (by omega), if_pos (by simp; omega), rd_at rfl, taken_spec, w_succ (by omega)]) ?_
    simp only [Option.bind_some, List.all_cons]
    have ih : Ev (fun k => spec_GoodMarker.l1 k x21 x22 x23 (pre ++ x :: post) ((pre ++ x :: post).length : Int) ((pre.length + 1 : Nat) : Int) cs rs m fl co fr) (post.all (lk cs fr co) && r) := by
      simpa using spec_l1 x21 x22 x23 cs rs m fl co fr r hr post (pre ++ [x]) (by simp; omega)
    by_cases ht : taken cs x = true
    · refine ite_t ht ?_
      obtain ⟨c, hc, hc0⟩ := color_spec cs rs m x ht
      rw [hc]
      have tl := tail_spec co c _ hc0 ih
      cases fr with
      | true =>
        refine ite_t rfl ?_
        by_cases hx : x = -1
        · refine ite_t hx ?_
          have e : lk cs true co x = !(decide (co = 2) && wh cs x) := by unfold lk; rw [ht]; simp [hx]
          rw [e, Bool.and_assoc]; exact tl
        · exact ite_f hx (some_ev (by simp [lk, hx]))
      | false =>
        refine ite_f (by simp) ?_
        have e : lk cs false co x = !(decide (co = 2) && wh cs x) := by unfold lk; rw [ht]; simp
        rw [e, Bool.and_assoc]; exact tl
    · exact ite_f ht (some_ev (by simp [lk, ht]))
theorem spec_l2 (cs : List S44) (rs : List Int) (m : Bool) : ∀ (post pre : List Int), pre.length + post.length ≤ 1048576 →
    Ev (fun k => spec_GoodMarker.l2 k (pre ++ post) ((pre ++ post).length : Int) (pre.length : Int) cs rs m) (post.all (rt m cs))
  | [], pre, hb => by
    refine Ev.step (fun k => by simp only [spec_GoodMarker.l2]; rw [if_neg (by simp)]) ?_
    exact some_ev (by simp)
  | x :: post, pre, hb => by
    simp at hb
    refine Ev.step (fun k => by
      simp only [spec_GoodMarker.l2]
      rw [if_pos (by simp; omega), if_pos (by omega), if_pos (by simp; omega), rd_at rfl, taken_spec, w_succ (by omega)]) ?_
    simp only [Option.bind_some, List.all_cons]
    have ih : Ev (fun k => spec_GoodMarker.l2 k (pre ++ x :: post) ((pre ++ x :: post).length : Int) ((pre.length + 1 : Nat) : Int) cs rs m) (post.all (rt m cs)) := by
      simpa using spec_l2 cs rs m post (pre ++ [x]) (by simp; omega)
    by_cases ht : taken cs x = true
    · refine ite_t ht ?_
      obtain ⟨c, hc, hc0⟩ := color_spec cs rs m x ht
      rw [hc]
      simp only [Option.bind_some]
      cases m with
      | true =>
        refine ite_t rfl ?_
        by_cases h2 : c = 0
        · exact ite_t h2 (some_ev (by simp [rt, ← hc0, h2]))
        · refine ite_f h2 ?_
          simpa [rt, ht, ← hc0, h2] using ih
      | false =>
        refine ite_f (by simp) ?_
        simpa [rt, ht] using ih
    · exact ite_f ht (some_ev (by simp [rt, ht]))
theorem spec_l0 (cs : List S44) (rs : List Int) (m : Bool) (hrs : rs.length ≤ 1048576) : ∀ (post pre : List S44), pre.length + post.length ≤ 1048576 → (∀ c ∈ post, c.f0.length ≤ 1048576) →
    Ev (fun k => spec_GoodMarker.l0 k (pre ++ post) ((pre ++ post).length : Int) (pre.length : Int) cs rs m) (post.all (cellOk m cs) && rs.all (rt m cs))
  | [], pre, hb, hm => by
    refine Ev.step (fun k => by simp only [spec_GoodMarker.l0]; rw [if_neg (by simp)]) ?_
    simpa using spec_l2 cs rs m rs [] (by simpa using hrs)
  | c :: post, pre, hb, hm => by
    simp at hb
    refine Ev.step (fun k => by
      simp only [spec_GoodMarker.l0]
      rw [if_pos (by simp; omega), if_pos (by omega), if_pos (by simp; omega), rdat_T44 rfl, spec_in]) ?_
    simp only [Option.bind_some, List.all_cons]
    have ih : Ev (fun k => spec_GoodMarker.l0 k (pre ++ c :: post) ((pre ++ c :: post).length : Int) (wrap64 ((pre.length : Int) + 1)) cs rs m) (post.all (cellOk m cs) && rs.all (rt m cs)) := by
      rw [w_succ (by omega)]
      simpa using spec_l0 cs rs m hrs post (pre ++ [c]) (by simp; omega) (fun y hy => hm y (by simp [hy]))
    have j2 : ∀ (b : Bool), b = !hd m c → Ev (fun k => spec_GoodMarker.j2 k (pre ++ c :: post) ((pre ++ c :: post).length : Int) (pre.length : Int) b cs rs m c.f0 c.f1 c.f2) (cellOk m cs c && post.all (cellOk m cs) && rs.all (rt m cs)) := by
      intro b hb2
      cases h : hd m c with
      | true =>
        rw [h] at hb2; subst hb2
        refine Ev.step (fun k => by simp only [spec_GoodMarker.j2]; rw [if_neg (by simp)]) ?_
        have := spec_l1 _ _ _ cs rs m c.f0 c.f1 c.f2 _ ih c.f0 [] (by simpa using hm c (by simp))
        simpa [cellOk, h, Bool.and_assoc] using this
      | false =>
        rw [h] at hb2; subst hb2
        refine Ev.step (fun k => by simp only [spec_GoodMarker.j2]; rw [if_pos (by simp)]) ?_
        exact some_ev (by simp [cellOk, h])
    by_cases h1 : ((c.f0.length : Int)) = 2
    · refine ite_t h1 ?_
      have h1' : c.f0.length = 2 := by omega
      by_cases h2 : inB c.f1 0 2 = true
      · refine ite_t h2 ?_
        by_cases h3 : c.f2 = true
        · exact ite_t h3 (j2 _ (by simp [hd, h1', h2, h3]))
        · refine ite_f h3 ?_
          by_cases h4 : m = true
          · exact ite_t h4 (j2 _ (by simp [hd, h1', h2, h3, h4]))
          · exact ite_f h4 (j2 _ (by simp [hd, h1', h2, h3, h4]))
      · exact ite_f h2 (j2 _ (by simp [hd, h2]))
    · exact ite_f h1 (j2 _ (by simp [hd, show ¬ c.f0.length = 2 by omega]))
theorem spec_good (cs : List S44) (rs : List Int) (m : Bool) (hrs : rs.length ≤ 1048576) (hcs : cs.length ≤ 1048576) (hm : ∀ c ∈ cs, c.f0.length ≤ 1048576) : Ev (fun k => spec_GoodMarker.f k cs rs m) (goodM cs rs m) := by
  unfold spec_GoodMarker.f goodM
  rw [spec_in]
  simp only [Option.bind_some]
  have no : Ev (fun k => spec_GoodMarker.j0 k true cs rs m) false := Ev.step (fun k => by simp only [spec_GoodMarker.j0]; rw [if_pos trivial]) (Ev.now _)
  by_cases h : inB cs.length 2 10 = true
  · refine ite_t h ?_
    by_cases h2 : rs.length = 2
    · rw [show (((rs.length : Int)) != 2) = false by rw [h2]; rfl]
      refine Ev.step (fun k => by simp only [spec_GoodMarker.j0]; rw [if_neg (by simp)]) ?_
      simpa [h, h2] using spec_l0 cs rs m hrs cs [] (by simpa using hcs) hm
    · rw [show (((rs.length : Int)) != 2) = true by simp; omega]
      simpa [h2] using no
  · refine ite_f h ?_
    simpa [h] using no

theorem cnt_impl (rs0 : List Int) (cs : List S44) (rs : List Int) (m : Bool) (hcs : cs.length ≤ 1048576) : slices_ContainsFunc_int_int_45.f rs0 cs rs m = some (!rs0.all (rt m cs)) := by
  unfold slices_ContainsFunc_int_int_45.f
  have e : (fun x : Int => impl_isMarker_1.f x cs rs m) = fun x => some (!rt m cs x) := by
    funext x
    unfold impl_isMarker_1.f
    rw [taken_impl _ _ _ _ hcs]
    simp only [Option.bind_some]
    by_cases ht : taken cs x = true
    · rw [if_pos ht]
      cases m with
      | true =>
        rw [if_pos rfl]
        by_cases h0 : x ≥ 0
        · rw [if_pos h0, if_pos h0, if_pos (taken_lt ht h0)]
          have h0' : 0 ≤ x := h0
          simp [rt, wh, ht, h0']
          by_cases h : (rd_T44 cs x).f1 = 0 <;> simp [h]
        · rw [if_neg h0]
          simp [rt, wh, ht]; omega
      | false => rw [if_neg (by simp)]; simp [rt, ht]
    · rw [if_neg ht]; simp [rt, ht]
  rw [e, Kit.anyO_some]
  congr 1
  rw [List.not_all_eq_any_not]
theorem tail_impl {f : Nat → Option Bool} {r : Bool} (m : Bool) (co : Int) (cs : List S44) (x : Int) (ht : taken cs x = true) (hm : co = 2 → m = true) (h : Ev f r) :
    Ev (fun k => if m = true then (if co = 2 then (if x ≥ 0 then (if 0 ≤ x then (if x < (cs.length : Int) then (if (rd_T44 cs x).f1 = 0 then some false else f k) else none) else none) else f k) else f k) else f k) (!(decide (co = 2) && wh cs x) && r) := by
  by_cases h1 : co = 2
  · refine ite_t (hm h1) (ite_t h1 ?_)
    by_cases h0 : x ≥ 0
    · have h0' : 0 ≤ x := h0
      refine ite_t h0 (ite_t h0 (ite_t (taken_lt ht h0) ?_))
      by_cases h2 : (rd_T44 cs x).f1 = 0
      · exact ite_t h2 (some_ev (by simp [h1, wh, h0', h2]))
      · refine ite_f h2 ?_
        simpa [h1, wh, h2] using h
    · refine ite_f h0 ?_
      have h0' : decide (0 ≤ x) = false := by simp; omega
      simpa [h1, wh, h0'] using h
  · have e : (!(decide (co = 2) && wh cs x) && r) = r := by simp [h1]
    rw [e]
    cases m with
    | true => exact ite_t rfl (ite_f h1 h)
    | false => exact ite_f (by simp) h
theorem impl_l1 (x21 : List S44) (x22 x23 : Int) (cs : List S44) (rs : List Int) (m : Bool) (hcs : cs.length ≤ 1048576) (fl : List Int) (co : Int) (fr : Bool) (hm : co = 2 → m = true) (r : Bool)
    (hr : Ev (fun k => impl_isMarker.l0 k x21 x22 (wrap64 (x23 + 1)) cs rs m) r) : ∀ (post pre : List Int), pre.length + post.length ≤ 1048576 →
    Ev (fun k => impl_isMarker.l1 k x21 x22 x23 (pre ++ post) ((pre ++ post).length : Int) (pre.length : Int) cs rs m fl co fr) (post.all (lk cs fr co) && r)
  | [], pre, hb => by
    refine Ev.step (fun k => by simp only [impl_isMarker.l1]; rw [if_neg (by simp)]) ?_
    simpa using hr
  | x :: post, pre, hb => by
    simp at hb
    refine Ev.step (fun k => by
      simp only [impl_isMarker.l1]
      rw [if_pos (by simp; omega), if_pos (by omega), if_pos (by simp; omega), rd_at rfl, taken_impl _ _ _ _ hcs, w_succ (by omega)]) ?_
    simp only [Option.bind_some, List.all_cons]
    have ih : Ev (fun k => impl_isMarker.l1 k x21 x22 x23 (pre ++ x :: post) ((pre ++ x :: post).length : Int) ((pre.length + 1 : Nat) : Int) cs rs m fl co fr) (post.all (lk cs fr co) && r) := by
      simpa using impl_l1 x21 x22 x23 cs rs m hcs fl co fr hm r hr post (pre ++ [x]) (by simp; omega)
    by_cases ht : taken cs x = true
    · refine ite_t ht ?_
      have tl := tail_impl m co cs x ht hm ih
      cases fr with
      | true =>
        refine ite_t rfl ?_
        by_cases hx : x = -1
        · refine ite_t hx ?_
          have e : lk cs true co x = !(decide (co = 2) && wh cs x) := by unfold lk; rw [ht]; simp [hx]
          rw [e, Bool.and_assoc]; exact tl
        · exact ite_f hx (some_ev (by simp [lk, hx]))
      | false =>
        refine ite_f (by simp) ?_
        have e : lk cs false co x = !(decide (co = 2) && wh cs x) := by unfold lk; rw [ht]; simp
        rw [e, Bool.and_assoc]; exact tl
    · exact ite_f ht (some_ev (by simp [lk, ht]))
theorem impl_l0 (cs : List S44) (rs : List Int) (m : Bool) (hcs : cs.length ≤ 1048576) : ∀ (post pre : List S44), pre.length + post.length ≤ 1048576 → (∀ c ∈ post, c.f0.length ≤ 1048576) →
    Ev (fun k => impl_isMarker.l0 k (pre ++ post) ((pre ++ post).length : Int) (pre.length : Int) cs rs m) (post.all (cellOk m cs) && rs.all (rt m cs))
  | [], pre, hb, hm => by
    refine Ev.step (fun k => by simp only [impl_isMarker.l0]; rw [if_neg (by simp), cnt_impl _ _ _ _ hcs]) ?_
    exact some_ev (by simp)
  | c :: post, pre, hb, hm => by
    simp at hb
    refine Ev.step (fun k => by
      simp only [impl_isMarker.l0]
      rw [if_pos (by simp; omega), if_pos (by omega), if_pos (by simp; omega), rdat_T44 rfl, impl_in]) ?_
    simp only [Option.bind_some, List.all_cons]
    have ih : Ev (fun k => impl_isMarker.l0 k (pre ++ c :: post) ((pre ++ c :: post).length : Int) (wrap64 ((pre.length : Int) + 1)) cs rs m) (post.all (cellOk m cs) && rs.all (rt m cs)) := by
      rw [w_succ (by omega)]
      simpa using impl_l0 cs rs m hcs post (pre ++ [c]) (by simp; omega) (fun y hy => hm y (by simp [hy]))
    have j2 : ∀ (b : Bool), b = !hd m c → Ev (fun k => impl_isMarker.j2 k (pre ++ c :: post) ((pre ++ c :: post).length : Int) (pre.length : Int) b cs rs m c.f0 c.f1 c.f2) (cellOk m cs c && post.all (cellOk m cs) && rs.all (rt m cs)) := by
      intro b hb2
      cases h : hd m c with
      | true =>
        rw [h] at hb2; subst hb2
        refine Ev.step (fun k => by simp only [impl_isMarker.j2]; rw [if_neg (by simp)]) ?_
        have hco : c.f1 = 2 → m = true := by
          intro h2
          simp only [hd, h2, Bool.and_eq_true] at h
          have h3 := h.2
          cases m <;> simp at h3 ⊢
        have := impl_l1 _ _ _ cs rs m hcs c.f0 c.f1 c.f2 hco _ ih c.f0 [] (by simpa using hm c (by simp))
        simpa [cellOk, h, Bool.and_assoc] using this
      | false =>
        rw [h] at hb2; subst hb2
        refine Ev.step (fun k => by simp only [impl_isMarker.j2]; rw [if_pos (by simp)]) ?_
        exact some_ev (by simp [cellOk, h])
    by_cases h1 : ((c.f0.length : Int)) = 2
    · refine ite_t h1 ?_
      have h1' : c.f0.length = 2 := by omega
      by_cases h2 : inB c.f1 0 2 = true
      · refine ite_t h2 ?_
        by_cases h5 : c.f1 = 0
        · exact ite_t h5 (j2 _ (by simp [hd, h1', h2, h5, inB]))
        · refine ite_f h5 ?_
          by_cases h3 : c.f2 = true
          · exact ite_t h3 (j2 _ (by simp [hd, h1', h2, h3, h5]))
          · exact ite_f h3 (j2 _ (by simp [hd, h1', h2, h3, h5]))
      · exact ite_f h2 (j2 _ (by simp [hd, h2]))
    · exact ite_f h1 (j2 _ (by simp [hd, show ¬ c.f0.length = 2 by omega]))
theorem impl_good (cs : List S44) (rs : List Int) (m : Bool) (hcs : cs.length ≤ 1048576) (hm : ∀ c ∈ cs, c.f0.length ≤ 1048576) : Ev (fun k => impl_isMarker.f k cs rs m) (goodM cs rs m) := by
  unfold impl_isMarker.f goodM
  rw [impl_in]
  simp only [Option.bind_some]
  have no : Ev (fun k => impl_isMarker.j0 k true cs rs m) false := Ev.step (fun k => by simp only [impl_isMarker.j0]; rw [if_pos trivial]) (Ev.now _)
  by_cases h : inB cs.length 2 10 = true
  · refine ite_t h ?_
    by_cases h2 : rs.length = 2
    · rw [show (((rs.length : Int)) != 2) = false by rw [h2]; rfl]
      refine Ev.step (fun k => by simp only [impl_isMarker.j0]; rw [if_neg (by simp)]) ?_
      simpa [h, h2] using impl_l0 cs rs m hcs cs [] (by simpa using hcs) hm
    · rw [show (((rs.length : Int)) != 2) = true by simp; omega]
      simpa [h2] using no
  · refine ite_f h ?_
    simpa [h] using no
theorem cv_bd (y : S33) (h : bd_S33 y) : bd_S25 (cv_S33 y) := by
  obtain ⟨⟨h1, h2⟩, h3, _⟩ := h
  refine ⟨⟨by simpa [cv_S33] using h1, ?_⟩, h3, trivial⟩
  intro c hc
  simp only [cv_S33, List.mem_map] at hc
  obtain ⟨a, ha, rfl⟩ := hc
  exact h2 a ha
end Go.Proofs.Ytmgnnegmohmbhaa.Pure
