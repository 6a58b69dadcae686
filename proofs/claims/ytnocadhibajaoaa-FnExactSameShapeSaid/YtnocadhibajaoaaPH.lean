/- Heaps: the program and the reference ask the same of a heap. Conditions: none. -/
import Derived.Test.YtnocadhibajaoaaDataN
import Derived.Test.YtnocadhibajaoaaQx0
import Derived.Test.YtnocadhibajaoaaQx2
import Derived.Test.YtnocadhibajaoaaQx3
import Derived.Test.YtnocadhibajaoaaQx6
import Derived.Test.YtnocadhibajaoaaQx7
set_option linter.unusedVariables false
set_option linter.unusedSimpArgs false
namespace Go.Proofs.Ytnocadhibajaoaa.Pure
open Go.RowKit Go.Proofs.Ytnocadhibajaoaa.Q Go.Proofs.YtnocadhibajaoaaW.PrintWords Go.Proofs.YtnocadhibajaoaaW.PrintLast Go.Proofs.Ytnocadhibajaoaa.Kit Go.Proofs.Ytnocadhibajaoaa.Wf

def inB (a b c : Int) : Bool := if a ≥ b then decide (a ≤ c) else false
theorem spec_in (a b c : Int) : spec_l1In.f a b c = some (inB a b c) := by unfold spec_l1In.f inB; split <;> rfl
theorem impl_in (a b c : Int) : impl_in.f a b c = some (inB a b c) := by unfold impl_in.f inB; split <;> rfl
theorem inB_iff (a b c : Int) : inB a b c = true ↔ b ≤ a ∧ a ≤ c := by
  unfold inB; split <;> simp <;> omega
/-- The place of an object of a name, -1 for none. -/
def atI : Nat → List S45 → Int → Int
  | _, [], _ => -1
  | i, o :: os, x => if o.f0 = x then (i : Int) else atI (i + 1) os x
def at_ (os : List S45) (x : Int) : Int := atI 0 os x
theorem atI_lt : ∀ (i : Nat) (os : List S45) (x : Int), atI i os x < (i : Int) + os.length
  | i, [], x => by simp [atI]; omega
  | i, o :: os, x => by
    have := atI_lt (i + 1) os x
    unfold atI
    split <;> simp <;> omega
theorem at_lt (os : List S45) (x : Int) : at_ os x < os.length := by
  have := atI_lt 0 os x
  unfold at_; omega
theorem spec_at_l0 (x : Int) : ∀ (post pre : List S45), pre.length + post.length ≤ 1048576 →
    Ev (fun k => spec_l14At.l0 k x (pre ++ post) ((pre ++ post).length : Int) (pre.length : Int)) (atI pre.length post x)
  | [], pre, hb => by
    refine Ev.step (fun k => by simp only [spec_l14At.l0]; rw [if_neg (by simp)]) ?_
    exact some_ev rfl
  | o :: post, pre, hb => by
    simp at hb
    refine Ev.step (fun k => by
      simp only [spec_l14At.l0]
      rw [if_pos (by simp; omega), if_pos (by omega), if_pos (by simp; omega), rdat_T45 rfl, w_succ (by omega)]) ?_
    by_cases h : o.f0 = x
    · exact ite_t h (some_ev (by simp [atI, h]))
    · refine ite_f h ?_
      have ih := spec_at_l0 x post (pre ++ [o]) (by simp; omega)
      simpa [atI, h] using ih
theorem spec_at (os : List S45) (rs nt : List Int) (n x : Int) (hb : os.length ≤ 1048576) : Ev (fun k => spec_l14At.f k os rs nt n x) (at_ os x) := by
  unfold spec_l14At.f at_
  simpa using spec_at_l0 x os [] (by simpa using hb)
theorem idx_at (x : Int) : ∀ (os : List S45) (i : Nat), Kit.idxO (fun o : S45 => impl_Heap_at_1.f o.f0 o.f1 o.f2 x) os i = some (atI i os x)
  | [], i => rfl
  | o :: os, i => by
    simp only [Kit.idxO, impl_Heap_at_1.f, Option.bind_some, atI]
    by_cases h : o.f0 = x
    · simp [h]
    · simp [h]
      exact idx_at x os (i + 1)
theorem impl_at (os : List S45) (rs nt : List Int) (n x : Int) : impl_Heap_at.f os rs nt n x = some (at_ os x) := by
  unfold impl_Heap_at.f impl_Object_68.f
  rw [idx_at]; rfl
def link (os : List S45) (x : Int) : Bool := decide (x = -1) || decide (at_ os x ≥ 0)
def young (os : List S45) (x : Int) : Bool := decide (at_ os x ≥ 0) && !(rd_T45 os (at_ os x)).f1
theorem spec_link (os : List S45) (rs nt : List Int) (n x : Int) (hb : os.length ≤ 1048576) : Ev (fun k => spec_l14Link.f k os rs nt n x) (link os x) := by
  unfold spec_l14Link.f link
  by_cases h : x = -1
  · exact ite_t h (some_ev (by simp [h]))
  · exact ite_f h (bind_ev (spec_at os rs nt n x hb) (some_ev (by simp [h])))
theorem impl_link (os : List S45) (rs nt : List Int) (n x : Int) : impl_Heap_leads.f os rs nt n x = some (link os x) := by
  unfold impl_Heap_leads.f link
  rw [impl_at]
  by_cases h : x = -1
  · rw [if_pos h]; simp [h]
  · rw [if_neg h]; simp [h]
theorem spec_young (os : List S45) (rs nt : List Int) (n x : Int) (hb : os.length ≤ 1048576) : Ev (fun k => spec_l14Young.f k os rs nt n x) (young os x) := by
  unfold spec_l14Young.f young
  refine bind_ev (spec_at os rs nt n x hb) ?_
  by_cases h : at_ os x ≥ 0
  · exact ite_t h (ite_t h (ite_t (at_lt os x) (some_ev (by simp [h]))))
  · exact ite_f h (some_ev (by simp [h]))
theorem impl_young (os : List S45) (rs nt : List Int) (n x : Int) : impl_Heap_isYoung.f os rs nt n x = some (young os x) := by
  unfold impl_Heap_isYoung.f young
  rw [impl_at]
  simp only [Option.bind_some]
  by_cases h : at_ os x ≥ 0
  · rw [if_pos h, if_pos h, if_pos (at_lt os x)]; simp [h]
  · rw [if_neg h]; simp [h]
def has (l : List Int) (x : Int) : Bool := l.any fun y => decide (y = x)
theorem spec_has_l0 (x : Int) : ∀ (post pre : List Int), pre.length + post.length ≤ 1048576 →
    Ev (fun k => spec_l1Has.l0 k x (pre ++ post) ((pre ++ post).length : Int) (pre.length : Int)) (has post x)
  | [], pre, hb => by
    refine Ev.step (fun k => by simp only [spec_l1Has.l0]; rw [if_neg (by simp)]) ?_
    exact some_ev rfl
  | y :: post, pre, hb => by
    simp at hb
    refine Ev.step (fun k => by
      simp only [spec_l1Has.l0]
      rw [if_pos (by simp; omega), if_pos (by omega), if_pos (by simp; omega), rd_at rfl, w_succ (by omega)]) ?_
    by_cases h : y = x
    · exact ite_t h (some_ev (by simp [has, h]))
    · refine ite_f h ?_
      have ih := spec_has_l0 x post (pre ++ [y]) (by simp; omega)
      simpa [has, h] using ih
theorem spec_has (l : List Int) (x : Int) (hb : l.length ≤ 1048576) : Ev (fun k => spec_l1Has.f k l x) (has l x) := by
  unfold spec_l1Has.f
  simpa using spec_has_l0 x l [] (by simpa using hb)
theorem index_l0 (x : Int) : ∀ (post pre : List Int), pre.length + post.length ≤ 1048576 →
    ∃ r, Ev (fun k => slices_Index_int_int.l0 k (pre ++ post) x ((pre ++ post).length : Int) (pre.length : Int)) r ∧ decide (r ≥ 0) = has post x
  | [], pre, hb => by
    refine ⟨-1, Ev.step (fun k => by simp only [slices_Index_int_int.l0]; rw [if_neg (by simp)]) (Ev.now _), by simp [has]⟩
  | y :: post, pre, hb => by
    simp at hb
    by_cases h : x = y
    · refine ⟨pre.length, Ev.step (fun k => by
        simp only [slices_Index_int_int.l0]
        rw [if_pos (by simp; omega), if_pos (by omega), if_pos (by simp; omega), rd_at rfl, if_pos h]) (Ev.now _), ?_⟩
      subst h
      simp [has]
    · obtain ⟨r, hr, h2⟩ := index_l0 x post (pre ++ [y]) (by simp; omega)
      refine ⟨r, Ev.step (fun k => by
        simp only [slices_Index_int_int.l0]
        rw [if_pos (by simp; omega), if_pos (by omega), if_pos (by simp; omega), rd_at rfl, if_neg h, w_succ (by omega)]) (by simpa using hr), ?_⟩
      rw [h2]
      simp [has, show ¬ y = x from fun z => h z.symm]
theorem impl_has (l : List Int) (x : Int) (hb : l.length ≤ 1048576) : Ev (fun k => slices_Contains_int_int.f k l x) (has l x) := by
  unfold slices_Contains_int_int.f slices_Index_int_int.f
  obtain ⟨r, hr, h2⟩ := index_l0 x l [] (by simpa using hb)
  exact bind_ev (by simpa using hr) (some_ev h2)

def lk (os : List S45) (nt : List Int) (nm : Int) (old : Bool) (x : Int) : Bool := link os x && !(old && young os x && !has nt nm)
def prevO (os : List S45) (i : Nat) (nm : Int) : Bool := decide (i = 0) || !decide ((rd_T45 os ((i : Int) - 1)).f0 ≥ nm)
def objHd (os : List S45) (n : Int) (i : Nat) (o : S45) : Bool := !decide (o.f0 < 0) && !decide (o.f0 ≥ n) && prevO os i o.f0 && decide (o.f2.length = 2)
def objOk (os : List S45) (nt : List Int) (n : Int) (i : Nat) (o : S45) : Bool := objHd os n i o && o.f2.all (lk os nt o.f0 o.f1)
def objsOk (os : List S45) (nt : List Int) (n : Int) : Nat → List S45 → Bool
  | _, [] => true
  | i, o :: post => objOk os nt n i o && objsOk os nt n (i + 1) post
def prevN (nt : List Int) (i : Nat) (x : Int) : Bool := decide (i = 0) || !decide (rd nt ((i : Int) - 1) ≥ x)
def notedOk (os : List S45) (nt : List Int) : Nat → List Int → Bool
  | _, [] => true
  | i, x :: post => decide (at_ os x ≥ 0) && !young os x && prevN nt i x && notedOk os nt (i + 1) post
def goodH (os : List S45) (rs nt : List Int) (n : Int) : Bool := !decide ((os.length : Int) > 24) && decide (rs.length = 6) && inB n 0 1000 && objsOk os nt n 0 os && rs.all (link os) && notedOk os nt 0 nt

theorem prevN_f {nt : List Int} {i : Nat} {x : Int} (hp : (i : Int) > 0) (hq : rd nt ((i : Int) - 1) ≥ x) : prevN nt i x = false := by unfold prevN; simp [hq]; omega
theorem prevN_t {nt : List Int} {i : Nat} {x : Int} (hq : ¬ rd nt ((i : Int) - 1) ≥ x) : prevN nt i x = true := by unfold prevN; simp [hq]
theorem prevN_0 {nt : List Int} {i : Nat} {x : Int} (hp : ¬ (i : Int) > 0) : prevN nt i x = true := by
  have : i = 0 := by omega
  subst this; rfl
theorem prevO_f {os : List S45} {i : Nat} {x : Int} (hp : (i : Int) > 0) (hq : (rd_T45 os ((i : Int) - 1)).f0 ≥ x) : prevO os i x = false := by unfold prevO; simp [hq]; omega
theorem prevO_t {os : List S45} {i : Nat} {x : Int} (hq : ¬ (rd_T45 os ((i : Int) - 1)).f0 ≥ x) : prevO os i x = true := by unfold prevO; simp [hq]
theorem prevO_0 {os : List S45} {i : Nat} {x : Int} (hp : ¬ (i : Int) > 0) : prevO os i x = true := by
  have : i = 0 := by omega
  subst this; rfl
theorem rd_eq {nt pre post : List Int} {x : Int} (h : nt = pre ++ x :: post) : rd nt (pre.length : Int) = x := by subst h; exact rd_at rfl
theorem rdT_eq {os pre post : List S45} {o : S45} (h : os = pre ++ o :: post) : rd_T45 os (pre.length : Int) = o := by subst h; exact rdat_T45 rfl
theorem len_eq {α : Type} {l pre post : List α} {x : α} (h : l = pre ++ x :: post) : l.length = pre.length + (post.length + 1) := by subst h; simp
theorem len_eq0 {α : Type} {l pre : List α} (h : l = pre ++ []) : l.length = pre.length := by subst h; simp

theorem spec_l3 (os : List S45) (rs nt : List Int) (n : Int) (ho : os.length ≤ 1048576) (hn : nt.length ≤ 1048576) : ∀ (post pre : List Int), nt = pre ++ post →
    Ev (fun k => spec_GoodHeap.l3 k nt (nt.length : Int) (pre.length : Int) os rs nt n) (notedOk os nt pre.length post)
  | [], pre, h => by
    have hl := len_eq0 h
    refine Ev.step (fun k => by simp only [spec_GoodHeap.l3]; rw [if_neg (by omega)]) ?_
    exact some_ev rfl
  | x :: post, pre, h => by
    have hl := len_eq h
    refine Ev.step (fun k => by
      simp only [spec_GoodHeap.l3]
      rw [if_pos (by omega), if_pos (by omega), if_pos (by omega), rd_eq h, w_succ (by omega), w64 (x := (pre.length : Int) - 1) (by omega) (by omega)]) ?_
    refine bind_ev (spec_at os rs nt n x ho) ?_
    have ih := spec_l3 os rs nt n ho hn post (pre ++ [x]) (by simpa using h)
    rw [show (pre ++ [x]).length = pre.length + 1 by simp] at ih
    unfold notedOk
    by_cases h0 : at_ os x < 0
    · exact ite_t h0 (some_ev (by simp [show ¬ at_ os x ≥ 0 by omega]))
    · have h1 : at_ os x ≥ 0 := by omega
      refine ite_f h0 (ite_t h1 (ite_t (at_lt os x) ?_))
      by_cases hf : (rd_T45 os (at_ os x)).f1 = true
      · refine ite_t hf ?_
        have ey : young os x = false := by simp [young, hf]
        by_cases hp : (pre.length : Int) > 0
        · refine ite_t hp (ite_t (by omega) (ite_t (by omega) ?_))
          by_cases hq : rd nt ((pre.length : Int) - 1) ≥ x
          · exact ite_t hq (some_ev (by rw [prevN_f hp hq]; simp))
          · refine ite_f hq ?_
            rw [ey, prevN_t hq]
            simpa [h1] using ih
        · refine ite_f hp ?_
          rw [ey, prevN_0 hp]
          simpa [h1] using ih
      · refine ite_f hf (some_ev ?_)
        have ey : young os x = true := by simp [young, hf, h1]
        rw [ey]; simp
theorem spec_l2 (os : List S45) (rs nt : List Int) (n : Int) (ho : os.length ≤ 1048576) (hn : nt.length ≤ 1048576) : ∀ (post pre : List Int), pre.length + post.length ≤ 1048576 →
    Ev (fun k => spec_GoodHeap.l2 k (pre ++ post) ((pre ++ post).length : Int) (pre.length : Int) os rs nt n) (post.all (link os) && notedOk os nt 0 nt)
  | [], pre, hb => by
    refine Ev.step (fun k => by simp only [spec_GoodHeap.l2]; rw [if_neg (by simp)]) ?_
    simpa using spec_l3 os rs nt n ho hn nt [] rfl
  | x :: post, pre, hb => by
    simp at hb
    refine Ev.step (fun k => by
      simp only [spec_GoodHeap.l2]
      rw [if_pos (by simp; omega), if_pos (by omega), if_pos (by simp; omega), rd_at rfl, w_succ (by omega)]) ?_
    refine bind_ev (spec_link os rs nt n x ho) ?_
    by_cases hx : link os x = true
    · refine ite_t hx ?_
      have ih := spec_l2 os rs nt n ho hn post (pre ++ [x]) (by simp; omega)
      simpa [hx] using ih
    · exact ite_f hx (some_ev (by simp [hx]))
theorem spec_l1 (x29 : List S45) (x30 x31 : Int) (os : List S45) (rs nt : List Int) (n : Int) (ho : os.length ≤ 1048576) (hn : nt.length ≤ 1048576) (nm : Int) (old : Bool) (ls : List Int) (r : Bool)
    (hr : Ev (fun k => spec_GoodHeap.l0 k x29 x30 (wrap64 (x31 + 1)) os rs nt n) r) : ∀ (post pre : List Int), pre.length + post.length ≤ 1048576 →
    Ev (fun k => spec_GoodHeap.l1 k x29 x30 x31 (pre ++ post) ((pre ++ post).length : Int) (pre.length : Int) os rs nt n nm old ls) (post.all (lk os nt nm old) && r)
  | [], pre, hb => by
    refine Ev.step (fun k => by simp only [spec_GoodHeap.l1]; rw [if_neg (by simp)]) ?_
    simpa using hr
  | x :: post, pre, hb => by
    simp at hb
    refine Ev.step (fun k => by
      simp only [spec_GoodHeap.l1]
      rw [if_pos (by simp; omega), if_pos (by omega), if_pos (by simp; omega), rd_at rfl, w_succ (by omega)]) ?_
    have ih : Ev (fun k => spec_GoodHeap.l1 k x29 x30 x31 (pre ++ x :: post) ((pre ++ x :: post).length : Int) ((pre.length + 1 : Nat) : Int) os rs nt n nm old ls) (post.all (lk os nt nm old) && r) := by
      simpa using spec_l1 x29 x30 x31 os rs nt n ho hn nm old ls r hr post (pre ++ [x]) (by simp; omega)
    refine bind_ev (spec_link os rs nt n x ho) ?_
    simp only [List.all_cons]
    have yes : lk os nt nm old x = true → Ev (fun k => spec_GoodHeap.l1 k x29 x30 x31 (pre ++ x :: post) ((pre ++ x :: post).length : Int) ((pre.length + 1 : Nat) : Int) os rs nt n nm old ls) (lk os nt nm old x && post.all (lk os nt nm old) && r) := by
      intro e; rw [e]; simpa using ih
    by_cases hx : link os x = true
    · refine ite_t hx ?_
      by_cases h1 : old = true
      · refine ite_t h1 (bind_ev (spec_young os rs nt n x ho) ?_)
        by_cases h2 : young os x = true
        · refine ite_t h2 (bind_ev (spec_has nt nm hn) ?_)
          by_cases h3 : has nt nm = true
          · exact ite_t h3 (yes (by simp [lk, hx, h3]))
          · exact ite_f h3 (some_ev (by rw [show lk os nt nm old x = false by simp [lk, hx, h1, h2, h3]]; simp))
        · exact ite_f h2 (yes (by simp [lk, hx, h2]))
      · exact ite_f h1 (yes (by simp [lk, hx, h1]))
    · exact ite_f hx (some_ev (by simp [lk, hx]))
theorem spec_l0 (os : List S45) (rs nt : List Int) (n : Int) (ho : os.length ≤ 1048576) (hn : nt.length ≤ 1048576) (hrs : rs.length ≤ 1048576) : ∀ (post pre : List S45), os = pre ++ post → (∀ c ∈ post, c.f2.length ≤ 1048576) →
    Ev (fun k => spec_GoodHeap.l0 k os (os.length : Int) (pre.length : Int) os rs nt n) (objsOk os nt n pre.length post && (rs.all (link os) && notedOk os nt 0 nt))
  | [], pre, h, hm => by
    have hl := len_eq0 h
    refine Ev.step (fun k => by simp only [spec_GoodHeap.l0]; rw [if_neg (by omega)]) ?_
    simpa [objsOk] using spec_l2 os rs nt n ho hn rs [] (by simpa using hrs)
  | o :: post, pre, h, hm => by
    have hl := len_eq h
    refine Ev.step (fun k => by
      simp only [spec_GoodHeap.l0]
      rw [if_pos (by omega), if_pos (by omega), if_pos (by omega), rdT_eq h, w64 (x := (pre.length : Int) - 1) (by omega) (by omega)]) ?_
    have ih : Ev (fun k => spec_GoodHeap.l0 k os (os.length : Int) (wrap64 ((pre.length : Int) + 1)) os rs nt n) (objsOk os nt n (pre.length + 1) post && (rs.all (link os) && notedOk os nt 0 nt)) := by
      rw [w_succ (by omega)]
      simpa using spec_l0 os rs nt n ho hn hrs post (pre ++ [o]) (by simpa using h) (fun y hy => hm y (by simp [hy]))
    have j2 : ∀ (b : Bool), b = !objHd os n pre.length o → Ev (fun k => spec_GoodHeap.j2 k os (os.length : Int) (pre.length : Int) b os rs nt n o.f0 o.f1 o.f2) (objsOk os nt n pre.length (o :: post) && (rs.all (link os) && notedOk os nt 0 nt)) := by
      intro b hb2
      unfold objsOk objOk
      cases hh : objHd os n pre.length o with
      | true =>
        rw [hh] at hb2; subst hb2
        refine Ev.step (fun k => by simp only [spec_GoodHeap.j2]; rw [if_neg (by simp)]) ?_
        have := spec_l1 os (os.length : Int) (pre.length : Int) os rs nt n ho hn o.f0 o.f1 o.f2 _ ih o.f2 [] (by simpa using hm o (by simp))
        simpa [Bool.and_assoc] using this
      | false =>
        rw [hh] at hb2; subst hb2
        refine Ev.step (fun k => by simp only [spec_GoodHeap.j2]; rw [if_pos (by simp)]) ?_
        exact some_ev (by simp)
    by_cases h1 : o.f0 < 0
    · exact ite_t h1 (j2 _ (by simp [objHd, h1]))
    · refine ite_f h1 ?_
      by_cases h2 : o.f0 ≥ n
      · exact ite_t h2 (j2 _ (by simp [objHd, h2]))
      · refine ite_f h2 ?_
        have e1 : decide (o.f0 < 0) = false := decide_eq_false h1
        have e2 : decide (o.f0 ≥ n) = false := decide_eq_false h2
        have e4 : prevO os pre.length o.f0 = true → ((o.f2.length : Int) != 2) = !objHd os n pre.length o := by
          intro e3
          unfold objHd; rw [e1, e2, e3]
          by_cases h4 : o.f2.length = 2
          · simp [h4]
          · simp [h4]; omega
        by_cases hp : (pre.length : Int) > 0
        · refine ite_t hp (ite_t (by omega) (ite_t (by omega) ?_))
          by_cases hq : (rd_T45 os ((pre.length : Int) - 1)).f0 ≥ o.f0
          · exact ite_t hq (j2 _ (by unfold objHd; rw [prevO_f hp hq]; simp))
          · exact ite_f hq (j2 _ (e4 (prevO_t hq)))
        · exact ite_f hp (j2 _ (e4 (prevO_0 hp)))
theorem spec_good (os : List S45) (rs nt : List Int) (n : Int) (ho : os.length ≤ 1048576) (hn : nt.length ≤ 1048576) (hrs : rs.length ≤ 1048576) (hm : ∀ c ∈ os, c.f2.length ≤ 1048576) : Ev (fun k => spec_GoodHeap.f k os rs nt n) (goodH os rs nt n) := by
  unfold spec_GoodHeap.f goodH
  have no : Ev (fun k => spec_GoodHeap.j0 k true os rs nt n) false := Ev.step (fun k => by simp only [spec_GoodHeap.j0]; rw [if_pos trivial]) (Ev.now _)
  by_cases h1 : (os.length : Int) > 24
  · exact ite_t h1 (by rw [show decide ((os.length : Int) > 24) = true from decide_eq_true h1]; simpa using no)
  · refine ite_f h1 ?_
    rw [show decide ((os.length : Int) > 24) = false from decide_eq_false h1]
    by_cases h2 : rs.length = 6
    · refine ite_t (by omega) ?_
      rw [spec_in]
      simp only [Option.bind_some]
      cases h3 : inB n 0 1000 with
      | true =>
        refine Ev.step (fun k => by simp only [spec_GoodHeap.j0]; rw [if_neg (by simp)]) ?_
        simpa [h2, Bool.and_assoc] using spec_l0 os rs nt n ho hn hrs os [] rfl hm
      | false => simpa using no
    · refine ite_f (by omega) ?_
      simpa [h2] using no

theorem cnt_impl (rs0 : List Int) (os : List S45) (rs nt : List Int) (n : Int) : slices_ContainsFunc_int_int_60.f rs0 os rs nt n = some (!rs0.all (link os)) := by
  unfold slices_ContainsFunc_int_int_60.f
  have e : (fun x : Int => impl_isHeap_1.f x os rs nt n) = fun x => some (!link os x) := by
    funext x; unfold impl_isHeap_1.f; rw [impl_link]; rfl
  rw [e, Kit.anyO_some]
  congr 1
  rw [List.not_all_eq_any_not]
theorem impl_l2 (os : List S45) (rs nt : List Int) (n : Int) (ho : os.length ≤ 1048576) (hn : nt.length ≤ 1048576) : ∀ (post pre : List Int), nt = pre ++ post →
    Ev (fun k => impl_isHeap.l2 k nt (nt.length : Int) (pre.length : Int) os rs nt n) (notedOk os nt pre.length post && rs.all (link os))
  | [], pre, h => by
    have hl := len_eq0 h
    refine Ev.step (fun k => by simp only [impl_isHeap.l2]; rw [if_neg (by omega), cnt_impl]) ?_
    exact some_ev (by simp [notedOk])
  | x :: post, pre, h => by
    have hl := len_eq h
    refine Ev.step (fun k => by
      simp only [impl_isHeap.l2]
      rw [if_pos (by omega), if_pos (by omega), if_pos (by omega), rd_eq h, w_succ (by omega), w64 (x := (pre.length : Int) - 1) (by omega) (by omega), impl_at, impl_young]) ?_
    simp only [Option.bind_some]
    have ih := impl_l2 os rs nt n ho hn post (pre ++ [x]) (by simpa using h)
    rw [show (pre ++ [x]).length = pre.length + 1 by simp] at ih
    unfold notedOk
    by_cases h0 : at_ os x < 0
    · exact ite_t h0 (some_ev (by simp [show ¬ at_ os x ≥ 0 by omega]))
    · have h1 : at_ os x ≥ 0 := by omega
      refine ite_f h0 ?_
      by_cases hy : young os x = true
      · exact ite_t hy (some_ev (by simp [hy]))
      · refine ite_f hy ?_
        have ey : young os x = false := by simpa using hy
        by_cases hp : (pre.length : Int) > 0
        · refine ite_t hp (ite_t (by omega) (ite_t (by omega) ?_))
          by_cases hq : rd nt ((pre.length : Int) - 1) ≥ x
          · exact ite_t hq (some_ev (by rw [prevN_f hp hq]; simp))
          · refine ite_f hq ?_
            rw [ey, prevN_t hq]
            simpa [h1] using ih
        · refine ite_f hp ?_
          rw [ey, prevN_0 hp]
          simpa [h1] using ih
theorem impl_l1 (x29 : List S45) (x30 x31 : Int) (os : List S45) (rs nt : List Int) (n : Int) (ho : os.length ≤ 1048576) (hn : nt.length ≤ 1048576) (nm : Int) (old : Bool) (ls : List Int) (r : Bool)
    (hr : Ev (fun k => impl_isHeap.l0 k x29 x30 (wrap64 (x31 + 1)) os rs nt n) r) : ∀ (post pre : List Int), pre.length + post.length ≤ 1048576 →
    Ev (fun k => impl_isHeap.l1 k x29 x30 x31 (pre ++ post) ((pre ++ post).length : Int) (pre.length : Int) os rs nt n nm old ls) (post.all (lk os nt nm old) && r)
  | [], pre, hb => by
    refine Ev.step (fun k => by simp only [impl_isHeap.l1]; rw [if_neg (by simp)]) ?_
    simpa using hr
  | x :: post, pre, hb => by
    simp at hb
    refine Ev.step (fun k => by
      simp only [impl_isHeap.l1]
      rw [if_pos (by simp; omega), if_pos (by omega), if_pos (by simp; omega), rd_at rfl, w_succ (by omega), impl_link, impl_young]) ?_
    simp only [Option.bind_some, List.all_cons]
    have ih : Ev (fun k => impl_isHeap.l1 k x29 x30 x31 (pre ++ x :: post) ((pre ++ x :: post).length : Int) ((pre.length + 1 : Nat) : Int) os rs nt n nm old ls) (post.all (lk os nt nm old) && r) := by
      simpa using impl_l1 x29 x30 x31 os rs nt n ho hn nm old ls r hr post (pre ++ [x]) (by simp; omega)
    have yes : lk os nt nm old x = true → Ev (fun k => impl_isHeap.l1 k x29 x30 x31 (pre ++ x :: post) ((pre ++ x :: post).length : Int) ((pre.length + 1 : Nat) : Int) os rs nt n nm old ls) (lk os nt nm old x && post.all (lk os nt nm old) && r) := by
      intro e; rw [e]; simpa using ih
    by_cases hx : link os x = true
    · refine ite_t hx ?_
      by_cases h1 : old = true
      · refine ite_t h1 ?_
        by_cases h2 : young os x = true
        · refine ite_t h2 (bind_ev (impl_has nt nm hn) ?_)
          by_cases h3 : has nt nm = true
          · exact ite_t h3 (yes (by simp [lk, hx, h3]))
          · exact ite_f h3 (some_ev (by rw [show lk os nt nm old x = false by simp [lk, hx, h1, h2, h3]]; simp))
        · exact ite_f h2 (yes (by simp [lk, hx, h2]))
      · exact ite_f h1 (yes (by simp [lk, hx, h1]))
    · exact ite_f hx (some_ev (by simp [lk, hx]))
theorem impl_l0 (os : List S45) (rs nt : List Int) (n : Int) (h0 : 0 ≤ n) (h1000 : n ≤ 1000) (ho : os.length ≤ 1048576) (hn : nt.length ≤ 1048576) (hrs : rs.length ≤ 1048576) : ∀ (post pre : List S45), os = pre ++ post → (∀ c ∈ post, c.f2.length ≤ 1048576) →
    Ev (fun k => impl_isHeap.l0 k os (os.length : Int) (pre.length : Int) os rs nt n) (objsOk os nt n pre.length post && (notedOk os nt 0 nt && rs.all (link os)))
  | [], pre, h, hm => by
    have hl := len_eq0 h
    refine Ev.step (fun k => by simp only [impl_isHeap.l0]; rw [if_neg (by omega)]) ?_
    simpa [objsOk] using impl_l2 os rs nt n ho hn nt [] rfl
  | o :: post, pre, h, hm => by
    have hl := len_eq h
    refine Ev.step (fun k => by
      simp only [impl_isHeap.l0]
      rw [if_pos (by omega), if_pos (by omega), if_pos (by omega), rdT_eq h, w64 (x := (pre.length : Int) - 1) (by omega) (by omega), w64 (x := n - 1) (by omega) (by omega), impl_in]) ?_
    simp only [Option.bind_some]
    have ih : Ev (fun k => impl_isHeap.l0 k os (os.length : Int) (wrap64 ((pre.length : Int) + 1)) os rs nt n) (objsOk os nt n (pre.length + 1) post && (notedOk os nt 0 nt && rs.all (link os))) := by
      rw [w_succ (by omega)]
      simpa using impl_l0 os rs nt n h0 h1000 ho hn hrs post (pre ++ [o]) (by simpa using h) (fun y hy => hm y (by simp [hy]))
    have j2 : ∀ (b : Bool), b = !objHd os n pre.length o → Ev (fun k => impl_isHeap.j2 k os (os.length : Int) (pre.length : Int) b os rs nt n o.f0 o.f1 o.f2) (objsOk os nt n pre.length (o :: post) && (notedOk os nt 0 nt && rs.all (link os))) := by
      intro b hb2
      unfold objsOk objOk
      cases hh : objHd os n pre.length o with
      | true =>
        rw [hh] at hb2; subst hb2
        refine Ev.step (fun k => by simp only [impl_isHeap.j2]; rw [if_neg (by simp)]) ?_
        have := impl_l1 os (os.length : Int) (pre.length : Int) os rs nt n ho hn o.f0 o.f1 o.f2 _ ih o.f2 [] (by simpa using hm o (by simp))
        simpa [Bool.and_assoc] using this
      | false =>
        rw [hh] at hb2; subst hb2
        refine Ev.step (fun k => by simp only [impl_isHeap.j2]; rw [if_pos (by simp)]) ?_
        exact some_ev (by simp)
    by_cases h1 : inB o.f0 0 (n - 1) = true
    · refine ite_t h1 ?_
      have h1' := (inB_iff _ _ _).1 h1
      have e1 : decide (o.f0 < 0) = false := decide_eq_false (by omega)
      have e2 : decide (o.f0 ≥ n) = false := decide_eq_false (by omega)
      have e4 : prevO os pre.length o.f0 = true → ((o.f2.length : Int) != 2) = !objHd os n pre.length o := by
        intro e3
        unfold objHd; rw [e1, e2, e3]
        by_cases h4 : o.f2.length = 2
        · simp [h4]
        · simp [h4]; omega
      by_cases hp : (pre.length : Int) > 0
      · refine ite_t hp (ite_t (by omega) (ite_t (by omega) ?_))
        by_cases hq : (rd_T45 os ((pre.length : Int) - 1)).f0 ≥ o.f0
        · exact ite_t hq (j2 _ (by unfold objHd; rw [prevO_f hp hq]; simp))
        · exact ite_f hq (j2 _ (e4 (prevO_t hq)))
      · exact ite_f hp (j2 _ (e4 (prevO_0 hp)))
    · refine ite_f h1 (j2 _ ?_)
      have h1' : ¬ (0 ≤ o.f0 ∧ o.f0 ≤ n - 1) := fun z => h1 ((inB_iff _ _ _).2 z)
      have : (!decide (o.f0 < 0) && !decide (o.f0 ≥ n)) = false := by
        by_cases z : o.f0 < 0
        · simp [z]
        · simp [z]; omega
      unfold objHd; rw [this]; simp
theorem impl_good (os : List S45) (rs nt : List Int) (n : Int) (ho : os.length ≤ 1048576) (hn : nt.length ≤ 1048576) (hrs : rs.length ≤ 1048576) (hm : ∀ c ∈ os, c.f2.length ≤ 1048576) : Ev (fun k => impl_isHeap.f k os rs nt n) (goodH os rs nt n) := by
  unfold impl_isHeap.f goodH
  have no : Ev (fun k => impl_isHeap.j0 k true os rs nt n) false := Ev.step (fun k => by simp only [impl_isHeap.j0]; rw [if_pos trivial]) (Ev.now _)
  by_cases h1 : (os.length : Int) > 24
  · exact ite_t h1 (by rw [show decide ((os.length : Int) > 24) = true from decide_eq_true h1]; simpa using no)
  · refine ite_f h1 ?_
    rw [show decide ((os.length : Int) > 24) = false from decide_eq_false h1]
    by_cases h2 : rs.length = 6
    · refine ite_t (by omega) ?_
      rw [impl_in]
      simp only [Option.bind_some]
      cases h3 : inB n 0 1000 with
      | true =>
        have h3' := (inB_iff _ _ _).1 h3
        refine Ev.step (fun k => by simp only [impl_isHeap.j0]; rw [if_neg (by simp)]) ?_
        have := impl_l0 os rs nt n h3'.1 h3'.2 ho hn hrs os [] rfl hm
        rw [Bool.and_comm (notedOk os nt 0 nt)] at this
        simpa [h2, Bool.and_assoc] using this
      | false => simpa using no
    · refine ite_f (by omega) ?_
      simpa [h2] using no
theorem cv_bd (y : S32) (h : bd_S32 y) : bd_S25 (cv_S32 y) := by
  obtain ⟨⟨h1, h2⟩, h3, h4, _⟩ := h
  refine ⟨⟨by simpa [cv_S32] using h1, ?_⟩, h3, h4, trivial⟩
  intro c hc
  simp only [cv_S32, List.mem_map] at hc
  obtain ⟨a, ha, rfl⟩ := hc
  exact h2 a ha
end Go.Proofs.Ytnocadhibajaoaa.Pure
