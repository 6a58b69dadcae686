/- LayFlow: the program and the reference lay alike. Conditions: none. -/
import Derived.Test.YtpnhlccdhflogaaPFlow
import Derived.Test.YtpnhlccdhflogaaDataN
import Derived.Test.YtpnhlccdhflogaaQx0
import Derived.Test.YtpnhlccdhflogaaQx3
import Derived.Test.YtpnhlccdhflogaaQx6
set_option linter.unusedVariables false
set_option linter.unusedSimpArgs false
set_option linter.unusedSectionVars false
namespace Go.Proofs.Ytpnhlccdhflogaa.Pure
open Go.RowKit Go.Proofs.Ytpnhlccdhflogaa.Q Go.Proofs.YtpnhlccdhflogaaW.PrintWords Go.Proofs.YtpnhlccdhflogaaW.PrintLast Go.Proofs.Ytpnhlccdhflogaa.Kit Go.Proofs.Ytpnhlccdhflogaa.Wf

def mvI (o : List Int) (x : Int) : Int := if x ≥ 0 then idxF o x 0 else -1
def mvB (o : List Int) (b : S99) : S99 := ⟨b.f0, b.f1, mvI o b.f2, mvI o b.f3⟩
def laidF (f : List S99) (o : List Int) : List S99 := o.map fun i => mvB o (rd_T99 f i)
theorem rd_set_neF (F : List Int) (n : Nat) (v m : Int) (h0 : 0 ≤ m) (h : m ≠ n) : rd (F.set n v) m = rd F m := by
  obtain ⟨k, rfl⟩ := Int.eq_ofNat_of_zero_le h0
  have : n ≠ k := by omega
  simp [rd, List.getD, List.getElem?_set_ne this]
theorem rd_set_eqF (F : List Int) (n : Nat) (v : Int) (h : n < F.length) : rd (F.set n v) (n : Int) = v := by
  simp [rd, List.getD, h]
theorem copy_l0 (f : List S99) (hb : f.length ≤ 1048576) (hm : ∀ b ∈ f, b.f0.length ≤ 1048576) : ∀ (post pre acc : List S99), f = pre ++ post → acc = pre →
    Ev (fun k => impl_copyFlow.l0 k acc f (f.length : Int) (pre.length : Int)) f
  | [], pre, acc, hf, ha => by
    have : f.length = pre.length := by rw [hf]; simp
    refine Ev.step (fun k => by simp only [impl_copyFlow.l0]; rw [if_neg (by omega)]) ?_
    exact some_ev (by rw [ha, hf]; simp)
  | b :: post, pre, acc, hf, ha => by
    have hn : f.length = pre.length + (post.length + 1) := by rw [hf]; simp
    have hr : rd_T99 f (pre.length : Int) = b := by rw [hf]; exact rdat_T99 rfl
    have hbl := hm b (by rw [hf]; simp)
    have ih := copy_l0 f hb hm post (pre ++ [b]) (acc ++ [b]) (by simp [hf]) (by rw [ha])
    refine Ev.step (fun k => by simp only [impl_copyFlow.l0]; rw [if_pos (by omega), if_pos (by omega), if_pos (by omega), hr, w_succ (by omega)]) ?_
    refine bind_ev (Ev.now _) (ite_t (by simp; omega) (ite_t (by rw [ha]; omega) ?_))
    simpa using ih
theorem copy_ev (f : List S99) (hb : f.length ≤ 1048576) (hm : ∀ b ∈ f, b.f0.length ≤ 1048576) : Ev (fun k => impl_copyFlow.f k f) f := by
  have := copy_l0 f hb hm f [] [] rfl rfl
  unfold impl_copyFlow.f
  simpa using this
section
variable (f : List S99) (o : List Int) (hf : goodF f = true) (ok : LayOk f.length o)
include hf ok
theorem mem_f (i : Int) (h0 : 0 ≤ i) (h1 : i < f.length) : BlockOk f.length (rd_T99 f i) := by
  obtain ⟨n, rfl⟩ := Int.eq_ofNat_of_zero_le h0
  have hn : n < f.length := by omega
  have h5 : rd_T99 (f.take n ++ f[n] :: f.drop (n + 1)) ((n : Nat) : Int) = f[n] := rdat_T99 (by simp; omega)
  have e : f = f.take n ++ f[n] :: f.drop (n + 1) := by simp
  rw [← e] at h5
  rw [h5]
  exact blockOk hf (List.getElem_mem hn)
theorem impl_layF_l0 : ∀ (post pre : List Int) (acc : List S99), o = pre ++ post → acc.length = pre.length →
    Ev (fun k => impl_LayFlow.l0 k o f acc o (o.length : Int) (pre.length : Int)) (acc ++ post.map (fun i => mvB o (rd_T99 f i)), true)
  | [], pre, acc, ho, ha => by
    have : o.length = pre.length := by rw [ho]; simp
    refine Ev.step (fun k => by simp only [impl_LayFlow.l0]; rw [if_neg (by omega), if_pos ⟨ok.nodup, ok.range⟩]) ?_
    exact some_ev (by simp)
  | i :: post, pre, acc, ho, ha => by
    have hl := ok.len
    have hh := ok.hi
    have hn : o.length = pre.length + (post.length + 1) := by rw [ho]; simp
    have hr : rd o (pre.length : Int) = i := by rw [ho]; exact rd_at rfl
    have hi := ok.range i (by rw [ho]; simp)
    have hb := mem_f f o hf ok i hi.1 hi.2
    have ih := impl_layF_l0 post (pre ++ [i]) (acc ++ [mvB o (rd_T99 f i)]) (by simp [ho]) (by simp [ha])
    have ix := fun x => index_ev o x (by omega)
    have ihs : ∀ s : S99, s = mvB o (rd_T99 f i) → Ev (fun k => if acc.length < 2932031007402 then impl_LayFlow.l0 k o f (acc ++ [s]) o (o.length : Int) ((pre.length + 1 : Nat) : Int) else none) (acc ++ (i :: post).map (fun i => mvB o (rd_T99 f i)), true) := fun s hs => by
      subst hs
      exact ite_t (by omega) (by simpa using ih)
    refine Ev.step (fun k => by simp only [impl_LayFlow.l0]; rw [if_pos (by omega), if_pos (by omega), if_pos (by omega), hr, if_pos hi.1, if_pos hi.2, w_succ (by omega)]) ?_
    have h1 := hb.thenLo
    have h2 := hb.elseLo
    by_cases c1 : (rd_T99 f i).f2 ≥ 0
    · refine ite_t c1 (bind_ev (ix _) ?_)
      by_cases c2 : (rd_T99 f i).f3 ≥ 0
      · exact ite_t c2 (bind_ev (ix _) (ihs _ (by unfold mvB mvI; rw [if_pos c1, if_pos c2])))
      · exact ite_f c2 (ihs _ (by unfold mvB mvI; rw [if_pos c1, if_neg c2, show (rd_T99 f i).f3 = -1 by omega]))
    · refine ite_f c1 ?_
      by_cases c2 : (rd_T99 f i).f3 ≥ 0
      · exact ite_t c2 (bind_ev (ix _) (ihs _ (by unfold mvB mvI; rw [if_neg c1, if_pos c2, show (rd_T99 f i).f2 = -1 by omega])))
      · exact ite_f c2 (ihs _ (by unfold mvB mvI; rw [if_neg c1, if_neg c2, show (rd_T99 f i).f2 = -1 by omega, show (rd_T99 f i).f3 = -1 by omega]))
theorem spec_layF_l1 (A : List Int) (hA : A.length = f.length) (hv : ∀ x ∈ o, rd A x = idxF o x 0) : ∀ (post pre : List Int) (acc : List S99), o = pre ++ post → acc.length = pre.length →
    Ev (fun k => spec_LayFlow.l1 k f A acc o (o.length : Int) (pre.length : Int)) (acc ++ post.map (fun i => mvB o (rd_T99 f i)), true)
  | [], pre, acc, ho, ha => by
    have : o.length = pre.length := by rw [ho]; simp
    refine Ev.step (fun k => by simp only [spec_LayFlow.l1]; rw [if_neg (by omega)]) ?_
    exact some_ev (by simp)
  | i :: post, pre, acc, ho, ha => by
    have hl := ok.len
    have hh := ok.hi
    have hn : o.length = pre.length + (post.length + 1) := by rw [ho]; simp
    have hr : rd o (pre.length : Int) = i := by rw [ho]; exact rd_at rfl
    have hi := ok.range i (by rw [ho]; simp)
    have hb := mem_f f o hf ok i hi.1 hi.2
    have ih := spec_layF_l1 A hA hv post (pre ++ [i]) (acc ++ [mvB o (rd_T99 f i)]) (by simp [ho]) (by simp [ha])
    have ihs : ∀ s : S99, s = mvB o (rd_T99 f i) → Ev (fun k => if acc.length < 2932031007402 then spec_LayFlow.l1 k f A (acc ++ [s]) o (o.length : Int) ((pre.length + 1 : Nat) : Int) else none) (acc ++ (i :: post).map (fun i => mvB o (rd_T99 f i)), true) := fun s hs => by
      subst hs
      exact ite_t (by omega) (by simpa using ih)
    have hcl := hb.code
    refine Ev.step (fun k => by simp only [spec_LayFlow.l1]; rw [if_pos (by omega), if_pos (by omega), if_pos (by omega), hr, if_pos hi.1, if_pos hi.2, w_succ (by omega)]) ?_
    refine bind_ev (Ev.now _) (ite_t (by simp; omega) (bind_ev (Ev.now _) ?_))
    have h1 := hb.thenLo
    have h2 := hb.elseLo
    have h3 := hb.thenHi
    have h4 := hb.elseHi
    have hx : ∀ x : Int, x ≥ 0 → x < f.length → rd A x = mvI o x := fun x h0 h1 => by
      rw [hv x (ok.all x h0 h1), mvI, if_pos h0]
    have hy : ∀ x : Int, ¬ x ≥ 0 → (-1 : Int) = mvI o x := fun x h0 => by rw [mvI, if_neg h0]
    by_cases c1 : (rd_T99 f i).f2 ≥ 0
    · refine ite_t c1 (ite_t c1 (ite_t (by omega) ?_))
      by_cases c2 : (rd_T99 f i).f3 ≥ 0
      · exact ite_t c2 (ite_t c2 (ite_t (by omega) (ihs _ (by unfold mvB; rw [hx _ c1 h3, hx _ c2 h4]; simp))))
      · exact ite_f c2 (ihs _ (by unfold mvB; rw [hx _ c1 h3, ← hy _ c2]; simp))
    · refine ite_f c1 ?_
      by_cases c2 : (rd_T99 f i).f3 ≥ 0
      · exact ite_t c2 (ite_t c2 (ite_t (by omega) (ihs _ (by unfold mvB; rw [← hy _ c1, hx _ c2 h4]; simp))))
      · exact ite_f c2 (ihs _ (by unfold mvB; rw [← hy _ c1, ← hy _ c2]; simp))
theorem spec_layF_l0 (R : List S99 × Bool) (h : ∀ A : List Int, A.length = f.length → (∀ x ∈ o, rd A x = idxF o x 0) → Ev (fun k => spec_LayFlow.l1 k f A [] o (o.length : Int) 0) R) : ∀ (post pre A : List Int), o = pre ++ post → A.length = f.length → (∀ x ∈ pre, rd A x = idxF o x 0) →
    Ev (fun k => spec_LayFlow.l0 k f o A o (o.length : Int) (pre.length : Int)) R
  | [], pre, A, ho, hA, hv => by
    have : o.length = pre.length := by rw [ho]; simp
    refine Ev.step (fun k => by simp only [spec_LayFlow.l0]; rw [if_neg (by omega)]) ?_
    exact h A hA (fun x hx => hv x (by rw [ho] at hx; simpa using hx))
  | i :: post, pre, A, ho, hA, hv => by
    have hl := ok.len
    have hh := ok.hi
    have hn : o.length = pre.length + (post.length + 1) := by rw [ho]; simp
    have hr : rd o (pre.length : Int) = i := by rw [ho]; exact rd_at rfl
    have hi := ok.range i (by rw [ho]; simp)
    have hnd := ok.nodup
    have hnot : i ∉ pre := fun hm => by
      rw [ho, List.nodup_append] at hnd
      exact hnd.2.2 i hm i (by simp) rfl
    have ih := spec_layF_l0 R h post (pre ++ [i]) (A.set i.toNat (pre.length : Int)) (by simp [ho]) (by simpa using hA) (fun x hx => by
      rcases List.mem_append.1 hx with hx | hx
      · have h0 := (ok.range x (by rw [ho]; simp [hx])).1
        rw [rd_set_neF _ _ _ _ h0 (by intro e; exact hnot (by rw [show i = x by omega]; exact hx))]
        exact hv x hx
      · simp only [List.mem_singleton] at hx
        subst hx
        obtain ⟨n, rfl⟩ := Int.eq_ofNat_of_zero_le hi.1
        rw [Int.toNat_natCast, rd_set_eqF _ _ _ (by omega)]
        conv => rhs; rw [ho]
        rw [idxF_at pre _ post 0 hnot]; simp)
    refine Ev.step (fun k => by simp only [spec_LayFlow.l0]; rw [if_pos (by omega), if_pos (by omega), if_pos (by omega), hr, if_pos hi.1, if_pos (by omega), w_succ (by omega)]) ?_
    simpa using ih
end
theorem layFlow_both (f : List S99) (o : List Int) (hb : f.length ≤ 1048576) (hob : o.length ≤ 1048576) (hm : ∀ b ∈ f, b.f0.length ≤ 1048576) :
    ∃ r : List S99 × Bool, r.1.length ≤ 1048576 ∧ (∀ b ∈ r.1, b.f0.length ≤ 1048576) ∧ Ev (fun k => spec_LayFlow.f k f o) r ∧ Ev (fun k => impl_LayFlow.f k f o) r := by
  unfold spec_LayFlow.f impl_LayFlow.f
  have sj : ∀ (r : List S99 × Bool), r = ([], false) → Ev (fun k => spec_LayFlow.j0 k f o true) r ∧ Ev (fun k => impl_LayFlow.j0 k f o true) r := by
    intro r hr
    subst hr
    exact ⟨Ev.step (fun k => by simp only [spec_LayFlow.j0]; rw [if_pos trivial]) (Ev.now _), Ev.step (fun k => by simp only [impl_LayFlow.j0]; rw [if_pos trivial]) (Ev.now _)⟩
  by_cases h1 : goodF f = true
  · by_cases h2 : layB f.length o = true
    · have ok := layOk h2
      have hl := ok.len
      have hh := ok.hi
      refine ⟨(laidF f o, true), by simp [laidF]; omega, ?_, ?_, ?_⟩
      · intro b hbm
        simp only [laidF, List.mem_map] at hbm
        obtain ⟨i, hi, rfl⟩ := hbm
        have := (mem_f f o h1 ok i (ok.range i hi).1 (ok.range i hi).2).code
        simp only [mvB]; omega
      · refine bind_ev (spec_flow f hb hm) (ite_t h1 (bind_ev (spec_lay _ o hob) ?_))
        rw [h2]
        refine Ev.step (fun k => by simp only [spec_LayFlow.j0]; rw [if_neg (by simp), if_pos (by omega), if_pos (by simp; omega)]) ?_
        have := spec_layF_l0 f o h1 ok (laidF f o, true) (fun A hA hv => by
          have := spec_layF_l1 f o h1 ok A hA hv o [] [] rfl rfl
          simpa [laidF] using this) o [] (List.replicate f.length 0) rfl (by simp) (by simp)
        simpa using this
      · refine bind_ev (impl_flow f hb) (ite_t h1 (bind_ev (impl_lay _ o hob) ?_))
        rw [h2]
        refine Ev.step (fun k => by simp only [impl_LayFlow.j0]; rw [if_neg (by simp)]) ?_
        refine bind_ev (copy_ev f hb hm) ?_
        have := impl_layF_l0 f o h1 ok o [] [] rfl rfl
        simpa [laidF] using this
    · obtain ⟨a, b⟩ := sj _ rfl
      have h2' : layB f.length o = false := by simpa using h2
      refine ⟨([], false), by simp, by simp, bind_ev (spec_flow f hb hm) (ite_t h1 (bind_ev (spec_lay _ o hob) ?_)), bind_ev (impl_flow f hb) (ite_t h1 (bind_ev (impl_lay _ o hob) ?_))⟩
      · rw [h2']; exact a
      · rw [h2']; exact b
  · obtain ⟨a, b⟩ := sj _ rfl
    exact ⟨([], false), by simp, by simp, bind_ev (spec_flow f hb hm) (ite_f h1 a), bind_ev (impl_flow f hb) (ite_f h1 b)⟩
end Go.Proofs.Ytpnhlccdhflogaa.Pure
