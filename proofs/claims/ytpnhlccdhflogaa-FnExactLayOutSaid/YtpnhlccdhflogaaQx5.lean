-- Written by the program wip/tools/pr.py of this claim's session, over the kit's print.py.
import Derived.Test.YtpnhlccdhflogaaQx0
import Derived.Test.YtpnhlccdhflogaaQx4
namespace Go.Proofs.Ytpnhlccdhflogaa.Q
open Go.RowKit Go.Proofs.YtpnhlccdhflogaaW.PrintWords Go.Proofs.YtpnhlccdhflogaaW.PrintLast Go.Proofs.YtpnhlccdhflogaaW.PrintMore
attribute [local go_sem] max2_int min2_int max_two min_two max_three min_three max_four min_four   -- for this text's walks alone
set_option linter.unusedVariables false
set_option linter.unusedSimpArgs false

/-! ### impl_areEdges: function 59 -/
def Eds.inB (a b c : Int) : Bool := if a ≥ b then decide (a ≤ c) else false
theorem Eds.inB_iff (a b c : Int) : Eds.inB a b c = true ↔ b ≤ a ∧ a ≤ c := by
 unfold Eds.inB; split <;> simp <;> omega
theorem Eds.in_eq (a b c : Int) : impl_in.f a b c = some (Eds.inB a b c) := by unfold impl_in.f Eds.inB; split <;> rfl
def Eds.had (pre : List S48) (i j : Int) : Bool := pre.any fun o => o.f0 == i && o.f1 == j
def Eds.seen (pre : List S48) : Array Value := ((List.range 64).map fun (i : Nat) => Value.bool (Eds.had pre ((i / 8 : Nat) : Int) ((i % 8 : Nat) : Int))).toArray
def Eds.ok1 (a0 : Int) (pre : List S48) (e : S48) : Bool := Eds.inB e.f0 0 (a0 - 1) && Eds.inB e.f1 0 (a0 - 1) && Eds.inB e.f2 0 100000 && !Eds.had pre e.f0 e.f1
def Eds.ok (a0 : Int) : List S48 → List S48 → Bool
 | _, [] => true
 | pre, e :: post => Eds.ok1 a0 pre e && Eds.ok a0 (pre ++ [e]) post
/-- Are edges good, of so many blocks? -/
def impl_areEdges.f (a0 : Int) (l1 : List S48) : Option Bool := some (Eds.inB a0 1 8 && decide ((l1.length : Int) ≤ 20) && Eds.ok a0 [] l1)
theorem Eds.build {ops : Array Oper} {rest : List Oper} {o : Oper} {a : Act} {w : World} {Q : Exit → Act → World → Prop} (hg : o.guard = none) (ho : o.op = .build 117 #[])
  (h : wpList Try.prog ops Q rest (a.put o.dst (.agg (Eds.seen []))) w) : wpList Try.prog ops Q (o :: rest) a w := by
 have hz : Try.prog.built 117 ((#[] : Array (Nat × Operand)).map fun (i, x) => (i, a.eval x)).toList = some (Eds.seen []) := by
  simp only [Array.map_empty, List.map_toArray, List.map_nil]; kernel_rfl
 exact wpList_build hg 117 #[] ho (by rw [hz]; rfl) (by rw [hz]; exact h)
theorem Eds.at_ (pre : List S48) (i j : Int) (hi0 : 0 ≤ i) (hi : i < 8) (hj0 : 0 ≤ j) (hj : j < 8) : (Eds.seen pre)[i.toNat * 8 + j.toNat]? = some (.bool (Eds.had pre i j)) := by
 unfold Eds.seen
 have h : i.toNat * 8 + j.toNat < 64 := by omega
 rw [List.getElem?_toArray, List.getElem?_map, List.getElem?_range h]
 simp only [Option.map_some]
 congr 3
 · omega
 · omega
theorem Eds.set_ (pre : List S48) (e : S48) (hi0 : 0 ≤ e.f0) (hi : e.f0 < 8) (hj0 : 0 ≤ e.f1) (hj : e.f1 < 8) : (Eds.seen pre).setIfInBounds (e.f0.toNat * 8 + e.f1.toNat) (.bool true) = Eds.seen (pre ++ [e]) := by
 apply Array.ext'
 apply List.ext_getElem?
 intro m
 unfold Eds.seen
 simp only [List.setIfInBounds_toArray, List.getElem?_set, List.length_map, List.length_range, List.getElem?_map]
 by_cases hm : m < 64
 · rw [List.getElem?_range hm]
   simp only [Option.map_some]
   by_cases he : e.f0.toNat * 8 + e.f1.toNat = m
   · rw [if_pos he, if_pos (by omega)]
     subst he
     have e1 : ((((e.f0.toNat * 8 + e.f1.toNat) / 8 : Nat)) : Int) = e.f0 := by omega
     have e2 : ((((e.f0.toNat * 8 + e.f1.toNat) % 8 : Nat)) : Int) = e.f1 := by omega
     rw [e1, e2]
     simp [Eds.had]
   · rw [if_neg he]
     congr 2
     unfold Eds.had
     rw [List.any_append]
     have h0 : ((e.f0 == ((m / 8 : Nat) : Int)) && (e.f1 == ((m % 8 : Nat) : Int))) = false := by
       rw [Bool.and_eq_false_iff]
       by_cases h0 : e.f0 = ((m / 8 : Nat) : Int)
       · right; simp; omega
       · left; simpa using h0
     simp only [List.any_cons, List.any_nil, h0, Bool.or_false]
 · rw [List.getElem?_eq_none (by simpa using hm)]
   by_cases he : e.f0.toNat * 8 + e.f1.toNat = m
   · omega
   · rw [if_neg he]; rfl
set_option maxHeartbeats 8000000 in
set_option maxRecDepth 100000 in
theorem Eds.calls (a0 : Int) (A1 : Option Addr) (c1 : Nat) (l1 : List S48) (r : Bool) (w : World) (hr1 : Kd.C k48 w A1 l1.length l1) (hc1 : l1.length ≤ c1) (h1 : Eds.inB a0 1 8 = true) (h2 : (l1.length : Int) ≤ 20) (hr : Eds.ok a0 [] l1 = r) :
  Calls Try.prog 59 #[.int .i64 a0, .slice A1 l1.length c1] w fun e w' => e = .returned (.bool r) ∧ Below w.heap.size w w' := by
 have HR1 := Aside0.mk hr1
 have HB := Aside0.mk (Below.refl w.heap.size w)
 have A3 := Aside0.mk ((Eds.in_eq a0 1 8).trans (congrArg some h1))
 have hd : decide (20 < (l1.length : Int)) = false := decide_eq_false (by omega)
 have h3 := (Eds.inB_iff _ _ _).1 h1
 have ha1 := h3.1
 have ha8 := h3.2
 have HK := Aside0.mk hr
 have hu48 := Try.underlying48
 have hu117 := Try.underlying117
 have hu116 := Try.underlying116
 clear hr1 h1 hr h3
 go_enter Try.func59, Try.ntmps59
 go_wp2_with (first | (go_at_call 87; (with_reducible refine (impl_in.calls a0 1 8 true _ A3.out).mono ?_); rintro e w' ⟨rfl, ⟨nd, rfl⟩⟩) | ((with_reducible refine gate_dst (N := 16) rfl ?_); refine Eds.build rfl rfl ?_) | ((with_reducible refine gate_dst (N := 5) rfl ?_); refine bxe 5 (Eds.seen []) 117 ?_; intro gs hg w3 hbox hb; have n0_ := Aside0.mk (below_step lB hb); have n1_ := Aside0.mk (hbox); have n2_ := lG w hg; clear HB; have HB := n0_; have BK := n1_; have GE := n2_; clear n0_ n1_ n2_; clear hb hbox hg) | ((with_reducible refine gate_store (t := 117) (p := 5) rfl ?_); refine wpList_store_row rfl 117 (.tmp 5) (.tmp 16) rfl gs (Eds.seen []) rfl rfl 117 (Eds.seen []) BK.out (by kernel_rfl) rfl (by kernel_rfl) ?_; rw [setRow_self _ _ _ _ _ BK.out]))
 go_loopg [7, 19] l1.length (fun gg _ s19 wr => ∃ kk : Nat, kk ≤ l1.length ∧ l1.length - kk ≤ gg ∧ s19 = .int .i64 kk ∧ Aside0 (Below w.heap.size w wr) ∧ Aside0 (wr.heap[gs]? = some (.cells (Eds.seen (l1.take kk)) 117 (0, 0))) ∧ Aside0 (Eds.ok a0 (l1.take kk) (l1.drop kk) = r))
 case atStart => exact ⟨0, Nat.zero_le _, by omega, rfl, HB, BK, HK⟩
 case round =>
  obtain ⟨kk, hkk, hg, rfl, HB, BK, HI⟩ := hrel
  by_cases hlt : kk < l1.length
  ·have hltz : (kk : Int) < (l1.length : Int) := by omega
   have hd0 : decide (kk < l1.length) = true := decide_eq_true hlt
   obtain ⟨ad, e_, hx0, hx1, hx2⟩ := at_T48 HR1.out (kk : Int) (by omega) (by omega)
   cases e_
   replace hx0 := pw_cell_below HB.out hx0
   replace hx1 := pw_cell_below HB.out hx1
   replace hx2 := pw_cell_below HB.out hx2
   simp only [Int.toNat_natCast] at hx0 hx1 hx2
   have hdp : l1.drop kk = rd_T48 l1 (kk : Int) :: l1.drop (kk + 1) := by
    rw [List.drop_eq_getElem_cons hlt]; simp [rd_T48, List.getD, hlt]
   have htk : l1.take (kk + 1) = l1.take kk ++ [rd_T48 l1 (kk : Int)] := by
    rw [List.take_succ_eq_append_getElem hlt]; simp [rd_T48, List.getD, hlt]
   generalize rd_T48 l1 (kk : Int) = y at hdp htk hx0 hx1 hx2
   have HI' := HI.out
   rw [hdp] at HI'
   simp only [Eds.ok, Eds.ok1] at HI'
   have HN := Aside0.mk HI'
   have HT := Aside0.mk htk
   clear HI HI' hdp htk
   have HNE := Aside0.mk (blk_lt BK.out)
   have A4 := Aside0.mk (Eds.in_eq y.f0 0 (a0 - 1))
   have A5 := Aside0.mk (Eds.in_eq y.f1 0 (a0 - 1))
   have A6 := Aside0.mk (Eds.in_eq y.f2 0 100000)
   go_wp2_with (first | ((with_reducible refine gate_dst (N := 7) rfl ?_); refine bxe 7 #[.int .i64 0, .int .i64 0, .int .i64 0] 48 ?_; intro gb hg2 w4 hbox hb; have n0_ := Aside0.mk (below_step HB.out hb); have n1_ := Aside0.mk (hbox); have n2_ := Aside0.mk (blk_below BK.out hb); have n3_ := Aside0.mk (show gs ≠ gb by have := HNE.out; omega); have n4_ := lG w hg2; have n5_ := pw_cell_below hb hx0; have n6_ := pw_cell_below hb hx1; have n7_ := pw_cell_below hb hx2; clear HB BK HNE hx0 hx1 hx2; have HB := n0_; have BB := n1_; have BK := n2_; have NE := n3_; have GB := n4_; have hx0 := n5_; have hx1 := n6_; have hx2 := n7_; clear n0_ n1_ n2_ n3_ n4_ n5_ n6_ n7_; clear hb hbox hg2; obtain ⟨hcz0, hfz0, hcz1, hfz1, hcz2, hfz2⟩ := bk3 BB.out) | ((with_reducible refine gate_store (t := 48) (p := 7) rfl ?_); refine store_event (t := 48) (p := 7) (v := ?vo_5) (w1 := (((w4.setCell ⟨gb, 0, none⟩ (.int .i64 y.f0)).setCell ⟨gb, 1, none⟩ (.int .i64 y.f1)).setCell ⟨gb, 2, none⟩ (.int .i64 y.f2))) ?hg ?ho ?hn ?hr ?_; (case ho => rfl); (case hg => rfl); (case hn => rfl); (case hr => first | (go_simp; done) | (go_simp; rfl)); intro w5 hw; have n0_ : Aside0 (Below w.heap.size w w5) := ⟨by rw [hw]; exact below_set (below_set (below_set HB.out GB.out) GB.out) GB.out⟩; have n1_ : Aside0 (w5.heap[gb]? = some (.cells #[.int .i64 y.f0, .int .i64 y.f1, .int .i64 y.f2] 48 (0, 0))) := ⟨by rw [hw]; exact blk_set (blk_set (blk_set BB.out 0 _) 1 _) 2 _⟩; have n2_ : Aside0 (w5.heap[gs]? = some (.cells (Eds.seen (l1.take kk)) 117 (0, 0))) := ⟨by rw [hw]; exact blk_far (blk_far (blk_far BK.out NE.out _) NE.out _) NE.out _⟩; clear hw HB BB BK hcz0 hfz0 hcz1 hfz1 hcz2 hfz2 hx0 hx1 hx2; have HB := n0_; have BB := n1_; have BK := n2_; clear n0_ n1_ n2_; obtain ⟨hcz0, hfz0, hcz1, hfz1, hcz2, hfz2⟩ := bk3 BB.out))
   have hwr : IntKind.i64.wrap (a0 - 1) = a0 - 1 := IntWalk.i64_in _ (by omega)
   cases hb4 : Eds.inB y.f0 0 (a0 - 1) with
   | false =>
    rw [hb4] at A4
    have HN2 := HN.out
    simp only [hb4, Bool.and_false, Bool.false_and, Bool.and_true, Bool.true_and] at HN2
    obtain rfl : false = r := by simpa using HN2
    clear HN2 HN
    refine start_ (n := 29) (S := fun w' => w'.cell? ⟨gb, 0, none⟩ = some (.int .i64 y.f0) ∧ w'.cell? ⟨gb, 1, none⟩ = some (.int .i64 y.f1) ∧ w'.cell? ⟨gb, 2, none⟩ = some (.int .i64 y.f2)) (ds := []) (bs 29 0) kR rfl kR ⟨hcz0, hcz1, hcz2⟩ (fun hHeld => ?_)
    refine pur_ 0 23 (bs 29 1) kR ?_
    refine tak_ 1 24 (bs 29 3) kR hHeld ?_
    refine pur_ 2 25 (bs 29 7) kR ?_
    refine pur_ 3 26 (bs 29 15) kR ?_
    refine one_ (i := 4) (N := some 27) (bs 29 31) rfl rfl kR (by decide) (fun K hK => ?_)
    refine goes_ Try.func87 (by kernel_rfl) rfl #[.int .i64 y.f0, .int .i64 0, .int .i64 (a0 - 1)] (by rfl) rfl rfl (by (try simp only [List.map_toArray, List.map_cons, List.map_nil]); first | done | rfl) ?_
    refine (impl_in.calls y.f0 0 (a0 - 1) false _ A4.out).mono ?_
    rintro e w' ⟨rfl, ⟨nd, rfl⟩⟩
    refine ⟨_, rfl, ?_⟩
    refine hK.out _ _ hHeld (fun hHeld => ?_)
    clear hK K
    refine norm_ (a' := ?_) ?_ ?_
    rotate_left
    ·show Act.put _ (some 27) _ = _
     simp only [Act.put, List.setIfInBounds_toArray, List.set_cons_zero, List.set_cons_succ, i64_w, i32_w]
     rfl
    refine pur_ 5 28 (bs 29 63) kR ?_
    refine pur_ 6 29 (bs 29 127) kR ?_
    refine puu_ 7 30 (bs 29 255) kR ?_
    refine puu_ 8 31 (bs 29 511) kR ?_
    refine puu_ 9 32 (bs 29 1023) kR ?_
    refine puu_ 10 33 (bs 29 2047) kR ?_
    refine puu_ 11 34 (bs 29 4095) kR ?_
    refine puu_ 12 35 (bs 29 8191) kR ?_
    refine pur_ 13 36 (bs 29 16383) kR ?_
    refine pur_ 14 37 (bs 29 32767) kR ?_
    refine puu_ 15 38 (bs 29 65535) kR ?_
    refine puu_ 16 39 (bs 29 131071) kR ?_
    refine puu_ 17 40 (bs 29 262143) kR ?_
    refine puu_ 18 41 (bs 29 524287) kR ?_
    refine pur_ 19 42 (bs 29 1048575) kR ?_
    refine pur_ 20 43 (bs 29 2097151) kR ?_
    refine puu_ 21 44 (bs 29 4194303) kR ?_
    refine puu_ 22 45 (bs 29 8388607) kR ?_
    refine puu_ 23 46 (bs 29 16777215) kR ?_
    refine puu_ 24 47 (bs 29 33554431) kR ?_
    refine puu_ 25 48 (bs 29 67108863) kR ?_
    refine puu_ 26 49 (bs 29 134217727) kR ?_
    refine puu_ 27 50 (bs 29 268435455) kR ?_
    refine pur_ 28 51 (bs 29 536870911) kR ?_
    refine done_ kR ?_
    go_wp2
    go_ret
    exact ⟨rfl, lB⟩
   | true =>
    rw [hb4] at A4
    cases hb5 : Eds.inB y.f1 0 (a0 - 1) with
    | false =>
     rw [hb5] at A5
     have HN2 := HN.out
     simp only [hb4, hb5, Bool.and_false, Bool.false_and, Bool.and_true, Bool.true_and] at HN2
     obtain rfl : false = r := by simpa using HN2
     clear HN2 HN
     refine start_ (n := 29) (S := fun w' => w'.cell? ⟨gb, 0, none⟩ = some (.int .i64 y.f0) ∧ w'.cell? ⟨gb, 1, none⟩ = some (.int .i64 y.f1) ∧ w'.cell? ⟨gb, 2, none⟩ = some (.int .i64 y.f2)) (ds := []) (bs 29 0) kR rfl kR ⟨hcz0, hcz1, hcz2⟩ (fun hHeld => ?_)
     refine pur_ 0 23 (bs 29 1) kR ?_
     refine tak_ 1 24 (bs 29 3) kR hHeld ?_
     refine pur_ 2 25 (bs 29 7) kR ?_
     refine pur_ 3 26 (bs 29 15) kR ?_
     refine one_ (i := 4) (N := some 27) (bs 29 31) rfl rfl kR (by decide) (fun K hK => ?_)
     refine goes_ Try.func87 (by kernel_rfl) rfl #[.int .i64 y.f0, .int .i64 0, .int .i64 (a0 - 1)] (by rfl) rfl rfl (by (try simp only [List.map_toArray, List.map_cons, List.map_nil]); first | done | rfl) ?_
     refine (impl_in.calls y.f0 0 (a0 - 1) true _ A4.out).mono ?_
     rintro e w' ⟨rfl, ⟨nd, rfl⟩⟩
     refine ⟨_, rfl, ?_⟩
     refine hK.out _ _ hHeld (fun hHeld => ?_)
     clear hK K
     refine norm_ (a' := ?_) ?_ ?_
     rotate_left
     ·show Act.put _ (some 27) _ = _
      simp only [Act.put, List.setIfInBounds_toArray, List.set_cons_zero, List.set_cons_succ, i64_w, i32_w]
      rfl
     refine pur_ 5 28 (bs 29 63) kR ?_
     refine pur_ 6 29 (bs 29 127) kR ?_
     refine pur_ 7 30 (bs 29 255) kR ?_
     refine tak_ 8 31 (bs 29 511) kR hHeld ?_
     refine pur_ 9 32 (bs 29 1023) kR ?_
     refine pur_ 10 33 (bs 29 2047) kR ?_
     refine one_ (i := 11) (N := some 34) (bs 29 4095) rfl rfl kR (by decide) (fun K hK => ?_)
     refine goes_ Try.func87 (by kernel_rfl) rfl #[.int .i64 y.f1, .int .i64 0, .int .i64 (a0 - 1)] (by rfl) rfl rfl (by (try simp only [List.map_toArray, List.map_cons, List.map_nil]); first | done | rfl) ?_
     refine (impl_in.calls y.f1 0 (a0 - 1) false _ A5.out).mono ?_
     rintro e w' ⟨rfl, ⟨nd, rfl⟩⟩
     refine ⟨_, rfl, ?_⟩
     refine hK.out _ _ hHeld (fun hHeld => ?_)
     clear hK K
     refine norm_ (a' := ?_) ?_ ?_
     rotate_left
     ·show Act.put _ (some 34) _ = _
      simp only [Act.put, List.setIfInBounds_toArray, List.set_cons_zero, List.set_cons_succ, i64_w, i32_w]
      rfl
     refine pur_ 12 35 (bs 29 8191) kR ?_
     refine pur_ 13 36 (bs 29 16383) kR ?_
     refine pur_ 14 37 (bs 29 32767) kR ?_
     refine puu_ 15 38 (bs 29 65535) kR ?_
     refine puu_ 16 39 (bs 29 131071) kR ?_
     refine puu_ 17 40 (bs 29 262143) kR ?_
     refine puu_ 18 41 (bs 29 524287) kR ?_
     refine pur_ 19 42 (bs 29 1048575) kR ?_
     refine pur_ 20 43 (bs 29 2097151) kR ?_
     refine puu_ 21 44 (bs 29 4194303) kR ?_
     refine puu_ 22 45 (bs 29 8388607) kR ?_
     refine puu_ 23 46 (bs 29 16777215) kR ?_
     refine puu_ 24 47 (bs 29 33554431) kR ?_
     refine puu_ 25 48 (bs 29 67108863) kR ?_
     refine puu_ 26 49 (bs 29 134217727) kR ?_
     refine puu_ 27 50 (bs 29 268435455) kR ?_
     refine pur_ 28 51 (bs 29 536870911) kR ?_
     refine done_ kR ?_
     go_wp2
     go_ret
     exact ⟨rfl, lB⟩
    | true =>
     rw [hb5] at A5
     cases hb6 : Eds.inB y.f2 0 100000 with
     | false =>
      rw [hb6] at A6
      have HN2 := HN.out
      simp only [hb4, hb5, hb6, Bool.and_false, Bool.false_and, Bool.and_true, Bool.true_and] at HN2
      obtain rfl : false = r := by simpa using HN2
      clear HN2 HN
      refine start_ (n := 29) (S := fun w' => w'.cell? ⟨gb, 0, none⟩ = some (.int .i64 y.f0) ∧ w'.cell? ⟨gb, 1, none⟩ = some (.int .i64 y.f1) ∧ w'.cell? ⟨gb, 2, none⟩ = some (.int .i64 y.f2)) (ds := []) (bs 29 0) kR rfl kR ⟨hcz0, hcz1, hcz2⟩ (fun hHeld => ?_)
      refine pur_ 0 23 (bs 29 1) kR ?_
      refine tak_ 1 24 (bs 29 3) kR hHeld ?_
      refine pur_ 2 25 (bs 29 7) kR ?_
      refine pur_ 3 26 (bs 29 15) kR ?_
      refine one_ (i := 4) (N := some 27) (bs 29 31) rfl rfl kR (by decide) (fun K hK => ?_)
      refine goes_ Try.func87 (by kernel_rfl) rfl #[.int .i64 y.f0, .int .i64 0, .int .i64 (a0 - 1)] (by rfl) rfl rfl (by (try simp only [List.map_toArray, List.map_cons, List.map_nil]); first | done | rfl) ?_
      refine (impl_in.calls y.f0 0 (a0 - 1) true _ A4.out).mono ?_
      rintro e w' ⟨rfl, ⟨nd, rfl⟩⟩
      refine ⟨_, rfl, ?_⟩
      refine hK.out _ _ hHeld (fun hHeld => ?_)
      clear hK K
      refine norm_ (a' := ?_) ?_ ?_
      rotate_left
      ·show Act.put _ (some 27) _ = _
       simp only [Act.put, List.setIfInBounds_toArray, List.set_cons_zero, List.set_cons_succ, i64_w, i32_w]
       rfl
      refine pur_ 5 28 (bs 29 63) kR ?_
      refine pur_ 6 29 (bs 29 127) kR ?_
      refine pur_ 7 30 (bs 29 255) kR ?_
      refine tak_ 8 31 (bs 29 511) kR hHeld ?_
      refine pur_ 9 32 (bs 29 1023) kR ?_
      refine pur_ 10 33 (bs 29 2047) kR ?_
      refine one_ (i := 11) (N := some 34) (bs 29 4095) rfl rfl kR (by decide) (fun K hK => ?_)
      refine goes_ Try.func87 (by kernel_rfl) rfl #[.int .i64 y.f1, .int .i64 0, .int .i64 (a0 - 1)] (by rfl) rfl rfl (by (try simp only [List.map_toArray, List.map_cons, List.map_nil]); first | done | rfl) ?_
      refine (impl_in.calls y.f1 0 (a0 - 1) true _ A5.out).mono ?_
      rintro e w' ⟨rfl, ⟨nd, rfl⟩⟩
      refine ⟨_, rfl, ?_⟩
      refine hK.out _ _ hHeld (fun hHeld => ?_)
      clear hK K
      refine norm_ (a' := ?_) ?_ ?_
      rotate_left
      ·show Act.put _ (some 34) _ = _
       simp only [Act.put, List.setIfInBounds_toArray, List.set_cons_zero, List.set_cons_succ, i64_w, i32_w]
       rfl
      refine pur_ 12 35 (bs 29 8191) kR ?_
      refine pur_ 13 36 (bs 29 16383) kR ?_
      refine pur_ 14 37 (bs 29 32767) kR ?_
      refine pur_ 15 38 (bs 29 65535) kR ?_
      refine tak_ 16 39 (bs 29 131071) kR hHeld ?_
      refine one_ (i := 17) (N := some 40) (bs 29 262143) rfl rfl kR (by decide) (fun K hK => ?_)
      refine goes_ Try.func87 (by kernel_rfl) rfl #[.int .i64 y.f2, .int .i64 0, .int .i64 100000] (by rfl) rfl rfl (by (try simp only [List.map_toArray, List.map_cons, List.map_nil]); first | done | rfl) ?_
      refine (impl_in.calls y.f2 0 100000 false _ A6.out).mono ?_
      rintro e w' ⟨rfl, ⟨nd, rfl⟩⟩
      refine ⟨_, rfl, ?_⟩
      refine hK.out _ _ hHeld (fun hHeld => ?_)
      clear hK K
      refine norm_ (a' := ?_) ?_ ?_
      rotate_left
      ·show Act.put _ (some 40) _ = _
       simp only [Act.put, List.setIfInBounds_toArray, List.set_cons_zero, List.set_cons_succ, i64_w, i32_w]
       rfl
      refine pur_ 18 41 (bs 29 524287) kR ?_
      refine pur_ 19 42 (bs 29 1048575) kR ?_
      refine pur_ 20 43 (bs 29 2097151) kR ?_
      refine puu_ 21 44 (bs 29 4194303) kR ?_
      refine puu_ 22 45 (bs 29 8388607) kR ?_
      refine puu_ 23 46 (bs 29 16777215) kR ?_
      refine puu_ 24 47 (bs 29 33554431) kR ?_
      refine puu_ 25 48 (bs 29 67108863) kR ?_
      refine puu_ 26 49 (bs 29 134217727) kR ?_
      refine puu_ 27 50 (bs 29 268435455) kR ?_
      refine pur_ 28 51 (bs 29 536870911) kR ?_
      refine done_ kR ?_
      go_wp2
      go_ret
      exact ⟨rfl, lB⟩
     | true =>
      rw [hb6] at A6
      have hq4 := (Eds.inB_iff _ _ _).1 hb4
      have hq5 := (Eds.inB_iff _ _ _).1 hb5
      have h40 := hq4.1
      have h48 : y.f0 < 8 := by omega
      have h50 := hq5.1
      have h58 : y.f1 < 8 := by omega
      clear hq4 hq5
      have hsn : w5.cell? ⟨gs, y.f0.toNat * 8 + y.f1.toNat, none⟩ = some (.bool (Eds.had (l1.take kk) y.f0 y.f1)) := (blk_cell BK.out _).trans (Eds.at_ _ _ _ h40 h48 h50 h58)
      have hsf := blk_frozen BK.out (y.f0.toNat * 8 + y.f1.toNat)
      cases hb7 : Eds.had (l1.take kk) y.f0 y.f1 with
      | true =>
       rw [hb7] at hsn
       have HN2 := HN.out
       simp only [hb4, hb5, hb6, hb7, Bool.and_false, Bool.false_and, Bool.and_true, Bool.true_and, Bool.not_true] at HN2
       obtain rfl : false = r := by simpa using HN2
       clear HN2 HN
       refine start_ (n := 29) (S := fun w' => w'.cell? ⟨gb, 0, none⟩ = some (.int .i64 y.f0) ∧ w'.cell? ⟨gb, 1, none⟩ = some (.int .i64 y.f1) ∧ w'.cell? ⟨gb, 2, none⟩ = some (.int .i64 y.f2) ∧ w'.cell? ⟨gs, y.f0.toNat * 8 + y.f1.toNat, none⟩ = some (.bool true)) (ds := []) (bs 29 0) kR rfl kR ⟨hcz0, hcz1, hcz2, hsn⟩ (fun hHeld => ?_)
       refine pur_ 0 23 (bs 29 1) kR ?_
       refine tak_ 1 24 (bs 29 3) kR hHeld ?_
       refine pur_ 2 25 (bs 29 7) kR ?_
       refine pur_ 3 26 (bs 29 15) kR ?_
       refine one_ (i := 4) (N := some 27) (bs 29 31) rfl rfl kR (by decide) (fun K hK => ?_)
       refine goes_ Try.func87 (by kernel_rfl) rfl #[.int .i64 y.f0, .int .i64 0, .int .i64 (a0 - 1)] (by rfl) rfl rfl (by (try simp only [List.map_toArray, List.map_cons, List.map_nil]); first | done | rfl) ?_
       refine (impl_in.calls y.f0 0 (a0 - 1) true _ A4.out).mono ?_
       rintro e w' ⟨rfl, ⟨nd, rfl⟩⟩
       refine ⟨_, rfl, ?_⟩
       refine hK.out _ _ hHeld (fun hHeld => ?_)
       clear hK K
       refine norm_ (a' := ?_) ?_ ?_
       rotate_left
       ·show Act.put _ (some 27) _ = _
        simp only [Act.put, List.setIfInBounds_toArray, List.set_cons_zero, List.set_cons_succ, i64_w, i32_w]
        rfl
       refine pur_ 5 28 (bs 29 63) kR ?_
       refine pur_ 6 29 (bs 29 127) kR ?_
       refine pur_ 7 30 (bs 29 255) kR ?_
       refine tak_ 8 31 (bs 29 511) kR hHeld ?_
       refine pur_ 9 32 (bs 29 1023) kR ?_
       refine pur_ 10 33 (bs 29 2047) kR ?_
       refine one_ (i := 11) (N := some 34) (bs 29 4095) rfl rfl kR (by decide) (fun K hK => ?_)
       refine goes_ Try.func87 (by kernel_rfl) rfl #[.int .i64 y.f1, .int .i64 0, .int .i64 (a0 - 1)] (by rfl) rfl rfl (by (try simp only [List.map_toArray, List.map_cons, List.map_nil]); first | done | rfl) ?_
       refine (impl_in.calls y.f1 0 (a0 - 1) true _ A5.out).mono ?_
       rintro e w' ⟨rfl, ⟨nd, rfl⟩⟩
       refine ⟨_, rfl, ?_⟩
       refine hK.out _ _ hHeld (fun hHeld => ?_)
       clear hK K
       refine norm_ (a' := ?_) ?_ ?_
       rotate_left
       ·show Act.put _ (some 34) _ = _
        simp only [Act.put, List.setIfInBounds_toArray, List.set_cons_zero, List.set_cons_succ, i64_w, i32_w]
        rfl
       refine pur_ 12 35 (bs 29 8191) kR ?_
       refine pur_ 13 36 (bs 29 16383) kR ?_
       refine pur_ 14 37 (bs 29 32767) kR ?_
       refine pur_ 15 38 (bs 29 65535) kR ?_
       refine tak_ 16 39 (bs 29 131071) kR hHeld ?_
       refine one_ (i := 17) (N := some 40) (bs 29 262143) rfl rfl kR (by decide) (fun K hK => ?_)
       refine goes_ Try.func87 (by kernel_rfl) rfl #[.int .i64 y.f2, .int .i64 0, .int .i64 100000] (by rfl) rfl rfl (by (try simp only [List.map_toArray, List.map_cons, List.map_nil]); first | done | rfl) ?_
       refine (impl_in.calls y.f2 0 100000 true _ A6.out).mono ?_
       rintro e w' ⟨rfl, ⟨nd, rfl⟩⟩
       refine ⟨_, rfl, ?_⟩
       refine hK.out _ _ hHeld (fun hHeld => ?_)
       clear hK K
       refine norm_ (a' := ?_) ?_ ?_
       rotate_left
       ·show Act.put _ (some 40) _ = _
        simp only [Act.put, List.setIfInBounds_toArray, List.set_cons_zero, List.set_cons_succ, i64_w, i32_w]
        rfl
       refine pur_ 18 41 (bs 29 524287) kR ?_
       refine pur_ 19 42 (bs 29 1048575) kR ?_
       refine pur_ 20 43 (bs 29 2097151) kR ?_
       refine pur_ 21 44 (bs 29 4194303) kR ?_
       refine tak_ 22 45 (bs 29 8388607) kR hHeld ?_
       refine pur_ 23 46 (bs 29 16777215) kR ?_
       refine tak_ 24 47 (bs 29 33554431) kR hHeld ?_
       refine pur_ 25 48 (bs 29 67108863) kR ?_
       refine pur_ 26 49 (bs 29 134217727) kR ?_
       refine tak_ 27 50 (bs 29 268435455) kR hHeld ?_
       refine pur_ 28 51 (bs 29 536870911) kR ?_
       refine done_ kR ?_
       go_wp2
       go_ret
       exact ⟨rfl, lB⟩
      | false =>
       rw [hb7] at hsn
       refine start_ (n := 29) (S := fun w' => w'.cell? ⟨gb, 0, none⟩ = some (.int .i64 y.f0) ∧ w'.cell? ⟨gb, 1, none⟩ = some (.int .i64 y.f1) ∧ w'.cell? ⟨gb, 2, none⟩ = some (.int .i64 y.f2) ∧ w'.cell? ⟨gs, y.f0.toNat * 8 + y.f1.toNat, none⟩ = some (.bool false)) (ds := []) (bs 29 0) kR rfl kR ⟨hcz0, hcz1, hcz2, hsn⟩ (fun hHeld => ?_)
       refine pur_ 0 23 (bs 29 1) kR ?_
       refine tak_ 1 24 (bs 29 3) kR hHeld ?_
       refine pur_ 2 25 (bs 29 7) kR ?_
       refine pur_ 3 26 (bs 29 15) kR ?_
       refine one_ (i := 4) (N := some 27) (bs 29 31) rfl rfl kR (by decide) (fun K hK => ?_)
       refine goes_ Try.func87 (by kernel_rfl) rfl #[.int .i64 y.f0, .int .i64 0, .int .i64 (a0 - 1)] (by rfl) rfl rfl (by (try simp only [List.map_toArray, List.map_cons, List.map_nil]); first | done | rfl) ?_
       refine (impl_in.calls y.f0 0 (a0 - 1) true _ A4.out).mono ?_
       rintro e w' ⟨rfl, ⟨nd, rfl⟩⟩
       refine ⟨_, rfl, ?_⟩
       refine hK.out _ _ hHeld (fun hHeld => ?_)
       clear hK K
       refine norm_ (a' := ?_) ?_ ?_
       rotate_left
       ·show Act.put _ (some 27) _ = _
        simp only [Act.put, List.setIfInBounds_toArray, List.set_cons_zero, List.set_cons_succ, i64_w, i32_w]
        rfl
       refine pur_ 5 28 (bs 29 63) kR ?_
       refine pur_ 6 29 (bs 29 127) kR ?_
       refine pur_ 7 30 (bs 29 255) kR ?_
       refine tak_ 8 31 (bs 29 511) kR hHeld ?_
       refine pur_ 9 32 (bs 29 1023) kR ?_
       refine pur_ 10 33 (bs 29 2047) kR ?_
       refine one_ (i := 11) (N := some 34) (bs 29 4095) rfl rfl kR (by decide) (fun K hK => ?_)
       refine goes_ Try.func87 (by kernel_rfl) rfl #[.int .i64 y.f1, .int .i64 0, .int .i64 (a0 - 1)] (by rfl) rfl rfl (by (try simp only [List.map_toArray, List.map_cons, List.map_nil]); first | done | rfl) ?_
       refine (impl_in.calls y.f1 0 (a0 - 1) true _ A5.out).mono ?_
       rintro e w' ⟨rfl, ⟨nd, rfl⟩⟩
       refine ⟨_, rfl, ?_⟩
       refine hK.out _ _ hHeld (fun hHeld => ?_)
       clear hK K
       refine norm_ (a' := ?_) ?_ ?_
       rotate_left
       ·show Act.put _ (some 34) _ = _
        simp only [Act.put, List.setIfInBounds_toArray, List.set_cons_zero, List.set_cons_succ, i64_w, i32_w]
        rfl
       refine pur_ 12 35 (bs 29 8191) kR ?_
       refine pur_ 13 36 (bs 29 16383) kR ?_
       refine pur_ 14 37 (bs 29 32767) kR ?_
       refine pur_ 15 38 (bs 29 65535) kR ?_
       refine tak_ 16 39 (bs 29 131071) kR hHeld ?_
       refine one_ (i := 17) (N := some 40) (bs 29 262143) rfl rfl kR (by decide) (fun K hK => ?_)
       refine goes_ Try.func87 (by kernel_rfl) rfl #[.int .i64 y.f2, .int .i64 0, .int .i64 100000] (by rfl) rfl rfl (by (try simp only [List.map_toArray, List.map_cons, List.map_nil]); first | done | rfl) ?_
       refine (impl_in.calls y.f2 0 100000 true _ A6.out).mono ?_
       rintro e w' ⟨rfl, ⟨nd, rfl⟩⟩
       refine ⟨_, rfl, ?_⟩
       refine hK.out _ _ hHeld (fun hHeld => ?_)
       clear hK K
       refine norm_ (a' := ?_) ?_ ?_
       rotate_left
       ·show Act.put _ (some 40) _ = _
        simp only [Act.put, List.setIfInBounds_toArray, List.set_cons_zero, List.set_cons_succ, i64_w, i32_w]
        rfl
       refine pur_ 18 41 (bs 29 524287) kR ?_
       refine pur_ 19 42 (bs 29 1048575) kR ?_
       refine pur_ 20 43 (bs 29 2097151) kR ?_
       refine pur_ 21 44 (bs 29 4194303) kR ?_
       refine tak_ 22 45 (bs 29 8388607) kR hHeld ?_
       refine pur_ 23 46 (bs 29 16777215) kR ?_
       refine tak_ 24 47 (bs 29 33554431) kR hHeld ?_
       refine pur_ 25 48 (bs 29 67108863) kR ?_
       refine pur_ 26 49 (bs 29 134217727) kR ?_
       refine tak_ 27 50 (bs 29 268435455) kR hHeld ?_
       refine pur_ 28 51 (bs 29 536870911) kR ?_
       refine done_ kR ?_
       go_wp2
       refine start_ (n := 7) (S := fun w' => (w'.cell? ⟨gb, 0, none⟩ = some (.int .i64 y.f0) ∧ w'.cell? ⟨gb, 1, none⟩ = some (.int .i64 y.f1) ∧ w'.cell? ⟨gb, 2, none⟩ = some (.int .i64 y.f2)) ∧ w'.frozen? ⟨gs, y.f0.toNat * 8 + y.f1.toNat, none⟩ = false ∧ w'.cell? ⟨gs, y.f0.toNat * 8 + y.f1.toNat, none⟩ = some (.bool false)) (ds := [6]) (bs 7 0) kR rfl kR ⟨⟨hcz0, hcz1, hcz2⟩, hsf, hsn⟩ (fun hHeld => ?_)
       refine pur_ 0 52 (bs 7 1) kR ?_
       refine tak_ 1 53 (bs 7 3) kR hHeld ?_
       refine pur_ 2 54 (bs 7 7) kR ?_
       refine tak_ 3 55 (bs 7 15) kR hHeld ?_
       refine pur_ 4 56 (bs 7 31) kR ?_
       refine pur_ 5 57 (bs 7 63) kR ?_
       refine last_ (i := 6) (N := none) (bs 7 127) rfl rfl kR (by decide) (fun K hK => ?_)
       have hs0_ := hHeld.2.1
       have hs1_ := hHeld.2.2
       refine skip_ (w1 := World.setCell _ ⟨gs, y.f0.toNat * 8 + y.f1.toNat, none⟩ (.bool true)) (by rfl) rfl (by first | (go_simp; done) | (go_simp; rfl)) ?_
       refine hK.out _ _ ?_
       clear hK K
       refine done_ kR ?_
       go_wp2_with fail
       go_roundg (l1.length - (kk + 1))
       case measure => omega
       case rel => exact ⟨kk + 1, by omega, by omega, by go_num, ⟨below_set (pw_below_drewN HB.out _) GE.out⟩, ⟨by rw [HT.out, ← Eds.set_ _ _ h40 h48 h50 h58]; exact blk_set (bN BK.out _) _ _⟩, ⟨by have h_ := HN.out; simp only [hb4, hb5, hb6, hb7, Bool.and_true, Bool.true_and, Bool.not_false] at h_; rw [← HT.out] at h_; exact h_⟩⟩
  ·have hltz : ¬ (kk : Int) < (l1.length : Int) := by omega
   have hd0 : decide (kk < l1.length) = false := decide_eq_false hlt
   have hkl : kk = l1.length := by omega
   have hI := HI.out
   rw [hkl, List.drop_length] at hI
   obtain rfl : true = r := hI
   clear HI hkl
   go_wp2
   go_ret
   exact ⟨rfl, lB⟩
set_option maxHeartbeats 8000000 in
set_option maxRecDepth 100000 in
theorem impl_areEdges.calls (a0 : Int) (A1 : Option Addr) (c1 : Nat) (l1 : List S48) (r : Bool) (w : World) (hr1 : Kd.C k48 w A1 l1.length l1) (hc1 : l1.length ≤ c1) (h : impl_areEdges.f a0 l1 = some r) :
  Calls Try.prog 59 #[.int .i64 a0, .slice A1 l1.length c1] w fun e w' => e = .returned (.bool r) ∧ Below w.heap.size w w' := by
 unfold impl_areEdges.f at h
 have hI := Option.some.inj h
 clear h
 cases h1 : Eds.inB a0 1 8 with
 | false =>
  rw [h1] at hI
  obtain rfl : false = r := by simpa using hI
  have A3 := Aside0.mk ((Eds.in_eq a0 1 8).trans (congrArg some h1))
  clear hI hr1 h1
  go_enter Try.func59, Try.ntmps59
  go_wp2_with (first | (go_at_call 87; (with_reducible refine (impl_in.calls a0 1 8 false _ A3.out).mono ?_); rintro e w' ⟨rfl, ⟨nd, rfl⟩⟩))
  go_ret
  exact ⟨rfl, pw_below_drewN (Below.refl _ _) _⟩
 | true =>
  by_cases h2 : (l1.length : Int) ≤ 20
  ·rw [h1, decide_eq_true h2] at hI
   exact Eds.calls a0 A1 c1 l1 r w hr1 hc1 h1 h2 (by simpa using hI)
  ·rw [h1, decide_eq_false h2] at hI
   obtain rfl : false = r := by simpa using hI
   have hd : decide (20 < (l1.length : Int)) = true := decide_eq_true (by omega)
   have A3 := Aside0.mk ((Eds.in_eq a0 1 8).trans (congrArg some h1))
   clear hI hr1 h1
   go_enter Try.func59, Try.ntmps59
   go_wp2_with (first | (go_at_call 87; (with_reducible refine (impl_in.calls a0 1 8 true _ A3.out).mono ?_); rintro e w' ⟨rfl, ⟨nd, rfl⟩⟩))
   go_ret
   exact ⟨rfl, pw_below_drewN (Below.refl _ _) _⟩


/-! ### impl_isWord: function 120 -/
def impl_isWord.f (a0 : Int) : Option (Bool) := (impl_in.f a0 0 65535).bind fun t247 => (some t247)
set_option maxHeartbeats 8000000 in
set_option maxRecDepth 100000 in
theorem impl_isWord.calls (a0 : Int) (r : Bool) (w : World) (h : impl_isWord.f a0 = some r) :
  Calls Try.prog 120 #[.int .i64 a0] w fun e w' => e = .returned (.bool r) ∧ Drawn0 w w' := by
 have H : ((impl_in.f a0 0 65535).bind fun t247 => (some t247)) = some r := h
 clear h
 replace H := lO H
 obtain ⟨t247, A2, H⟩ := H
 obtain rfl := Option.some.inj H
 go_enter Try.func120, Try.ntmps120
 go_wp2_with (first | ((with_reducible refine gate_callee (f := 87) rfl ?_); refine gl_ (some 4) (Try.func87) #[.int .i64 a0, .int .i64 0, .int .i64 65535] ?_; (with_reducible refine (impl_in.calls a0 0 65535 t247 _ A2.out).mono ?_); rintro e w' ⟨rfl, ⟨nd, rfl⟩⟩; refine ⟨_, rfl, ?_⟩))
 go_ret
 exact ⟨by first | rfl | (simp; done) | (simp [*]; done), by repeat (first | exact Drawn0.refl _ | apply Drawn0.step)⟩

/-! ### impl_areWords_1: function 119 -/
def impl_areWords_1.f (a0 : Int) : Option (Bool) := (impl_isWord.f a0).bind fun t248 => (some (!t248))
set_option maxHeartbeats 8000000 in
set_option maxRecDepth 100000 in
theorem impl_areWords_1.calls (a0 : Int) (r : Bool) (w : World) (h : impl_areWords_1.f a0 = some r) :
  Calls Try.prog 119 #[.int .i64 a0] w fun e w' => e = .returned (.bool r) ∧ Drawn0 w w' := by
 have H : ((impl_isWord.f a0).bind fun t248 => (some (!t248))) = some r := h
 clear h
 replace H := lO H
 obtain ⟨t248, A2, H⟩ := H
 obtain rfl := Option.some.inj H
 go_enter Try.func119, Try.ntmps119
 go_wp2_with (first | ((with_reducible refine gate_callee (f := 120) rfl ?_); refine gl_ (some 4) (Try.func120) #[.int .i64 a0] ?_; (with_reducible refine (impl_isWord.calls a0 t248 _ A2.out).mono ?_); rintro e w' ⟨rfl, ⟨nd, rfl⟩⟩; refine ⟨_, rfl, ?_⟩))
 go_ret
 exact ⟨by first | rfl | (simp; done) | (simp [*]; done), by repeat (first | exact Drawn0.refl _ | apply Drawn0.step)⟩

/-! ### impl_RunCode_1: function 136 -/
def impl_RunCode_1.f (a0 : Int) : Option (Bool) := (impl_isWord.f a0).bind fun t249 => (some (!t249))
set_option maxHeartbeats 8000000 in
set_option maxRecDepth 100000 in
theorem impl_RunCode_1.calls (a0 : Int) (r : Bool) (w : World) (h : impl_RunCode_1.f a0 = some r) :
  Calls Try.prog 136 #[.int .i64 a0] w fun e w' => e = .returned (.bool r) ∧ Drawn0 w w' := by
 have H : ((impl_isWord.f a0).bind fun t249 => (some (!t249))) = some r := h
 clear h
 replace H := lO H
 obtain ⟨t249, A2, H⟩ := H
 obtain rfl := Option.some.inj H
 go_enter Try.func136, Try.ntmps136
 go_wp2_with (first | ((with_reducible refine gate_callee (f := 120) rfl ?_); refine gl_ (some 4) (Try.func120) #[.int .i64 a0] ?_; (with_reducible refine (impl_isWord.calls a0 t249 _ A2.out).mono ?_); rintro e w' ⟨rfl, ⟨nd, rfl⟩⟩; refine ⟨_, rfl, ?_⟩))
 go_ret
 exact ⟨by first | rfl | (simp; done) | (simp [*]; done), by repeat (first | exact Drawn0.refl _ | apply Drawn0.step)⟩

/-! ### slices_IndexFunc_int_int_135: function 135 -/
-- slices.IndexFunc, whatever is asked
set_option maxHeartbeats 800000 in
set_option maxRecDepth 100000 in
theorem idx135_ (g : Nat) (caps : Array Value) (eg : ∀ args w, (callFunc g args).run Try.prog w = .ok (.enter g args) w) (p : Int → Option Bool) (A0 : Option Addr) (c0 : Nat) (l0 : List Int) (w : World) (hr0 : Kd.C (Kd.int .i64) w A0 l0.length l0)
    (hp : ∀ (W : World) (x : Int) (b : Bool), Below w.heap.size w W → p x = some b → Calls Try.prog g (#[.int .i64 x] ++ caps) W fun e w' => e = .returned (.bool b) ∧ Below W.heap.size W w') (r : Int) (h : Kit.idxO p l0 0 = some r) :
    Calls Try.prog 135 #[.slice A0 l0.length c0, .func (.func g) #[] caps] w fun e w' => e = .returned (.int .i64 r) ∧ Below w.heap.size w w' := by
  have HR := Aside0.mk hr0
  have HP := Aside0.mk hp
  have HH := Aside0.mk h
  have hbig := hr0.2.1
  clear hr0 hp h
  go_enter Try.func135, Try.ntmps135
  go_wp2
  go_loopg [5, 8] l0.length (fun gg _ s8 wr => ∃ kk : Nat, kk ≤ l0.length ∧ l0.length - kk ≤ gg ∧ s8 = .int .i64 kk ∧ Aside0 (Below w.heap.size w wr) ∧ Aside0 (Kit.idxO p (l0.drop kk) kk = some r))
  case atStart => exact ⟨0, Nat.zero_le _, by omega, rfl, ⟨Below.refl _ _⟩, ⟨by simpa using HH.out⟩⟩
  case round =>
    obtain ⟨kk, hkk, hg, rfl, HB, HI⟩ := hrel
    by_cases hlt : kk < l0.length
    · have hltz : (kk : Int) < (l0.length : Int) := by omega
      have hd0 : decide (kk < l0.length) = true := decide_eq_true hlt
      obtain ⟨ad, e_, hx0⟩ := Kd.at_int HR.out (kk : Int) (by omega) (by omega)
      cases e_
      replace hx0 := pw_cell_below HB.out hx0
      simp only [Int.toNat_natCast] at hx0
      have hd : l0.drop kk = rd l0 (kk : Int) :: l0.drop (kk + 1) := by
        rw [List.drop_eq_getElem_cons hlt]; simp [rd, List.getD, hlt]
      generalize rd l0 (kk : Int) = y at hd hx0
      have HI' := HI.out
      rw [hd] at HI'
      simp only [Kit.idxO] at HI'
      obtain ⟨b, hb, hI⟩ := Option.bind_eq_some_iff.1 HI'
      have hcall := HP.out wr y b HB.out hb
      have HIb := Aside0.mk hI
      clear hI HI' hb hd HI
      cases b with
      | true =>
        go_wp2_with fail
        refine hcall.mono ?_
        rintro e w2 ⟨rfl, hb2⟩
        clear hcall
        go_wp2_with fail
        go_ret
        have hI := HIb.out
        simp only [if_true, Option.some.injEq] at hI
        exact ⟨by subst hI; rfl, HB.out.trans (hb2.mono HB.out.size)⟩
      | false =>
        go_wp2_with fail
        refine hcall.mono ?_
        rintro e w2 ⟨rfl, hb2⟩
        clear hcall
        go_wp2_with fail
        go_roundg (l0.length - (kk + 1))
        case measure => omega
        case rel => exact ⟨kk + 1, by omega, by omega, by go_num, ⟨HB.out.trans (hb2.mono HB.out.size)⟩, ⟨by simpa using HIb.out⟩⟩
    · have hltz : ¬ (kk : Int) < (l0.length : Int) := by omega
      have hd0 : decide (kk < l0.length) = false := decide_eq_false hlt
      have hkl : kk = l0.length := by omega
      have hI := HI.out
      rw [hkl, List.drop_length] at hI
      simp [Kit.idxO] at hI
      clear HI hkl
      have HR2 := Aside0.mk hI
      clear hI
      go_wp2
      go_ret
      exact ⟨by have e_ := HR2.out; subst e_; rfl, HB.out⟩

/-! ### slices_ContainsFunc_int_int: function 118 -/
-- slices.ContainsFunc, whatever is asked
set_option maxHeartbeats 800000 in
set_option maxRecDepth 100000 in
theorem cnt118_ (g : Nat) (caps : Array Value) (eg : ∀ args w, (callFunc g args).run Try.prog w = .ok (.enter g args) w) (p : Int → Option Bool) (A0 : Option Addr) (c0 : Nat) (l0 : List Int) (w : World) (hr0 : Kd.C (Kd.int .i64) w A0 l0.length l0)
    (hp : ∀ (W : World) (x : Int) (b : Bool), Below w.heap.size w W → p x = some b → Calls Try.prog g (#[.int .i64 x] ++ caps) W fun e w' => e = .returned (.bool b) ∧ Below W.heap.size W w') (r : Bool) (h : Kit.anyO p l0 = some r) :
    Calls Try.prog 118 #[.slice A0 l0.length c0, .func (.func g) #[] caps] w fun e w' => e = .returned (.bool r) ∧ Below w.heap.size w w' := by
  obtain ⟨i, hi, hri⟩ := Kit.idxO_any p l0 0 r h
  have hcall := idx135_ g caps eg p A0 c0 l0 w hr0 hp i hi
  have HI := Aside0.mk hri
  clear hri hi h hp hr0
  go_enter Try.func118, Try.ntmps118
  go_wp2_with fail
  refine hcall.mono ?_
  rintro e w2 ⟨rfl, hb2⟩
  clear hcall
  go_wp2
  go_ret
  exact ⟨by rw [HI.out]; rfl, hb2⟩
def slices_ContainsFunc_int_int.f (l0 : List Int) (a1 : Nat) : Option (Bool) := if a1 = 119 then Kit.anyO (fun x : Int => impl_areWords_1.f x) l0 else if a1 = 136 then Kit.anyO (fun x : Int => impl_RunCode_1.f x) l0 else none
theorem slices_ContainsFunc_int_int.calls (A0 : Option Addr) (c0 : Nat) (l0 : List Int) (a1 : Nat) (r : Bool) (w : World) (hr0 : Kd.C (Kd.int .i64) w A0 l0.length l0) (hc0 : l0.length ≤ c0) (h : slices_ContainsFunc_int_int.f l0 a1 = some r) :
    Calls Try.prog 118 #[.slice A0 l0.length c0, .func (.func a1) #[] #[]] w fun e w' => e = .returned (.bool r) ∧ Below w.heap.size w w' := by
  unfold slices_ContainsFunc_int_int.f at h
  by_cases e_ : a1 = 119
  · subst e_
    rw [if_pos rfl] at h
    exact cnt118_ 119 #[] (enters_of Try.func119 (by kernel_rfl) rfl) (fun x : Int => impl_areWords_1.f x) A0 c0 l0 w hr0 (fun W x b hW hx => (impl_areWords_1.calls x b W  hx).mono fun e w' ⟨he, hd⟩ => ⟨he, hd.below⟩) r h
  · rw [if_neg e_] at h
    clear e_
    by_cases e_ : a1 = 136
    · subst e_
      rw [if_pos rfl] at h
      exact cnt118_ 136 #[] (enters_of Try.func136 (by kernel_rfl) rfl) (fun x : Int => impl_RunCode_1.f x) A0 c0 l0 w hr0 (fun W x b hW hx => (impl_RunCode_1.calls x b W  hx).mono fun e w' ⟨he, hd⟩ => ⟨he, hd.below⟩) r h
    · rw [if_neg e_] at h
      clear e_
      exact absurd h (by simp)

/-! ### impl_areWords: function 90 -/
def impl_areWords.f (l0 : List Int) : Option (Bool) := if (l0.length : Int) = 8 then ((slices_ContainsFunc_int_int.f l0 119).bind fun t250 => (some (!t250))) else (some false)
set_option maxHeartbeats 8000000 in
set_option maxRecDepth 100000 in
theorem impl_areWords.calls (A0 : Option Addr) (c0 : Nat) (l0 : List Int) (r : Bool) (w : World) (hr0 : Kd.C (Kd.int .i64) w A0 l0.length l0) (hc0 : l0.length ≤ c0) (h : impl_areWords.f l0 = some r) :
  Calls Try.prog 90 #[.slice A0 l0.length c0] w fun e w' => e = .returned (.bool r) ∧ Below w.heap.size w w' := by
 have HR0 := Aside0.mk hr0
 have HC0 := Aside0.mk hc0
 clear hr0 hc0
 have HB := Aside0.mk (Below.refl w.heap.size w)
 have H : (if (l0.length : Int) = 8 then ((slices_ContainsFunc_int_int.f l0 119).bind fun t250 => (some (!t250))) else (some false)) = some r := h
 clear h
 by_cases c2 : (l0.length : Int) = 8
 ·rw [if_pos c2] at H
  have c2b0 : ((l0.length : Int) == 8) = true := beq_iff_eq.mpr c2
  have c2b1 : ((l0.length : Int) != 8) = false := bne_eq_false_iff_eq.mpr c2
  clear c2
  replace H := lO H
  obtain ⟨t250, A3, H⟩ := H
  obtain rfl := Option.some.inj H
  go_enter Try.func90, Try.ntmps90
  go_wp2_with (first | (go_at_call 118; (with_reducible refine (slices_ContainsFunc_int_int.calls _ _ l0 119 t250 _ ?side1 ?side2 A3.out).mono ?_); (case side1 => repeat (first | exact HR0.out | (with_reducible refine Kd.C_alloc ?_ _) | (with_reducible refine Kd.C_drewN ?_ _) | (with_reducible refine Kd.C_drew ?_))); (case side2 => exact HC0.out); rintro e w4 ⟨rfl, hb⟩; have n0_ := Aside0.mk (below_step lB hb); clear HB; have HB := n0_; clear n0_; (try clear hb); (try clear hb2); (try clear hk); (try clear hi)))
  go_ret
  exact ⟨lE, lB⟩
 ·rw [if_neg c2] at H
  have c2b0 : ((l0.length : Int) == 8) = false := beq_eq_false_iff_ne.mpr c2
  have c2b1 : ((l0.length : Int) != 8) = true := bne_iff_ne.mpr c2
  obtain rfl := Option.some.inj H
  go_enter Try.func90, Try.ntmps90
  first | (go_wp2; go_ret; exact ⟨lE, lB⟩) | (exfalso; simp only [decide_eq_false_iff_not, decide_eq_true_eq] at *; omega)

/-! ### impl_CountEdges_1: function 89 -/
def impl_CountEdges_1.f (l0 : List Int) : Option (Bool) := (impl_areWords.f l0).bind fun t251 => (some (!t251))
set_option maxHeartbeats 8000000 in
set_option maxRecDepth 100000 in
theorem impl_CountEdges_1.calls (A0 : Option Addr) (c0 : Nat) (l0 : List Int) (r : Bool) (w : World) (hr0 : Kd.C (Kd.int .i64) w A0 l0.length l0) (hc0 : l0.length ≤ c0) (h : impl_CountEdges_1.f l0 = some r) :
  Calls Try.prog 89 #[.slice A0 l0.length c0] w fun e w' => e = .returned (.bool r) ∧ Below w.heap.size w w' := by
 have HR0 := Aside0.mk hr0
 have HC0 := Aside0.mk hc0
 clear hr0 hc0
 have HB := Aside0.mk (Below.refl w.heap.size w)
 have H : ((impl_areWords.f l0).bind fun t251 => (some (!t251))) = some r := h
 clear h
 replace H := lO H
 obtain ⟨t251, A2, H⟩ := H
 obtain rfl := Option.some.inj H
 go_enter Try.func89, Try.ntmps89
 go_wp2_with (first | ((with_reducible refine gate_callee (f := 90) rfl ?_); refine gl_ (some 4) (Try.func90) #[.slice A0 l0.length c0] ?_; (with_reducible refine (impl_areWords.calls _ _ l0 t251 _ ?side1 ?side2 A2.out).mono ?_); (case side1 => repeat (first | exact HR0.out | (with_reducible refine Kd.C_alloc ?_ _) | (with_reducible refine Kd.C_drewN ?_ _) | (with_reducible refine Kd.C_drew ?_))); (case side2 => exact HC0.out); rintro e w3 ⟨rfl, hb⟩; refine ⟨_, rfl, ?_⟩; have n0_ := Aside0.mk (below_step lB hb); clear HB; have HB := n0_; clear n0_; (try clear hb); (try clear hb2); (try clear hk); (try clear hi)))
 go_ret
 exact ⟨lE, lB⟩

-- NOT PRINTED: function 100 (impl_chainsOf_2)

-- NOT PRINTED: function 101 (impl_chainsOf_3)

/-! ### slices_IndexFunc_int_int_99: function 99 -/
-- slices.IndexFunc, whatever is asked
set_option maxHeartbeats 800000 in
set_option maxRecDepth 100000 in
theorem idx99_ (g : Nat) (caps : Array Value) (eg : ∀ args w, (callFunc g args).run Try.prog w = .ok (.enter g args) w) (p : (List Int) → Option Bool) (A0 : Option Addr) (c0 : Nat) (l0 : List (List Int)) (w : World) (hr0 : Kd.C (Kd.slice 3 (Kd.int .i64)) w A0 l0.length l0)
    (hp : ∀ (W : World) (x : List Int) (b : Bool) (A_0 : Option Addr) (c_0 : Nat), Below w.heap.size w W → x.length ≤ c_0 → Kd.C (Kd.int .i64) W A_0 x.length x → p x = some b → Calls Try.prog g (#[.slice A_0 x.length c_0] ++ caps) W fun e w' => e = .returned (.bool b) ∧ Below W.heap.size W w') (r : Int) (h : Kit.idxO p l0 0 = some r) :
    Calls Try.prog 99 #[.slice A0 l0.length c0, .func (.func g) #[] caps] w fun e w' => e = .returned (.int .i64 r) ∧ Below w.heap.size w w' := by
  have HR := Aside0.mk hr0
  have HP := Aside0.mk hp
  have HH := Aside0.mk h
  have hbig := hr0.2.1
  clear hr0 hp h
  go_enter Try.func99, Try.ntmps99
  go_wp2
  go_loopg [5, 8] l0.length (fun gg _ s8 wr => ∃ kk : Nat, kk ≤ l0.length ∧ l0.length - kk ≤ gg ∧ s8 = .int .i64 kk ∧ Aside0 (Below w.heap.size w wr) ∧ Aside0 (Kit.idxO p (l0.drop kk) kk = some r))
  case atStart => exact ⟨0, Nat.zero_le _, by omega, rfl, ⟨Below.refl _ _⟩, ⟨by simpa using HH.out⟩⟩
  case round =>
    obtain ⟨kk, hkk, hg, rfl, HB, HI⟩ := hrel
    by_cases hlt : kk < l0.length
    · have hltz : (kk : Int) < (l0.length : Int) := by omega
      have hd0 : decide (kk < l0.length) = true := decide_eq_true hlt
      obtain ⟨ad, A_0, c_0, e_, hx0, ⟨hl0, hC0⟩⟩ := at_L5 HR.out (kk : Int) (by omega) (by omega)
      cases e_
      replace hx0 := pw_cell_below HB.out hx0
      simp only [Int.toNat_natCast] at hx0
      replace hC0 := Kd.C_below hC0 HB.out
      have hd : l0.drop kk = rd_L5 l0 (kk : Int) :: l0.drop (kk + 1) := by
        rw [List.drop_eq_getElem_cons hlt]; simp [rd_L5, List.getD, hlt]
      generalize rd_L5 l0 (kk : Int) = y at hd hx0 hl0 hC0
      have HI' := HI.out
      rw [hd] at HI'
      simp only [Kit.idxO] at HI'
      obtain ⟨b, hb, hI⟩ := Option.bind_eq_some_iff.1 HI'
      have hcall := HP.out wr y b A_0 c_0 HB.out hl0 hC0 hb
      have HIb := Aside0.mk hI
      clear hI HI' hb hd HI hl0 hC0
      cases b with
      | true =>
        go_wp2_with fail
        refine hcall.mono ?_
        rintro e w2 ⟨rfl, hb2⟩
        clear hcall
        go_wp2_with fail
        go_ret
        have hI := HIb.out
        simp only [if_true, Option.some.injEq] at hI
        exact ⟨by subst hI; rfl, HB.out.trans (hb2.mono HB.out.size)⟩
      | false =>
        go_wp2_with fail
        refine hcall.mono ?_
        rintro e w2 ⟨rfl, hb2⟩
        clear hcall
        go_wp2_with fail
        go_roundg (l0.length - (kk + 1))
        case measure => omega
        case rel => exact ⟨kk + 1, by omega, by omega, by go_num, ⟨HB.out.trans (hb2.mono HB.out.size)⟩, ⟨by simpa using HIb.out⟩⟩
    · have hltz : ¬ (kk : Int) < (l0.length : Int) := by omega
      have hd0 : decide (kk < l0.length) = false := decide_eq_false hlt
      have hkl : kk = l0.length := by omega
      have hI := HI.out
      rw [hkl, List.drop_length] at hI
      simp [Kit.idxO] at hI
      clear HI hkl
      have HR2 := Aside0.mk hI
      clear hI
      go_wp2
      go_ret
      exact ⟨by have e_ := HR2.out; subst e_; rfl, HB.out⟩

/-! ### impl_chainsOf_4: function 103 -/
def impl_chainsOf_4.f (l0 : List Int) (l1 : List Int) : Option (Int) := if 0 < (l0.length : Int) then (if 0 < (l1.length : Int) then (some (wrap64 ((rd l0 0) - (rd l1 0)))) else (none)) else (none)
set_option maxHeartbeats 8000000 in
set_option maxRecDepth 100000 in
theorem impl_chainsOf_4.calls (A0 : Option Addr) (c0 : Nat) (l0 : List Int) (A1 : Option Addr) (c1 : Nat) (l1 : List Int) (r : Int) (w : World) (hr0 : Kd.C (Kd.int .i64) w A0 l0.length l0) (hc0 : l0.length ≤ c0) (hr1 : Kd.C (Kd.int .i64) w A1 l1.length l1) (hc1 : l1.length ≤ c1) (h : impl_chainsOf_4.f l0 l1 = some r) :
  Calls Try.prog 103 #[.slice A0 l0.length c0, .slice A1 l1.length c1] w fun e w' => e = .returned (.int .i64 r) ∧ Drawn0 w w' := by
 have HR0 := Aside0.mk hr0
 have HC0 := Aside0.mk hc0
 clear hr0 hc0
 have HR1 := Aside0.mk hr1
 have HC1 := Aside0.mk hc1
 clear hr1 hc1
 have H : (if 0 < (l0.length : Int) then (if 0 < (l1.length : Int) then (some (wrap64 ((rd l0 0) - (rd l1 0)))) else (none)) else (none)) = some r := h
 clear h
 by_cases c3 : 0 < (l0.length : Int)
 ·rw [if_pos c3] at H
  have c3b0 : decide (0 < (l0.length : Int)) = true := decide_eq_true c3
  have c3b1 : decide (0 < l0.length) = true := decide_eq_true (by omega)
  clear c3
  by_cases c4 : 0 < (l1.length : Int)
  ·rw [if_pos c4] at H
   have c4b0 : decide (0 < (l1.length : Int)) = true := decide_eq_true c4
   have c4b1 : decide (0 < l1.length) = true := decide_eq_true (by omega)
   clear c4
   obtain rfl := Option.some.inj H
   have p252 : 0 ≤ (0 : Int) := (by omega)
   have q252 : 0 < (l0.length : Int) := lD
   obtain ⟨ad252, e252, hx252_0⟩ := Kd.at_int HR0.out 0 p252 q252
   cases e252
   have qi252 : (0 < l0.length) = True := eq_true (by omega)
   (try rw [show ((0 : Int)).toNat = 0 from rfl] at hx252_0)
   (try rw [Addr.add_zero'] at hx252_0)
   replace p252 := eq_true p252
   replace q252 := eq_true q252
   have p253 : 0 ≤ (0 : Int) := (by omega)
   have q253 : 0 < (l1.length : Int) := lD
   obtain ⟨ad253, e253, hx253_0⟩ := Kd.at_int HR1.out 0 p253 q253
   cases e253
   have qi253 : (0 < l1.length) = True := eq_true (by omega)
   (try rw [show ((0 : Int)).toNat = 0 from rfl] at hx253_0)
   (try rw [Addr.add_zero'] at hx253_0)
   replace p253 := eq_true p253
   replace q253 := eq_true q253
   go_enter Try.func103, Try.ntmps103
   go_wp2
   repeat (go_quiet (fail); try go_wp2)
   go_ret
   exact ⟨by first | rfl | (simp; done) | (simp [*]; done), by repeat (first | exact Drawn0.refl _ | apply Drawn0.step)⟩
  ·rw [if_neg c4] at H
   exact absurd H (by simp)
 ·rw [if_neg c3] at H
  exact absurd H (by simp)

end Go.Proofs.Ytpnhlccdhflogaa.Q
