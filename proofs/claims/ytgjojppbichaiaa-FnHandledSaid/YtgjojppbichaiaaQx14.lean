-- Written by the program wip/tools/pr.py of this claim's session, over the kit's print.py.
import Derived.Test.YtgjojppbichaiaaQx0
import Derived.Test.YtgjojppbichaiaaQx6
import Derived.Test.YtgjojppbichaiaaQx12
import Derived.Test.YtgjojppbichaiaaQx13
namespace Go.Proofs.Ytgjojppbichaiaa.Q
open Go.RowKit Go.Proofs.YtgjojppbichaiaaW.PrintWords Go.Proofs.YtgjojppbichaiaaW.PrintLast Go.Proofs.YtgjojppbichaiaaW.PrintMore
attribute [local go_sem] max2_int min2_int max_two min_two max_three min_three max_four min_four   -- for this text's walks alone
set_option linter.unusedVariables false
set_option linter.unusedSimpArgs false
theorem Ls.res {fn : Func} {p u : Tmp} {ty : TypeId} (h : fn.results = #[.cell p ty, .tmp u]) (tmps : Array Value) (P : Program) (w : World) (g : Nat) (cs : Array Value)
    (hp : tmps.getD p undef = .pointer (some ⟨g, 0, none⟩)) (hl : (loadVar ty ⟨g, 0, none⟩).run P w = .ok (.agg cs) w) :
    (results fn tmps).run P w = .ok (.tuple #[.agg cs, tmps.getD u undef]) w := by
  have hp' : tmps[p]?.getD undef = .pointer (some ⟨g, 0, none⟩) := by simpa using hp
  rw [results_cell_tmp h]
  simp [hp', asAddr, hl]
theorem Ls.info38 : (Try.prog.info? 38).map (·.size) = some 2 := by kernel_rfl
theorem Ls.alloc_step {P : Program} {ops : Array Oper} {Q : Exit → Act → World → Prop} {oi : Oper} {N : Option Tmp} {a : Act} {w : World} {K : Act → World → Prop} {cs : Array Value} {t : TypeId} (hw : Region.wanted oi (yielded ops a.tmps) = true) (hN : oi.dst = N)
    (hrun : (execOp a.eval oi).run P w = .ok (.value (.pointer (some ⟨w.heap.size, 0, none⟩))) (w.alloc (.cells cs t (0, 0))))
    (h : ∀ g w1, g = w.heap.size → w1.heap[g]? = some (.cells cs t (0, 0)) → Below w.heap.size w w1 → K (a.put N (.pointer (some ⟨g, 0, none⟩))) w1) : if Region.wanted oi (yielded ops a.tmps) = true then Oper.wp P oi a w K Q else K (a.put N undef) w := by
  rw [if_pos hw]
  subst hN
  unfold Oper.wp
  rw [hrun]
  exact h _ _ rfl (heap_alloc_new w _) ((Below.refl _ _).alloc (Nat.le_refl _) _)
def spec_LineTree.f (k : Nat) (l : List S76) : Option (List S86 × List S63 × Bool) := (spec_l16Tree.f k l).bind fun b => if b.2.2.2 = true then ((Ls.lay ⟨b.1, b.2.1, b.2.2.1⟩ ⟨[], [], 0⟩).bind fun q => (spec_GoodLined.f k q.s q.g).bind fun g => if g = true then some (q.s, q.g, true) else some ([], [], false)) else some ([], [], false)
set_option maxHeartbeats 8000000 in
set_option maxRecDepth 100000 in
theorem spec_LineTree.calls (k : Nat) (A0 : Option Addr) (c0 : Nat) (l0 : List S76) (r1 : List S86) (r2 : List S63) (r3 : Bool) (w : World) (hr0 : Kd.C k76 w A0 l0.length l0) (hc0 : l0.length ≤ c0) (h : spec_LineTree.f k l0 = some (r1, r2, r3)) :
  Calls Try.prog 35 #[.slice A0 l0.length c0] w fun e w' => ∃ v0_ v1_ : Value, e = .returned (.tuple #[.agg #[v0_, v1_], .bool r3]) ∧ Kd.R k86 86 w' w.heap.size (fun _ => True) v0_ r1 ∧ Kd.R k63 63 w' w.heap.size (fun _ => True) v1_ r2 ∧ Below w.heap.size w w' := by
 unfold spec_LineTree.f at h
 have hu38 := Try.underlying38
 have hu105 := Try.underlying105
 have hu72 := Try.underlying72
 have hu35 := Try.underlying35
 have hu36 := Try.underlying36
 have HR0 := Aside0.mk hr0
 have HC0 := Aside0.mk hc0
 clear hr0 hc0
 replace h := lO h
 obtain ⟨⟨tk, tn, ts, tb⟩, A1, h⟩ := h
 simp only at h
 cases tb with
 | false =>
  rw [if_neg (by simp)] at h
  simp only [Option.some.injEq, Prod.mk.injEq] at h
  obtain ⟨rfl, rfl, rfl⟩ := h
  go_enter Try.func35, Try.ntmps35
  go_upto_region 1 with (fail)
  have n0_ : Aside0 ((w.alloc (Obj.cells #[Value.slice none 0 0, Value.slice none 0 0] 38)).heap[w.heap.size]? = some (Obj.cells #[Value.slice none 0 0, Value.slice none 0 0] 38)) := ⟨blk_new w _⟩
  have n1_ := Aside0.mk (below_alloc (Below.refl w.heap.size w) (Obj.cells #[Value.slice none 0 0, Value.slice none 0 0] 38))
  have n2_ := Aside0.mk (Kd.C_alloc HR0.out (Obj.cells #[Value.slice none 0 0, Value.slice none 0 0] 38))
  have HGR := Aside0.mk (Nat.le_refl w.heap.size)
  generalize w.alloc (Obj.cells #[Value.slice none 0 0, Value.slice none 0 0] 38) = w1 at n0_ n1_ n2_ ⊢
  generalize hgr_ : w.heap.size = gr at n0_ ⊢
  have HGR : Aside0 (w.heap.size ≤ gr) := ⟨Nat.le_of_eq hgr_⟩
  clear hgr_ HR0
  have BR := n0_
  have HB := n1_
  have HR0 := n2_
  clear n0_ n1_ n2_
  obtain ⟨hrz0, hrf0, hrz1, hrf1⟩ := bk2 BR.out
  go_upto_region 2 with (first | (go_at_call 44; (with_reducible refine (spec_l16Tree.calls k _ _ l0 tk tn ts false _ (lC HR0.out) HC0.out A1.out).mono ?_); rintro e w5 ⟨v5, rfl, ho, hb⟩; have n0_ := Aside0.mk (below_step HB.out hb); have n1_ := Aside0.mk (Kd.R_lower ho (below_size HB.out)); have n2_ := Aside0.mk (blk_below BR.out hb); clear HB BR hrz0 hrf0 hrz1 hrf1; have HB := n0_; have HO := n1_; have BR := n2_; clear n0_ n1_ n2_ hb ho; obtain ⟨Av, cv, ev⟩ := Kd.R_slice HO.out; subst ev; obtain ⟨hrz0, hrf0, hrz1, hrf1⟩ := bk2 BR.out) | ((with_reducible refine gate_dst (N := 4) rfl ?_); refine bxe 4 #[.int .i64 0, .int .i64 0, .slice none 0 0] 72 ?_; intro gx hg w7 hbox hb; have n0_ := Aside0.mk (below_step HB.out hb); have n1_ := Aside0.mk hbox; have n2_ : Aside0 (w.heap.size ≤ gx) := ⟨by rw [hg]; exact below_size HB.out⟩; have n4_ : Aside0 (Kd.R k72 72 w7 w.heap.size (fun k => True ∧ k ≠ gx) (.slice Av ts.length cv) ts) := ⟨Kd.R_mono (Kd.R_below (Kd.R_bound HO.out) hb) (fun k hk => ⟨trivial, by have := hk.2.2.1; omega⟩)⟩; have n5_ := Aside0.mk (blk_below BR.out hb); have HNE := Aside0.mk (show gr ≠ gx from Nat.ne_of_lt (by rw [hg]; exact blk_lt BR.out)); clear HB BR hrz0 hrf0 hrz1 hrf1; have HB := n0_; have BK := n1_; have GE := n2_; have HOE := n4_; have BR := n5_; clear n0_ n1_ n2_ n4_ n5_ hg hbox hb; obtain ⟨hcz0, hfz0, hcz1, hfz1, hcz2, hfz2⟩ := bk3 BK.out; obtain ⟨hrz0, hrf0, hrz1, hrf1⟩ := bk2 BR.out))
  have n2_ : Aside0 (Below w.heap.size w (((w7.setCell ⟨gx, 0, none⟩ (.int .i64 tk)).setCell ⟨gx, 1, none⟩ (.int .i64 tn)).setCell ⟨gx, 2, none⟩ (.slice Av ts.length cv))) := ⟨below_set (below_set (below_set HB.out GE.out) GE.out) GE.out⟩
  have n3_ : Aside0 ((((w7.setCell ⟨gx, 0, none⟩ (.int .i64 tk)).setCell ⟨gx, 1, none⟩ (.int .i64 tn)).setCell ⟨gx, 2, none⟩ (.slice Av ts.length cv)).heap[gr]? = some (.cells #[.slice none 0 0, .slice none 0 0] 38 (0, 0))) := ⟨blk_far (blk_far (blk_far BR.out (p := ⟨gx, 0, none⟩) HNE.out (.int .i64 tk)) (p := ⟨gx, 1, none⟩) HNE.out (.int .i64 tn)) (p := ⟨gx, 2, none⟩) HNE.out (.slice Av ts.length cv)⟩
  clear BK HO HOE HB BR hcz0 hfz0 hcz1 hfz1 hcz2 hfz2 hrz0 hrf0 hrz1 hrf1
  generalize ((w7.setCell ⟨gx, 0, none⟩ (.int .i64 tk)).setCell ⟨gx, 1, none⟩ (.int .i64 tn)).setCell ⟨gx, 2, none⟩ (.slice Av ts.length cv) = w8 at n2_ n3_ ⊢
  have HB := n2_
  have BR := n3_
  clear n2_ n3_
  obtain ⟨hrz0, hrf0, hrz1, hrf1⟩ := bk2 BR.out
  go_wp2
  refine bodyPost_ret (Ls.res rfl _ _ _ gr #[.slice none 0 0, .slice none 0 0] rfl (run_loadVar_row _ gr 38 38 #[.slice none 0 0, .slice none 0 0] (0, 0) _ (blk_put (cs := #[.slice none 0 0, .slice none 0 0]) (blk_put (cs := #[.slice none 0 0, .slice none 0 0]) BR.out 0 _ rfl) 1 _ rfl) hu38 rfl Ls.info38)) rfl ?_
  exact ⟨_, _, rfl, Kd.R_nil _ _ _ _ _, Kd.R_nil _ _ _ _ _, below_set (below_set HB.out HGR.out) HGR.out⟩
 | true =>
  rw [if_pos rfl] at h
  replace h := lO h
  obtain ⟨q, A2, h⟩ := h
  replace h := lO h
  obtain ⟨b, A3, h⟩ := h
  go_enter Try.func35, Try.ntmps35
  go_upto_region 1 with (fail)
  have n0_ : Aside0 ((w.alloc (Obj.cells #[Value.slice none 0 0, Value.slice none 0 0] 38)).heap[w.heap.size]? = some (Obj.cells #[Value.slice none 0 0, Value.slice none 0 0] 38)) := ⟨blk_new w _⟩
  have n1_ := Aside0.mk (below_alloc (Below.refl w.heap.size w) (Obj.cells #[Value.slice none 0 0, Value.slice none 0 0] 38))
  have n2_ := Aside0.mk (Kd.C_alloc HR0.out (Obj.cells #[Value.slice none 0 0, Value.slice none 0 0] 38))
  have HGR := Aside0.mk (Nat.le_refl w.heap.size)
  generalize w.alloc (Obj.cells #[Value.slice none 0 0, Value.slice none 0 0] 38) = w1 at n0_ n1_ n2_ ⊢
  generalize hgr_ : w.heap.size = gr at n0_ ⊢
  have HGR : Aside0 (w.heap.size ≤ gr) := ⟨Nat.le_of_eq hgr_⟩
  clear hgr_ HR0
  have BR := n0_
  have HB := n1_
  have HR0 := n2_
  clear n0_ n1_ n2_
  obtain ⟨hrz0, hrf0, hrz1, hrf1⟩ := bk2 BR.out
  go_upto_region 4 with (first | (go_at_call 44; (with_reducible refine (spec_l16Tree.calls k _ _ l0 tk tn ts true _ (lC HR0.out) HC0.out A1.out).mono ?_); rintro e w5 ⟨v5, rfl, ho, hb⟩; have n0_ := Aside0.mk (below_step HB.out hb); have n1_ := Aside0.mk (Kd.R_lower ho (below_size HB.out)); have n2_ := Aside0.mk (blk_below BR.out hb); clear HB BR hrz0 hrf0 hrz1 hrf1; have HB := n0_; have HO := n1_; have BR := n2_; clear n0_ n1_ n2_ hb ho; obtain ⟨Av, cv, ev⟩ := Kd.R_slice HO.out; subst ev; obtain ⟨hrz0, hrf0, hrz1, hrf1⟩ := bk2 BR.out) | ((with_reducible refine gate_dst (N := 4) rfl ?_); refine bxe 4 #[.int .i64 0, .int .i64 0, .slice none 0 0] 72 ?_; intro gx hg w7 hbox hb; have n0_ := Aside0.mk (below_step HB.out hb); have n1_ := Aside0.mk hbox; have n2_ : Aside0 (w.heap.size ≤ gx) := ⟨by rw [hg]; exact below_size HB.out⟩; have n4_ : Aside0 (Kd.R k72 72 w7 w.heap.size (fun k => True ∧ k ≠ gx) (.slice Av ts.length cv) ts) := ⟨Kd.R_mono (Kd.R_below (Kd.R_bound HO.out) hb) (fun k hk => ⟨trivial, by have := hk.2.2.1; omega⟩)⟩; have n5_ := Aside0.mk (blk_below BR.out hb); have HNE := Aside0.mk (show gr ≠ gx from Nat.ne_of_lt (by rw [hg]; exact blk_lt BR.out)); clear HB BR hrz0 hrf0 hrz1 hrf1; have HB := n0_; have BK := n1_; have GE := n2_; have HOE := n4_; have BR := n5_; clear n0_ n1_ n2_ n4_ n5_ hg hbox hb; obtain ⟨hcz0, hfz0, hcz1, hfz1, hcz2, hfz2⟩ := bk3 BK.out; obtain ⟨hrz0, hrf0, hrz1, hrf1⟩ := bk2 BR.out))
  have n0_ : Aside0 ((((w7.setCell ⟨gx, 0, none⟩ (.int .i64 tk)).setCell ⟨gx, 1, none⟩ (.int .i64 tn)).setCell ⟨gx, 2, none⟩ (.slice Av ts.length cv)).heap[gx]? = some (.cells #[.int .i64 tk, .int .i64 tn, .slice Av ts.length cv] 72 (0, 0))) := ⟨blk_put (cs := #[.int .i64 tk, .int .i64 tn, .slice none 0 0]) (blk_put (cs := #[.int .i64 tk, .int .i64 0, .slice none 0 0]) (blk_put (cs := #[.int .i64 0, .int .i64 0, .slice none 0 0]) BK.out 0 _ rfl) 1 _ rfl) 2 _ rfl⟩
  have n1_ : Aside0 (Kd.R k72 72 (((w7.setCell ⟨gx, 0, none⟩ (.int .i64 tk)).setCell ⟨gx, 1, none⟩ (.int .i64 tn)).setCell ⟨gx, 2, none⟩ (.slice Av ts.length cv)) w.heap.size (fun k => True ∧ k ≠ gx) (.slice Av ts.length cv) ts) := ⟨Kd.R_far (p := ⟨gx, 2, none⟩) (Kd.R_far (p := ⟨gx, 1, none⟩) (Kd.R_far (p := ⟨gx, 0, none⟩) (HOE.out) (fun _ hk => hk.2) _) (fun _ hk => hk.2) _) (fun _ hk => hk.2) _⟩
  have n2_ : Aside0 (Below w.heap.size w (((w7.setCell ⟨gx, 0, none⟩ (.int .i64 tk)).setCell ⟨gx, 1, none⟩ (.int .i64 tn)).setCell ⟨gx, 2, none⟩ (.slice Av ts.length cv))) := ⟨below_set (below_set (below_set HB.out GE.out) GE.out) GE.out⟩
  have n3_ : Aside0 ((((w7.setCell ⟨gx, 0, none⟩ (.int .i64 tk)).setCell ⟨gx, 1, none⟩ (.int .i64 tn)).setCell ⟨gx, 2, none⟩ (.slice Av ts.length cv)).heap[gr]? = some (.cells #[.slice none 0 0, .slice none 0 0] 38 (0, 0))) := ⟨blk_far (blk_far (blk_far BR.out (p := ⟨gx, 0, none⟩) HNE.out (.int .i64 tk)) (p := ⟨gx, 1, none⟩) HNE.out (.int .i64 tn)) (p := ⟨gx, 2, none⟩) HNE.out (.slice Av ts.length cv)⟩
  clear BK HO HOE HB BR hcz0 hfz0 hcz1 hfz1 hcz2 hfz2 hrz0 hrf0 hrz1 hrf1
  generalize ((w7.setCell ⟨gx, 0, none⟩ (.int .i64 tk)).setCell ⟨gx, 1, none⟩ (.int .i64 tn)).setCell ⟨gx, 2, none⟩ (.slice Av ts.length cv) = w8 at n0_ n1_ n2_ n3_ ⊢
  have BK := n0_
  have HO := n1_
  have HB := n2_
  have BR := n3_
  clear n0_ n1_ n2_ n3_
  obtain ⟨hcz0, hfz0, hcz1, hfz1, hcz2, hfz2⟩ := bk3 BK.out
  go_upto_region 5 with (first | ((with_reducible refine gate_dst (N := 17) rfl ?_); refine bxe 17 #[.slice none 0 0, .slice none 0 0, .int .i64 0] 105 ?_; intro gb hg w9 hbox hb; subst hg; have n0_ := Aside0.mk hbox; have n1_ := Aside0.mk hb; have n2_ := Aside0.mk (blk_below BK.out hb); clear hbox hb BK hcz0 hfz0 hcz1 hfz1 hcz2 hfz2; have BX := n0_; have HX := n1_; have BK := n2_; clear n0_ n1_ n2_; obtain ⟨hcz0, hfz0, hcz1, hfz1, hcz2, hfz2⟩ := bk3 BK.out))
  have HWB := Aside0.mk (below_size HB.out)
  have hOk := spec_l16L_lay.calls ⟨tk, tn, ts⟩ w8 w8.heap.size Av cv (Kd.R_reads' HO.out).2.2
  have HOK := Aside0.mk (hOk w9 none 0 none 0 ⟨[], [], 0⟩ q (Nat.le_refl _) HX.out BX.out (Kd.R_nil _ _ _ _ _) (Kd.R_nil _ _ _ _ _) A2.out)
  clear hOk
  go_upto_region 6 with (first | (go_at_call 67; (with_reducible refine HOK.out.mono ?_); rintro e w10 ⟨rfl, ⟨A1_, c1_, A2_, c2_, hbx_, ho_, hq_, hb_⟩, hk_⟩; have n0_ := Aside0.mk hbx_; have n1_ := Aside0.mk ho_; have n2_ := Aside0.mk hq_; have n3_ : Aside0 (Below w.heap.size w w10) := ⟨HB.out.trans ((HX.out.trans hb_).mono HWB.out)⟩; have n4_ := Aside0.mk (((HX.out.trans hb_).block gr (blk_lt BR.out)).trans BR.out); have n5_ : Aside0 (w8.heap.size ≤ w10.heap.size) := ⟨(HX.out.trans hb_).size⟩; clear BX HX HB BR BK HO hbx_ ho_ hq_ hb_ hk_ hcz0 hfz0 hcz1 hfz1 hcz2 hfz2; have BX := n0_; have HO := n1_; have HQ := n2_; have HB := n3_; have BR := n4_; have HS := n5_; clear n0_ n1_ n2_ n3_ n4_ n5_; obtain ⟨hbz0, hbf0, hbz1, hbf1, hbz2, hbf2⟩ := bk3 BX.out))
  refine start_ (n := 11) (S := fun w' => w'.cell? ⟨w8.heap.size, 0, none⟩ = some (.slice A1_ q.s.length c1_) ∧ w'.cell? ⟨w8.heap.size, 1, none⟩ = some (.slice A2_ q.g.length c2_)) (ds := [10]) (bs 11 0) kR rfl kR ⟨hbz0, hbz1⟩ (fun hHeld => ?_)
  have n0_ := Aside0.mk (blk_drew BX.out)
  have n1_ := Aside0.mk (Kd.R_drew HO.out)
  have n2_ := Aside0.mk (Kd.R_drew HQ.out)
  have n3_ := Aside0.mk HB.out.drew
  have n4_ := Aside0.mk (blk_drew BR.out)
  have n5_ : Aside0 (w8.heap.size ≤ (World.drew _).heap.size) := HS
  clear BX HO HQ HB BR HS hbz0 hbf0 hbz1 hbf1 hbz2 hbf2
  generalize hwd_ : World.drew _ = w3 at n0_ n1_ n2_ n3_ n4_ n5_ hHeld ⊢
  clear hwd_
  have BX := n0_
  have HO := n1_
  have HQ := n2_
  have HB := n3_
  have BR := n4_
  have HS := n5_
  clear n0_ n1_ n2_ n3_ n4_ n5_
  refine pur_ 0 21 (bs 11 1) kR ?_
  refine pur_ 1 22 (bs 11 3) kR ?_
  refine pur_ 2 23 (bs 11 7) kR ?_
  refine pur_ 4 25 (bs 11 23) kR ?_
  refine pur_ 5 26 (bs 11 55) kR ?_
  refine pur_ 6 27 (bs 11 119) kR ?_
  refine tak_ 3 24 (bs 11 127) kR hHeld ?_
  refine tak_ 7 28 (bs 11 255) kR hHeld ?_
  refine pur_ 8 29 (bs 11 511) kR ?_
  refine one_ (i := 9) (N := some 7) (bs 11 1023) rfl rfl kR (by decide) (fun K hK => ?_)
  refine Ls.alloc_step (cs := #[.slice none 0 0, .slice none 0 0]) (t := 38) (by rfl) rfl (by first | rfl | kernel_rfl | (go_simp; done)) ?_
  intro gy wy hgy_ hby_ hbel_
  have n0_ := Aside0.mk (blk_below BX.out hbel_)
  have n1_ := Aside0.mk (Kd.R_below HO.out hbel_)
  have n2_ := Aside0.mk (Kd.R_below HQ.out hbel_)
  have n3_ := Aside0.mk (below_step HB.out hbel_)
  have n4_ := Aside0.mk (blk_below BR.out hbel_)
  have n5_ := Aside0.mk (Nat.le_trans HS.out hbel_.size)
  have n6_ := Aside0.mk hby_
  have GY : Aside0 (w.heap.size ≤ gy) := ⟨by rw [hgy_]; exact below_size HB.out⟩
  have GYR : Aside0 (gr ≠ gy) := ⟨Nat.ne_of_lt (by rw [hgy_]; exact blk_lt BR.out)⟩
  clear BX HO HQ HB BR HS hby_ hbel_ hgy_
  have BX := n0_
  have HO := n1_
  have HQ := n2_
  have HB := n3_
  have BR := n4_
  have HS := n5_
  have BY := n6_
  clear n0_ n1_ n2_ n3_ n4_ n5_ n6_
  obtain ⟨hyz0, hyf0, hyz1, hyf1⟩ := bk2 BY.out
  refine hK.out _ _ ⟨bZ BX.out 0, bZ BX.out 1⟩ (fun hHeld => ?_)
  clear hK K
  refine norm_ (a' := ?_) ?_ ?_
  rotate_left
  ·show Act.put _ (some 7) _ = _
   simp only [Act.put, List.setIfInBounds_toArray, List.set_cons_zero, List.set_cons_succ, i64_w, i32_w]
   rfl
  refine last_ (i := 10) (N := none) (bs 11 2047) rfl rfl kR (by decide) (fun K hK => ?_)
  refine skip_ (w1 := (World.setCell wy ⟨gy, 0, none⟩ (.slice A1_ q.s.length c1_)).setCell ⟨gy, 1, none⟩ (.slice A2_ q.g.length c2_)) (by rfl) rfl (by first | (go_simp; done) | (go_simp; rfl)) ?_
  refine hK.out _ _ ?_
  clear hK K
  refine done_ kR ?_
  clear hHeld hyz0 hyf0 hyz1 hyf1
  have b0_ := Aside0.mk (blk_put (cs := #[.slice none 0 0, .slice none 0 0]) BY.out 0 (.slice A1_ q.s.length c1_) rfl)
  have n0_ : Aside0 (((World.setCell wy ⟨gy, 0, none⟩ (.slice A1_ q.s.length c1_)).setCell ⟨gy, 1, none⟩ (.slice A2_ q.g.length c2_)).heap[gy]? = some (.cells #[(.slice A1_ q.s.length c1_), (.slice A2_ q.g.length c2_)] 38 (0, 0))) := ⟨blk_put (cs := #[(.slice A1_ q.s.length c1_), .slice none 0 0]) b0_.out 1 _ rfl⟩
  have n1_ := Aside0.mk (Kd.R_set (Kd.R_set HO.out BY.out (by decide) 0 (.slice A1_ q.s.length c1_)) b0_.out (by decide) 1 (.slice A2_ q.g.length c2_))
  have n2_ := Aside0.mk (Kd.R_set (Kd.R_set HQ.out BY.out (by decide) 0 (.slice A1_ q.s.length c1_)) b0_.out (by decide) 1 (.slice A2_ q.g.length c2_))
  have n3_ : Aside0 (Below w.heap.size w ((World.setCell wy ⟨gy, 0, none⟩ (.slice A1_ q.s.length c1_)).setCell ⟨gy, 1, none⟩ (.slice A2_ q.g.length c2_))) := ⟨below_set (below_set HB.out GY.out) GY.out⟩
  have n4_ := Aside0.mk (blk_far (blk_far BR.out (p := ⟨gy, 0, none⟩) GYR.out (.slice A1_ q.s.length c1_)) (p := ⟨gy, 1, none⟩) GYR.out (.slice A2_ q.g.length c2_))
  clear BX HO HQ HB BR HS BY b0_
  generalize (World.setCell wy ⟨gy, 0, none⟩ (.slice A1_ q.s.length c1_)).setCell ⟨gy, 1, none⟩ (.slice A2_ q.g.length c2_) = w11 at n0_ n1_ n2_ n3_ n4_ ⊢
  have BY := n0_
  have HO := n1_
  have HQ := n2_
  have HB := n3_
  have BR := n4_
  clear n0_ n1_ n2_ n3_ n4_
  have HS8 := Aside0.mk ((Kd.R_reads' HO.out).2)
  have HG8 := Aside0.mk ((Kd.R_reads' HQ.out).2)
  obtain ⟨hrz0, hrf0, hrz1, hrf1⟩ := bk2 BR.out
  obtain ⟨hyz0, hyf0, hyz1, hyf1⟩ := bk2 BY.out
  cases b with
  | false =>
   rw [if_neg (by simp)] at h
   simp only [Option.some.injEq, Prod.mk.injEq] at h
   obtain ⟨rfl, rfl, rfl⟩ := h
   go_wp2_with (first | (go_at_call 18; (with_reducible refine (spec_GoodLined.calls k _ _ q.s _ _ q.g _ _ HS8.out.2 HS8.out.1 HG8.out.2 HG8.out.1 A3.out).mono ?_); rintro e w12 ⟨rfl, hb⟩; have n0_ := Aside0.mk (below_step HB.out hb); have n1_ := Aside0.mk (blk_below BR.out hb); have n2_ := Aside0.mk (blk_below BY.out hb); have n3_ := Aside0.mk (Kd.R_below HO.out hb); have n4_ := Aside0.mk (Kd.R_below HQ.out hb); clear HB BR BY HO HQ HS8 HG8 hrz0 hrf0 hrz1 hrf1 hyz0 hyf0 hyz1 hyf1 hb; have HB := n0_; have BR := n1_; have BY := n2_; have HO := n3_; have HQ := n4_; clear n0_ n1_ n2_ n3_ n4_; obtain ⟨hrz0, hrf0, hrz1, hrf1⟩ := bk2 BR.out; obtain ⟨hyz0, hyf0, hyz1, hyf1⟩ := bk2 BY.out))
   refine bodyPost_ret (Ls.res rfl _ _ _ gr #[.slice none 0 0, .slice none 0 0] rfl (run_loadVar_row _ gr 38 38 #[.slice none 0 0, .slice none 0 0] (0, 0) _ (blk_put (cs := #[.slice none 0 0, .slice none 0 0]) (blk_put (cs := #[.slice none 0 0, .slice none 0 0]) BR.out 0 _ rfl) 1 _ rfl) hu38 rfl Ls.info38)) rfl ?_
   exact ⟨_, _, rfl, Kd.R_nil _ _ _ _ _, Kd.R_nil _ _ _ _ _, below_set (below_set HB.out HGR.out) HGR.out⟩
  | true =>
   rw [if_pos rfl] at h
   simp only [Option.some.injEq, Prod.mk.injEq] at h
   obtain ⟨rfl, rfl, rfl⟩ := h
   go_wp2_with (first | (go_at_call 18; (with_reducible refine (spec_GoodLined.calls k _ _ q.s _ _ q.g _ _ HS8.out.2 HS8.out.1 HG8.out.2 HG8.out.1 A3.out).mono ?_); rintro e w12 ⟨rfl, hb⟩; have n0_ := Aside0.mk (below_step HB.out hb); have n1_ := Aside0.mk (blk_below BR.out hb); have n2_ := Aside0.mk (blk_below BY.out hb); have n3_ := Aside0.mk (Kd.R_below HO.out hb); have n4_ := Aside0.mk (Kd.R_below HQ.out hb); clear HB BR BY HO HQ HS8 HG8 hrz0 hrf0 hrz1 hrf1 hyz0 hyf0 hyz1 hyf1 hb; have HB := n0_; have BR := n1_; have BY := n2_; have HO := n3_; have HQ := n4_; clear n0_ n1_ n2_ n3_ n4_; obtain ⟨hrz0, hrf0, hrz1, hrf1⟩ := bk2 BR.out; obtain ⟨hyz0, hyf0, hyz1, hyf1⟩ := bk2 BY.out))
   have n0_ := Aside0.mk (Kd.R_set HO.out BR.out (by decide) 0 (.slice A1_ q.s.length c1_))
   have n1_ := Aside0.mk (Kd.R_set HQ.out BR.out (by decide) 0 (.slice A1_ q.s.length c1_))
   have BR2 := Aside0.mk (blk_put (cs := #[.slice none 0 0, .slice none 0 0]) BR.out 0 (.slice A1_ q.s.length c1_) rfl)
   have n2_ := Aside0.mk (Kd.R_set n0_.out BR2.out (by decide) 1 (.slice A2_ q.g.length c2_))
   have n3_ := Aside0.mk (Kd.R_set n1_.out BR2.out (by decide) 1 (.slice A2_ q.g.length c2_))
   refine bodyPost_ret (Ls.res rfl _ _ _ gr #[.slice A1_ q.s.length c1_, .slice A2_ q.g.length c2_] rfl (run_loadVar_row _ gr 38 38 #[.slice A1_ q.s.length c1_, .slice A2_ q.g.length c2_] (0, 0) _ (blk_put (cs := #[.slice A1_ q.s.length c1_, .slice none 0 0]) BR2.out 1 _ rfl) hu38 rfl Ls.info38)) rfl ?_
   exact ⟨_, _, rfl, Kd.R_lower n2_.out HWB.out, Kd.R_lower n3_.out HWB.out, below_set (below_set HB.out HGR.out) HGR.out⟩
theorem Ll.info86 : (Try.prog.info? 86).map (fun i => (i.zero, i.size, i.bytes)) = some (some (.agg #[.int .i64 0, .int .i64 0, .int .i64 0]), 3, 24) := by kernel_rfl
theorem Ll.info63 : (Try.prog.info? 63).map (fun i => (i.zero, i.size, i.bytes)) = some (some (.agg #[.int .i64 0, .int .i64 0, .int .i64 0, .int .i64 0]), 4, 32) := by kernel_rfl
structure Ll.Q where
  s : List S86
  g : List S63
  n : Int
def Ll.Post (T B gb : Nat) (w : World) (S : List S86) (G : List S63) (n : Int) (w' : World) : Prop :=
  ∃ (A1 : Option Addr) (c1 : Nat) (A2 : Option Addr) (c2 : Nat), w'.heap[gb]? = some (.cells #[.slice A1 S.length c1, .slice A2 G.length c2, .int .i64 n] T (0, 0)) ∧ k86.R 86 w' B (fun _ => True) (.slice A1 S.length c1) S ∧ k63.R 63 w' B (fun _ => True) (.slice A2 G.length c2) G ∧ Below B w w'
theorem Ll.drewB {B : Nat} {w w1 : World} (h : Below B w w1) (n : Nat) : Below B w (w1.drewN n) := pw_below_drewN h n
def Ll.PostI (T B gb : Nat) (w : World) (S : List S86) (G : List S63) (n : Int) (r : Nat) (e : Ending) (w' : World) : Prop := e = .returned (.int .i64 (r : Int)) ∧ Ll.Post T B gb w S G n w'
set_option maxHeartbeats 8000000 in
set_option maxRecDepth 100000 in
theorem impl_liner_put.calls (w : World) (B gb : Nat) {A1 A2 : Option Addr} {c1 c2 : Nat} (S : List S86) (G : List S63) (n : Int) (x : S86) (hgb : B ≤ gb) (hBw : B ≤ w.heap.size) (hbx : w.heap[gb]? = some (.cells #[.slice A1 S.length c1, .slice A2 G.length c2, .int .i64 n] 109 (0, 0))) (hS : k86.R 86 w B (fun _ => True) (.slice A1 S.length c1) S) (hG : k63.R 63 w B (fun _ => True) (.slice A2 G.length c2) G) (hl : S.length < 1000000000000) :
  Calls Try.prog 87 #[.pointer (some ⟨gb, 0, none⟩), .agg #[.int .i64 x.f0, .int .i64 x.f1, .int .i64 x.f2]] w (Ll.PostI 109 B gb w (S ++ [x]) G n S.length) := by
 have hu35 := Try.underlying35
 have hu36 := Try.underlying36
 have hu38 := Try.underlying38
 have hu86 := Try.underlying86
 have hu63 := Try.underlying63
 have hu109 := Try.underlying109
 have BX := Aside0.mk hbx
 have HO := Aside0.mk hS
 have HQ := Aside0.mk hG
 have HL := Aside0.mk hl
 have HB := Aside0.mk (Below.refl B w)
 have HS := Aside0.mk hBw
 have HGS := Aside0.mk hgb
 clear hbx hS hG hl hBw hgb
 obtain ⟨hbz0, hbf0, hbz1, hbf1, hbz2, hbf2⟩ := bk3 BX.out
 go_enter Try.func87, Try.ntmps87
 go_upto_region 1 with (first | ((with_reducible refine gate_dst (N := 3) rfl ?_); refine bxe 3 #[.int .i64 x.f0, .int .i64 x.f1, .int .i64 x.f2] 86 ?_; intro gx hg w2 hbox hb; have HNX := Aside0.mk (show some gx ≠ (Value.slice A1 S.length c1).ownBlock from by rw [hg]; exact Kd.R_ne_new HO.out 0); have n0_ := Aside0.mk (blk_below BX.out hb); have n1_ := Aside0.mk (Kd.R_below HO.out hb); have n2_ := Aside0.mk (Kd.R_below HQ.out hb); have n3_ : Aside0 (Below B w w2) := ⟨HB.out.trans (hb.mono HS.out)⟩; have n4_ : Aside0 (B ≤ w2.heap.size) := ⟨Nat.le_trans HS.out hb.size⟩; have BXX := Aside0.mk hbox; have HNB : gb ≠ gx := Nat.ne_of_lt (by rw [hg]; exact blk_lt BX.out); clear BX HO HQ HB HS hbz0 hbf0 hbz1 hbf1 hbz2 hbf2 hbox hb hg; have BX := n0_; have HO := n1_; have HQ := n2_; have HB := n3_; have HS := n4_; clear n0_ n1_ n2_ n3_ n4_; obtain ⟨hxz0, hxf0, hxz1, hxf1, hxz2, hxf2⟩ := bk3 BXX.out; obtain ⟨hbz0, hbf0, hbz1, hbf1, hbz2, hbf2⟩ := bk3 BX.out))
 refine start_ (n := 13) (S := fun w' => w'.cell? ⟨gb, 0, none⟩ = some (.slice A1 S.length c1) ∧ w'.frozen? ⟨gb, 0, none⟩ = false ∧ w'.cell? ⟨gb, 1, none⟩ = some (.slice A2 G.length c2) ∧ w'.frozen? ⟨gb, 1, none⟩ = false ∧ w'.cell? ⟨gx, 0, none⟩ = some (.int .i64 x.f0) ∧ w'.cell? ⟨gx, 1, none⟩ = some (.int .i64 x.f1) ∧ w'.cell? ⟨gx, 2, none⟩ = some (.int .i64 x.f2)) (ds := [12]) (bs 13 0) kR rfl kR ⟨hbz0, hbf0, hbz1, hbf1, hxz0, hxz1, hxz2⟩ (fun hHeld => ?_)
 have n0_ := Aside0.mk (blk_drew BX.out)
 have n1_ := Aside0.mk (Kd.R_drew HO.out)
 have n2_ := Aside0.mk (Kd.R_drew HQ.out)
 have n3_ := Aside0.mk HB.out.drew
 have n4_ : Aside0 (B ≤ (World.drew _).heap.size) := HS
 have n5_ := Aside0.mk (blk_drew BXX.out)
 clear BX HO HQ HB HS hbz0 hbf0 hbz1 hbf1 hbz2 hbf2 BXX hxz0 hxf0 hxz1 hxf1 hxz2 hxf2
 generalize hwd_ : World.drew _ = w3 at n0_ n1_ n2_ n3_ n4_ n5_ hHeld ⊢
 clear hwd_
 have BX := n0_
 have HO := n1_
 have HQ := n2_
 have HB := n3_
 have HS := n4_
 clear n0_ n1_ n2_ n3_ n4_
 have BXX := n5_
 clear n5_
 refine pur_ 0 5 (bs 13 1) kR ?_
 refine pur_ 1 6 (bs 13 3) kR ?_
 refine pur_ 2 7 (bs 13 7) kR ?_
 refine pur_ 3 8 (bs 13 15) kR ?_
 refine pur_ 4 9 (bs 13 31) kR ?_
 refine tak_ 5 10 (bs 13 63) kR hHeld ?_
 refine tak_ 6 11 (bs 13 127) kR hHeld ?_
 refine one_ (i := 7) (N := some 12) (bs 13 255) rfl rfl kR (by decide) (fun K hK => ?_)
 refine value_ (w1 := ?_) (v := ?_) (by rfl) rfl ?_ ?_
 rotate_left 2
 ·go_simp
  constructor
  ·rfl
  ·rfl
 refine hK.out _ _ ⟨bZ (bA (lK BX.out) _) 0, blk_frozen (bA (lK BX.out) _) 0, bZ (bA (lK BX.out) _) 1, blk_frozen (bA (lK BX.out) _) 1, bZ (bA (lK BXX.out) _) 0, bZ (bA (lK BXX.out) _) 1, bZ (bA (lK BXX.out) _) 2⟩ (fun hHeld => ?_)
 clear hK K
 refine norm_ (a' := ?_) ?_ ?_
 rotate_left
 ·show Act.put _ (some 12) _ = _
  simp only [Act.put, List.setIfInBounds_toArray, List.set_cons_zero, List.set_cons_succ, i64_w, i32_w]
  rfl
 refine one_ (i := 8) (N := some 13) (bs 13 511) rfl rfl kR (by decide) (fun K hK => ?_)
 refine Kd.R_append_step k86 (w0 := w) B (by rfl) (.tmp 10) (.tmp 12) 35 86 (.agg #[.int .i64 0, .int .i64 0, .int .i64 0]) 24 rfl Try.underlying35 Ll.info86 rfl (by decide) (by omega) (.slice A1 S.length c1) S x [.int .i64 x.f0, .int .i64 x.f1, .int .i64 x.f2] (fun _ => True) (fun _ => False) rfl rfl ?aP (fun _ hk => hk.elim) (fun _ _ => trivial) ?aO ?aB ?aS ?aL ?_
 (case aP => exact k86_mkM _ _ _ x)
 (case aO => exact lR HO.out)
 (case aB => exact HB.out)
 (case aS => exact HS.out)
 (case aL => have := HL.out; omega)
 intro v6 w6 ho hb hg hat
 have n0_ := Aside0.mk (blk_grown (lK BX.out) hg (Kd.R_ne HO.out BX.out (by decide)))
 have n1_ := Aside0.mk (Kd.R_over (lR HQ.out) HO.out (by decide) hg)
 have n2_ := Aside0.mk (blk_grown (lK BXX.out) hg HNX.out)
 clear BXX
 have BXX := n2_
 clear n2_
 clear BX HO HQ HB
 have BX := n0_
 have HQ := n1_
 have HO := Aside0.mk ho
 have HB := Aside0.mk hb
 clear n0_ n1_ ho hb hg hat
 obtain ⟨Ap, cp, ep⟩ := Kd.R_slice HO.out
 subst ep
 refine hK.out _ _ ⟨bZ (BX.out) 0, blk_frozen (BX.out) 0, bZ (BX.out) 1, blk_frozen (BX.out) 1, bZ BXX.out 0, bZ BXX.out 1, bZ BXX.out 2⟩ (fun hHeld => ?_)
 clear hK K
 refine norm_ (a' := ?_) ?_ ?_
 rotate_left
 ·show Act.put _ (some 13) _ = _
  simp only [Act.put, List.setIfInBounds_toArray, List.set_cons_zero, List.set_cons_succ, i64_w, i32_w]
  rfl
 refine pur_ 9 14 (bs 13 1023) kR ?_
 refine pur_ 10 15 (bs 13 2047) kR ?_
 refine pur_ 11 16 (bs 13 4095) kR ?_
 refine last_ (i := 12) (N := none) (bs 13 8191) rfl rfl kR (by decide) (fun K hK => ?_)
 have hs0_ := hHeld.1
 have hs1_ := hHeld.2.1
 have hs2_ := hHeld.2.2.1
 have hs3_ := hHeld.2.2.2.1
 refine skip_ (w1 := World.setCell _ ⟨gb, 0, none⟩ (.slice Ap (S ++ [x]).length cp)) (by rfl) rfl (by first | (go_simp; done) | (go_simp; rfl)) ?_
 refine hK.out _ _ ?_
 clear hK K
 refine done_ kR ?_
 have n0_ : Aside0 ((w6.setCell ⟨gb, 0, none⟩ (.slice Ap (S ++ [x]).length cp)).heap[gb]? = _) := ⟨blk_put (cs := #[.slice A1 S.length c1, .slice A2 G.length c2, .int .i64 n]) BX.out 0 _ rfl⟩
 have n1_ := Aside0.mk (Kd.R_set HO.out BX.out (by decide) 0 (.slice Ap (S ++ [x]).length cp))
 have n2_ := Aside0.mk (Kd.R_set HQ.out BX.out (by decide) 0 (.slice Ap (S ++ [x]).length cp))
 have n3_ := Aside0.mk (HB.out.setCell (p := ⟨gb, 0, none⟩) HGS.out (.slice Ap (S ++ [x]).length cp))
 clear BX HO HQ HB hHeld
 generalize w6.setCell ⟨gb, 0, none⟩ (.slice Ap (S ++ [x]).length cp) = w7 at n0_ n1_ n2_ n3_ ⊢
 have BX := n0_
 have HO := n1_
 have HQ := n2_
 have HB := n3_
 clear n0_ n1_ n2_ n3_
 obtain ⟨hbz0, hbf0, hbz1, hbf1, hbz2, hbf2⟩ := bk3 BX.out
 have e_ : Go.RowKit.wrap64 ((S.length : Nat) : Int) = ((S.length : Nat) : Int) := by unfold Go.RowKit.wrap64; have := HL.out; omega
 go_wp2
 repeat (go_quiet (fail); try go_wp2)
 go_ret
 exact ⟨by show Ending.returned (.int .i64 (Go.RowKit.wrap64 ((S.length : Nat) : Int))) = _; rw [e_], _, _, _, _, BX.out, HO.out, HQ.out, HB.out⟩
set_option maxHeartbeats 8000000 in
set_option maxRecDepth 100000 in
theorem impl_liner_guard.calls (w : World) (B gb : Nat) {A1 A2 : Option Addr} {c1 c2 : Nat} (S : List S86) (G : List S63) (n : Int) (f kd : Int) (hgb : B ≤ gb) (hBw : B ≤ w.heap.size) (hbx : w.heap[gb]? = some (.cells #[.slice A1 S.length c1, .slice A2 G.length c2, .int .i64 n] 109 (0, 0))) (hS : k86.R 86 w B (fun _ => True) (.slice A1 S.length c1) S) (hG : k63.R 63 w B (fun _ => True) (.slice A2 G.length c2) G) (hl : G.length < 1000000000000) :
  Calls Try.prog 88 #[.pointer (some ⟨gb, 0, none⟩), .int .i64 f, .int .i64 kd] w (Ll.PostI 109 B gb w S (G ++ [⟨f, S.length, kd, 0⟩]) n G.length) := by
 have hu35 := Try.underlying35
 have hu36 := Try.underlying36
 have hu38 := Try.underlying38
 have hu86 := Try.underlying86
 have hu63 := Try.underlying63
 have hu109 := Try.underlying109
 have BX := Aside0.mk hbx
 have HO := Aside0.mk hS
 have HQ := Aside0.mk hG
 have HL := Aside0.mk hl
 have HB := Aside0.mk (Below.refl B w)
 have HS := Aside0.mk hBw
 have HGS := Aside0.mk hgb
 clear hbx hS hG hl hBw hgb
 obtain ⟨hbz0, hbf0, hbz1, hbf1, hbz2, hbf2⟩ := bk3 BX.out
 go_enter Try.func88, Try.ntmps88
 go_upto_region 1 with (fail)
 refine start_ (n := 21) (S := fun w' => w'.cell? ⟨gb, 0, none⟩ = some (.slice A1 S.length c1) ∧ w'.frozen? ⟨gb, 0, none⟩ = false ∧ w'.cell? ⟨gb, 1, none⟩ = some (.slice A2 G.length c2) ∧ w'.frozen? ⟨gb, 1, none⟩ = false) (ds := [20]) (bs 21 0) kR rfl kR ⟨hbz0, hbf0, hbz1, hbf1⟩ (fun hHeld => ?_)
 have n0_ := Aside0.mk (blk_drew BX.out)
 have n1_ := Aside0.mk (Kd.R_drew HO.out)
 have n2_ := Aside0.mk (Kd.R_drew HQ.out)
 have n3_ := Aside0.mk HB.out.drew
 have n4_ : Aside0 (B ≤ (World.drew _).heap.size) := HS
 clear BX HO HQ HB HS hbz0 hbf0 hbz1 hbf1 hbz2 hbf2
 generalize hwd_ : World.drew _ = w3 at n0_ n1_ n2_ n3_ n4_ hHeld ⊢
 clear hwd_
 have BX := n0_
 have HO := n1_
 have HQ := n2_
 have HB := n3_
 have HS := n4_
 clear n0_ n1_ n2_ n3_ n4_
 refine pur_ 0 7 (bs 21 1) kR ?_
 refine pur_ 1 8 (bs 21 3) kR ?_
 refine pur_ 2 9 (bs 21 7) kR ?_
 refine pur_ 3 10 (bs 21 15) kR ?_
 refine pur_ 4 11 (bs 21 31) kR ?_
 refine pur_ 6 13 (bs 21 95) kR ?_
 refine pur_ 7 14 (bs 21 223) kR ?_
 refine pur_ 8 15 (bs 21 479) kR ?_
 refine pur_ 9 16 (bs 21 991) kR ?_
 refine pur_ 10 17 (bs 21 2015) kR ?_
 refine pur_ 13 20 (bs 21 10207) kR ?_
 refine tak_ 5 12 (bs 21 10239) kR hHeld ?_
 refine tak_ 11 18 (bs 21 12287) kR hHeld ?_
 refine pur_ 12 19 (bs 21 16383) kR ?_
 refine pur_ 14 21 (bs 21 32767) kR ?_
 refine one_ (i := 15) (N := some 22) (bs 21 65535) rfl rfl kR (by decide) (fun K hK => ?_)
 refine value_ (w1 := ?_) (v := ?_) (by rfl) rfl ?_ ?_
 rotate_left 2
 ·go_simp
  constructor
  ·rfl
  ·rfl
 refine hK.out _ _ ⟨bZ (bA (lK BX.out) _) 0, blk_frozen (bA (lK BX.out) _) 0, bZ (bA (lK BX.out) _) 1, blk_frozen (bA (lK BX.out) _) 1⟩ (fun hHeld => ?_)
 clear hK K
 refine norm_ (a' := ?_) ?_ ?_
 rotate_left
 ·show Act.put _ (some 22) _ = _
  simp only [Act.put, List.setIfInBounds_toArray, List.set_cons_zero, List.set_cons_succ, i64_w, i32_w]
  rfl
 refine one_ (i := 16) (N := some 23) (bs 21 131071) rfl rfl kR (by decide) (fun K hK => ?_)
 refine Kd.R_append_step k63 (w0 := w) B (by rfl) (.tmp 12) (.tmp 22) 36 63 (.agg #[.int .i64 0, .int .i64 0, .int .i64 0, .int .i64 0]) 32 rfl Try.underlying36 Ll.info63 rfl (by decide) (by omega) (.slice A2 G.length c2) G (⟨f, S.length, kd, 0⟩ : S63) [.int .i64 f, .int .i64 (S.length : Nat), .int .i64 kd, .int .i64 0] (fun _ => True) (fun _ => False) rfl rfl ?aP (fun _ hk => hk.elim) (fun _ _ => trivial) ?aO ?aB ?aS ?aL ?_
 (case aP => exact k63_mkM _ _ _ (⟨f, S.length, kd, 0⟩ : S63))
 (case aO => exact lR HQ.out)
 (case aB => exact HB.out)
 (case aS => exact HS.out)
 (case aL => have := HL.out; omega)
 intro v6 w6 ho hb hg hat
 have n0_ := Aside0.mk (blk_grown (lK BX.out) hg (Kd.R_ne HQ.out BX.out (by decide)))
 have n1_ := Aside0.mk (Kd.R_over (lR HO.out) HQ.out (by decide) hg)
 clear BX HO HQ HB
 have BX := n0_
 have HO := n1_
 have HQ := Aside0.mk ho
 have HB := Aside0.mk hb
 clear n0_ n1_ ho hb hg hat
 obtain ⟨Ap, cp, ep⟩ := Kd.R_slice HQ.out
 subst ep
 refine hK.out _ _ ⟨bZ (BX.out) 0, blk_frozen (BX.out) 0, bZ (BX.out) 1, blk_frozen (BX.out) 1⟩ (fun hHeld => ?_)
 clear hK K
 refine norm_ (a' := ?_) ?_ ?_
 rotate_left
 ·show Act.put _ (some 23) _ = _
  simp only [Act.put, List.setIfInBounds_toArray, List.set_cons_zero, List.set_cons_succ, i64_w, i32_w]
  rfl
 refine pur_ 17 24 (bs 21 262143) kR ?_
 refine pur_ 18 25 (bs 21 524287) kR ?_
 refine pur_ 19 26 (bs 21 1048575) kR ?_
 refine last_ (i := 20) (N := none) (bs 21 2097151) rfl rfl kR (by decide) (fun K hK => ?_)
 have hs0_ := hHeld.1
 have hs1_ := hHeld.2.1
 have hs2_ := hHeld.2.2.1
 have hs3_ := hHeld.2.2.2
 refine skip_ (w1 := World.setCell _ ⟨gb, 1, none⟩ (.slice Ap (G ++ [(⟨f, S.length, kd, 0⟩ : S63)]).length cp)) (by rfl) rfl (by first | (go_simp; done) | (go_simp; rfl)) ?_
 refine hK.out _ _ ?_
 clear hK K
 refine done_ kR ?_
 have n0_ : Aside0 ((w6.setCell ⟨gb, 1, none⟩ (.slice Ap (G ++ [(⟨f, S.length, kd, 0⟩ : S63)]).length cp)).heap[gb]? = _) := ⟨blk_put (cs := #[.slice A1 S.length c1, .slice A2 G.length c2, .int .i64 n]) BX.out 1 _ rfl⟩
 have n1_ := Aside0.mk (Kd.R_set HO.out BX.out (by decide) 1 (.slice Ap (G ++ [(⟨f, S.length, kd, 0⟩ : S63)]).length cp))
 have n2_ := Aside0.mk (Kd.R_set HQ.out BX.out (by decide) 1 (.slice Ap (G ++ [(⟨f, S.length, kd, 0⟩ : S63)]).length cp))
 have n3_ := Aside0.mk (HB.out.setCell (p := ⟨gb, 1, none⟩) HGS.out (.slice Ap (G ++ [(⟨f, S.length, kd, 0⟩ : S63)]).length cp))
 clear BX HO HQ HB hHeld
 generalize w6.setCell ⟨gb, 1, none⟩ (.slice Ap (G ++ [(⟨f, S.length, kd, 0⟩ : S63)]).length cp) = w7 at n0_ n1_ n2_ n3_ ⊢
 have BX := n0_
 have HO := n1_
 have HQ := n2_
 have HB := n3_
 clear n0_ n1_ n2_ n3_
 obtain ⟨hbz0, hbf0, hbz1, hbf1, hbz2, hbf2⟩ := bk3 BX.out
 have e_ : Go.RowKit.wrap64 ((G.length : Nat) : Int) = ((G.length : Nat) : Int) := by unfold Go.RowKit.wrap64; have := HL.out; omega
 go_wp2
 repeat (go_quiet (fail); try go_wp2)
 go_ret
 exact ⟨by show Ending.returned (.int .i64 (Go.RowKit.wrap64 ((G.length : Nat) : Int))) = _; rw [e_], _, _, _, _, BX.out, HO.out, HQ.out, HB.out⟩
end Go.Proofs.Ytgjojppbichaiaa.Q
