-- Written by the program wip/tools/pr.py of this claim's session, over the kit's print.py.
import Derived.Test.YtgjojppbichaiaaQx0
import Derived.Test.YtgjojppbichaiaaQx1
import Derived.Test.YtgjojppbichaiaaQx7
import Derived.Test.YtgjojppbichaiaaQx8
namespace Go.Proofs.Ytgjojppbichaiaa.Q
open Go.RowKit Go.Proofs.YtgjojppbichaiaaW.PrintWords Go.Proofs.YtgjojppbichaiaaW.PrintLast Go.Proofs.YtgjojppbichaiaaW.PrintMore
attribute [local go_sem] max2_int min2_int max_two min_two max_three min_three max_four min_four   -- for this text's walks alone
set_option linter.unusedVariables false
set_option linter.unusedSimpArgs false

/-! ### spec_LineTree: function 35 -/
theorem Ls.res {fn : Func} {p u : Tmp} {ty : TypeId} (h : fn.results = #[.cell p ty, .tmp u]) (tmps : Array Value) (P : Program) (w : World) (g : Nat) (cs : Array Value)
    (hp : tmps.getD p undef = .pointer (some ⟨g, 0, none⟩)) (hl : (loadVar ty ⟨g, 0, none⟩).run P w = .ok (.agg cs) w) :
    (results fn tmps).run P w = .ok (.tuple #[.agg cs, tmps.getD u undef]) w := by
  have hp' : tmps[p]?.getD undef = .pointer (some ⟨g, 0, none⟩) := by simpa using hp
  rw [results_cell_tmp h]
  simp [hp', asAddr, hl]
theorem Ls.info38 : (Try.prog.info? 38).map (·.size) = some 2 := by kernel_rfl
theorem Ls.alloc_step {P : Program} {ops : Array Oper} {Q : Exit → Act → World → Prop} {oi : Oper} {N : Option Tmp} {a : Act} {w : World} {K : Act → World → Prop} {cs : Array Value} {t : TypeId} (hw : Region.wanted oi (yielded ops a.tmps) = true) (hN : oi.dst = N)
    (hrun : (execOp a.eval oi).run P w = .ok (.value (.pointer (some ⟨w.heap.size, 0, none⟩))) (w.alloc (.cells cs t (0, 0))))
    (h : ∀ g w1, g = w.heap.size → w1.heap[g]? = some (.cells cs t (0, 0)) → Below w.heap.size w w1 → K (a.put N (.pointer (some ⟨g, 0, none⟩))) w1) : if Region.wanted oi (yielded ops a.tmps) = true then Oper.wp P oi a w K Q else K (a.put N undef) w := by
  rw [if_pos hw]
  subst hN
  unfold Oper.wp
  rw [hrun]
  exact h _ _ rfl (heap_alloc_new w _) ((Below.refl _ _).alloc (Nat.le_refl _) _)
def spec_LineTree.f (k : Nat) (l : List S76) : Option (List S86 × List S63 × Bool) := (spec_l16Tree.f k l).bind fun b => if b.2.2.2 = true then ((Ls.lay ⟨b.1, b.2.1, b.2.2.1⟩ ⟨[], [], 0⟩).bind fun q => (spec_GoodLined.f k q.s q.g).bind fun g => if g = true then some (q.s, q.g, true) else some ([], [], false)) else some ([], [], false)
theorem spec_LineTree.mono : ∀ a0 k, LeO (spec_LineTree.f k a0) (spec_LineTree.f (k + 1) a0) := by
 intro a0 k
 unfold spec_LineTree.f
 refine LeO.bind (spec_l16Tree.mono _ _) (fun b => ?_)
 split
 ·refine LeO.bind (LeO.refl _) (fun q => ?_)
  exact LeO.bind (spec_GoodLined.mono _ _ _) (fun _ => LeO.refl _)
 ·exact LeO.refl _
set_option maxHeartbeats 8000000 in
set_option maxRecDepth 100000 in
theorem spec_LineTree.calls (k : Nat) (A0 : Option Addr) (c0 : Nat) (l0 : List S76) (r1 : List S86) (r2 : List S63) (r3 : Bool) (w : World) (hr0 : Kd.C k76 w A0 l0.length l0) (hc0 : l0.length ≤ c0) (h : spec_LineTree.f k l0 = some (r1, r2, r3)) :
  Calls Try.prog 35 #[.slice A0 l0.length c0] w fun e w' => ∃ v0_ v1_ : Value, e = .returned (.tuple #[.agg #[v0_, v1_], .bool r3]) ∧ Kd.R k86 86 w' w.heap.size (fun _ => True) v0_ r1 ∧ Kd.R k63 63 w' w.heap.size (fun _ => True) v1_ r2 ∧ Below w.heap.size w w' := by
 unfold spec_LineTree.f at h
 have hu38 := Try.underlying38
 have hu105 := Try.underlying105
 have hu72 := Try.underlying72
 have hu35 := Try.underlying35
 have hu36 := Try.underlying36
 have HR0 := Aside0.mk hr0
 have HC0 := Aside0.mk hc0
 clear hr0 hc0
 replace h := lO h
 obtain ⟨⟨tk, tn, ts, tb⟩, A1, h⟩ := h
 simp only at h
 cases tb with
 | false =>
  rw [if_neg (by simp)] at h
  simp only [Option.some.injEq, Prod.mk.injEq] at h
  obtain ⟨rfl, rfl, rfl⟩ := h
  go_enter Try.func35, Try.ntmps35
  go_upto_region 1 with (fail)
  have n0_ : Aside0 ((w.alloc (Obj.cells #[Value.slice none 0 0, Value.slice none 0 0] 38)).heap[w.heap.size]? = some (Obj.cells #[Value.slice none 0 0, Value.slice none 0 0] 38)) := ⟨blk_new w _⟩
  have n1_ := Aside0.mk (below_alloc (Below.refl w.heap.size w) (Obj.cells #[Value.slice none 0 0, Value.slice none 0 0] 38))
  have n2_ := Aside0.mk (Kd.C_alloc HR0.out (Obj.cells #[Value.slice none 0 0, Value.slice none 0 0] 38))
  have HGR := Aside0.mk (Nat.le_refl w.heap.size)
  generalize w.alloc (Obj.cells #[Value.slice none 0 0, Value.slice none 0 0] 38) = w1 at n0_ n1_ n2_ ⊢
  generalize hgr_ : w.heap.size = gr at n0_ ⊢
  have HGR : Aside0 (w.heap.size ≤ gr) := ⟨Nat.le_of_eq hgr_⟩
  clear hgr_ HR0
  have BR := n0_
  have HB := n1_
  have HR0 := n2_
  clear n0_ n1_ n2_
  obtain ⟨hrz0, hrf0, hrz1, hrf1⟩ := bk2 BR.out
  go_upto_region 2 with (first | (go_at_call 44; (with_reducible refine (spec_l16Tree.calls k _ _ l0 tk tn ts false _ (lC HR0.out) HC0.out A1.out).mono ?_); rintro e w5 ⟨v5, rfl, ho, hb⟩; have n0_ := Aside0.mk (below_step HB.out hb); have n1_ := Aside0.mk (Kd.R_lower ho (below_size HB.out)); have n2_ := Aside0.mk (blk_below BR.out hb); clear HB BR hrz0 hrf0 hrz1 hrf1; have HB := n0_; have HO := n1_; have BR := n2_; clear n0_ n1_ n2_ hb ho; obtain ⟨Av, cv, ev⟩ := Kd.R_slice HO.out; subst ev; obtain ⟨hrz0, hrf0, hrz1, hrf1⟩ := bk2 BR.out) | ((with_reducible refine gate_dst (N := 4) rfl ?_); refine bxe 4 #[.int .i64 0, .int .i64 0, .slice none 0 0] 72 ?_; intro gx hg w7 hbox hb; have n0_ := Aside0.mk (below_step HB.out hb); have n1_ := Aside0.mk hbox; have n2_ : Aside0 (w.heap.size ≤ gx) := ⟨by rw [hg]; exact below_size HB.out⟩; have n4_ : Aside0 (Kd.R k72 72 w7 w.heap.size (fun k => True ∧ k ≠ gx) (.slice Av ts.length cv) ts) := ⟨Kd.R_mono (Kd.R_below (Kd.R_bound HO.out) hb) (fun k hk => ⟨trivial, by have := hk.2.2.1; omega⟩)⟩; have n5_ := Aside0.mk (blk_below BR.out hb); have HNE := Aside0.mk (show gr ≠ gx from Nat.ne_of_lt (by rw [hg]; exact blk_lt BR.out)); clear HB BR hrz0 hrf0 hrz1 hrf1; have HB := n0_; have BK := n1_; have GE := n2_; have HOE := n4_; have BR := n5_; clear n0_ n1_ n2_ n4_ n5_ hg hbox hb; obtain ⟨hcz0, hfz0, hcz1, hfz1, hcz2, hfz2⟩ := bk3 BK.out; obtain ⟨hrz0, hrf0, hrz1, hrf1⟩ := bk2 BR.out))
  have n2_ : Aside0 (Below w.heap.size w (((w7.setCell ⟨gx, 0, none⟩ (.int .i64 tk)).setCell ⟨gx, 1, none⟩ (.int .i64 tn)).setCell ⟨gx, 2, none⟩ (.slice Av ts.length cv))) := ⟨below_set (below_set (below_set HB.out GE.out) GE.out) GE.out⟩
  have n3_ : Aside0 ((((w7.setCell ⟨gx, 0, none⟩ (.int .i64 tk)).setCell ⟨gx, 1, none⟩ (.int .i64 tn)).setCell ⟨gx, 2, none⟩ (.slice Av ts.length cv)).heap[gr]? = some (.cells #[.slice none 0 0, .slice none 0 0] 38 (0, 0))) := ⟨blk_far (blk_far (blk_far BR.out (p := ⟨gx, 0, none⟩) HNE.out (.int .i64 tk)) (p := ⟨gx, 1, none⟩) HNE.out (.int .i64 tn)) (p := ⟨gx, 2, none⟩) HNE.out (.slice Av ts.length cv)⟩
  clear BK HO HOE HB BR hcz0 hfz0 hcz1 hfz1 hcz2 hfz2 hrz0 hrf0 hrz1 hrf1
  generalize ((w7.setCell ⟨gx, 0, none⟩ (.int .i64 tk)).setCell ⟨gx, 1, none⟩ (.int .i64 tn)).setCell ⟨gx, 2, none⟩ (.slice Av ts.length cv) = w8 at n2_ n3_ ⊢
  have HB := n2_
  have BR := n3_
  clear n2_ n3_
  obtain ⟨hrz0, hrf0, hrz1, hrf1⟩ := bk2 BR.out
  go_wp2
  refine bodyPost_ret (Ls.res rfl _ _ _ gr #[.slice none 0 0, .slice none 0 0] rfl (run_loadVar_row _ gr 38 38 #[.slice none 0 0, .slice none 0 0] (0, 0) _ (blk_put (cs := #[.slice none 0 0, .slice none 0 0]) (blk_put (cs := #[.slice none 0 0, .slice none 0 0]) BR.out 0 _ rfl) 1 _ rfl) hu38 rfl Ls.info38)) rfl ?_
  exact ⟨_, _, rfl, Kd.R_nil _ _ _ _ _, Kd.R_nil _ _ _ _ _, below_set (below_set HB.out HGR.out) HGR.out⟩
 | true =>
  rw [if_pos rfl] at h
  replace h := lO h
  obtain ⟨q, A2, h⟩ := h
  replace h := lO h
  obtain ⟨b, A3, h⟩ := h
  go_enter Try.func35, Try.ntmps35
  go_upto_region 1 with (fail)
  have n0_ : Aside0 ((w.alloc (Obj.cells #[Value.slice none 0 0, Value.slice none 0 0] 38)).heap[w.heap.size]? = some (Obj.cells #[Value.slice none 0 0, Value.slice none 0 0] 38)) := ⟨blk_new w _⟩
  have n1_ := Aside0.mk (below_alloc (Below.refl w.heap.size w) (Obj.cells #[Value.slice none 0 0, Value.slice none 0 0] 38))
  have n2_ := Aside0.mk (Kd.C_alloc HR0.out (Obj.cells #[Value.slice none 0 0, Value.slice none 0 0] 38))
  have HGR := Aside0.mk (Nat.le_refl w.heap.size)
  generalize w.alloc (Obj.cells #[Value.slice none 0 0, Value.slice none 0 0] 38) = w1 at n0_ n1_ n2_ ⊢
  generalize hgr_ : w.heap.size = gr at n0_ ⊢
  have HGR : Aside0 (w.heap.size ≤ gr) := ⟨Nat.le_of_eq hgr_⟩
  clear hgr_ HR0
  have BR := n0_
  have HB := n1_
  have HR0 := n2_
  clear n0_ n1_ n2_
  obtain ⟨hrz0, hrf0, hrz1, hrf1⟩ := bk2 BR.out
  go_upto_region 4 with (first | (go_at_call 44; (with_reducible refine (spec_l16Tree.calls k _ _ l0 tk tn ts true _ (lC HR0.out) HC0.out A1.out).mono ?_); rintro e w5 ⟨v5, rfl, ho, hb⟩; have n0_ := Aside0.mk (below_step HB.out hb); have n1_ := Aside0.mk (Kd.R_lower ho (below_size HB.out)); have n2_ := Aside0.mk (blk_below BR.out hb); clear HB BR hrz0 hrf0 hrz1 hrf1; have HB := n0_; have HO := n1_; have BR := n2_; clear n0_ n1_ n2_ hb ho; obtain ⟨Av, cv, ev⟩ := Kd.R_slice HO.out; subst ev; obtain ⟨hrz0, hrf0, hrz1, hrf1⟩ := bk2 BR.out) | ((with_reducible refine gate_dst (N := 4) rfl ?_); refine bxe 4 #[.int .i64 0, .int .i64 0, .slice none 0 0] 72 ?_; intro gx hg w7 hbox hb; have n0_ := Aside0.mk (below_step HB.out hb); have n1_ := Aside0.mk hbox; have n2_ : Aside0 (w.heap.size ≤ gx) := ⟨by rw [hg]; exact below_size HB.out⟩; have n4_ : Aside0 (Kd.R k72 72 w7 w.heap.size (fun k => True ∧ k ≠ gx) (.slice Av ts.length cv) ts) := ⟨Kd.R_mono (Kd.R_below (Kd.R_bound HO.out) hb) (fun k hk => ⟨trivial, by have := hk.2.2.1; omega⟩)⟩; have n5_ := Aside0.mk (blk_below BR.out hb); have HNE := Aside0.mk (show gr ≠ gx from Nat.ne_of_lt (by rw [hg]; exact blk_lt BR.out)); clear HB BR hrz0 hrf0 hrz1 hrf1; have HB := n0_; have BK := n1_; have GE := n2_; have HOE := n4_; have BR := n5_; clear n0_ n1_ n2_ n4_ n5_ hg hbox hb; obtain ⟨hcz0, hfz0, hcz1, hfz1, hcz2, hfz2⟩ := bk3 BK.out; obtain ⟨hrz0, hrf0, hrz1, hrf1⟩ := bk2 BR.out))
  have n0_ : Aside0 ((((w7.setCell ⟨gx, 0, none⟩ (.int .i64 tk)).setCell ⟨gx, 1, none⟩ (.int .i64 tn)).setCell ⟨gx, 2, none⟩ (.slice Av ts.length cv)).heap[gx]? = some (.cells #[.int .i64 tk, .int .i64 tn, .slice Av ts.length cv] 72 (0, 0))) := ⟨blk_put (cs := #[.int .i64 tk, .int .i64 tn, .slice none 0 0]) (blk_put (cs := #[.int .i64 tk, .int .i64 0, .slice none 0 0]) (blk_put (cs := #[.int .i64 0, .int .i64 0, .slice none 0 0]) BK.out 0 _ rfl) 1 _ rfl) 2 _ rfl⟩
  have n1_ : Aside0 (Kd.R k72 72 (((w7.setCell ⟨gx, 0, none⟩ (.int .i64 tk)).setCell ⟨gx, 1, none⟩ (.int .i64 tn)).setCell ⟨gx, 2, none⟩ (.slice Av ts.length cv)) w.heap.size (fun k => True ∧ k ≠ gx) (.slice Av ts.length cv) ts) := ⟨Kd.R_far (p := ⟨gx, 2, none⟩) (Kd.R_far (p := ⟨gx, 1, none⟩) (Kd.R_far (p := ⟨gx, 0, none⟩) (HOE.out) (fun _ hk => hk.2) _) (fun _ hk => hk.2) _) (fun _ hk => hk.2) _⟩
  have n2_ : Aside0 (Below w.heap.size w (((w7.setCell ⟨gx, 0, none⟩ (.int .i64 tk)).setCell ⟨gx, 1, none⟩ (.int .i64 tn)).setCell ⟨gx, 2, none⟩ (.slice Av ts.length cv))) := ⟨below_set (below_set (below_set HB.out GE.out) GE.out) GE.out⟩
  have n3_ : Aside0 ((((w7.setCell ⟨gx, 0, none⟩ (.int .i64 tk)).setCell ⟨gx, 1, none⟩ (.int .i64 tn)).setCell ⟨gx, 2, none⟩ (.slice Av ts.length cv)).heap[gr]? = some (.cells #[.slice none 0 0, .slice none 0 0] 38 (0, 0))) := ⟨blk_far (blk_far (blk_far BR.out (p := ⟨gx, 0, none⟩) HNE.out (.int .i64 tk)) (p := ⟨gx, 1, none⟩) HNE.out (.int .i64 tn)) (p := ⟨gx, 2, none⟩) HNE.out (.slice Av ts.length cv)⟩
  clear BK HO HOE HB BR hcz0 hfz0 hcz1 hfz1 hcz2 hfz2 hrz0 hrf0 hrz1 hrf1
  generalize ((w7.setCell ⟨gx, 0, none⟩ (.int .i64 tk)).setCell ⟨gx, 1, none⟩ (.int .i64 tn)).setCell ⟨gx, 2, none⟩ (.slice Av ts.length cv) = w8 at n0_ n1_ n2_ n3_ ⊢
  have BK := n0_
  have HO := n1_
  have HB := n2_
  have BR := n3_
  clear n0_ n1_ n2_ n3_
  obtain ⟨hcz0, hfz0, hcz1, hfz1, hcz2, hfz2⟩ := bk3 BK.out
  go_upto_region 5 with (first | ((with_reducible refine gate_dst (N := 17) rfl ?_); refine bxe 17 #[.slice none 0 0, .slice none 0 0, .int .i64 0] 105 ?_; intro gb hg w9 hbox hb; subst hg; have n0_ := Aside0.mk hbox; have n1_ := Aside0.mk hb; have n2_ := Aside0.mk (blk_below BK.out hb); clear hbox hb BK hcz0 hfz0 hcz1 hfz1 hcz2 hfz2; have BX := n0_; have HX := n1_; have BK := n2_; clear n0_ n1_ n2_; obtain ⟨hcz0, hfz0, hcz1, hfz1, hcz2, hfz2⟩ := bk3 BK.out))
  have HWB := Aside0.mk (below_size HB.out)
  have hOk := spec_l16L_lay.calls ⟨tk, tn, ts⟩ w8 w8.heap.size Av cv (Kd.R_reads' HO.out).2.2
  have HOK := Aside0.mk (hOk w9 none 0 none 0 ⟨[], [], 0⟩ q (Nat.le_refl _) HX.out BX.out (Kd.R_nil _ _ _ _ _) (Kd.R_nil _ _ _ _ _) A2.out)
  clear hOk
  go_upto_region 6 with (first | (go_at_call 67; (with_reducible refine HOK.out.mono ?_); rintro e w10 ⟨rfl, ⟨A1_, c1_, A2_, c2_, hbx_, ho_, hq_, hb_⟩, hk_⟩; have n0_ := Aside0.mk hbx_; have n1_ := Aside0.mk ho_; have n2_ := Aside0.mk hq_; have n3_ : Aside0 (Below w.heap.size w w10) := ⟨HB.out.trans ((HX.out.trans hb_).mono HWB.out)⟩; have n4_ := Aside0.mk (((HX.out.trans hb_).block gr (blk_lt BR.out)).trans BR.out); have n5_ : Aside0 (w8.heap.size ≤ w10.heap.size) := ⟨(HX.out.trans hb_).size⟩; clear BX HX HB BR BK HO hbx_ ho_ hq_ hb_ hk_ hcz0 hfz0 hcz1 hfz1 hcz2 hfz2; have BX := n0_; have HO := n1_; have HQ := n2_; have HB := n3_; have BR := n4_; have HS := n5_; clear n0_ n1_ n2_ n3_ n4_ n5_; obtain ⟨hbz0, hbf0, hbz1, hbf1, hbz2, hbf2⟩ := bk3 BX.out))
  refine start_ (n := 11) (S := fun w' => w'.cell? ⟨w8.heap.size, 0, none⟩ = some (.slice A1_ q.s.length c1_) ∧ w'.cell? ⟨w8.heap.size, 1, none⟩ = some (.slice A2_ q.g.length c2_)) (ds := [10]) (bs 11 0) kR rfl kR ⟨hbz0, hbz1⟩ (fun hHeld => ?_)
  have n0_ := Aside0.mk (blk_drew BX.out)
  have n1_ := Aside0.mk (Kd.R_drew HO.out)
  have n2_ := Aside0.mk (Kd.R_drew HQ.out)
  have n3_ := Aside0.mk HB.out.drew
  have n4_ := Aside0.mk (blk_drew BR.out)
  have n5_ : Aside0 (w8.heap.size ≤ (World.drew _).heap.size) := HS
  clear BX HO HQ HB BR HS hbz0 hbf0 hbz1 hbf1 hbz2 hbf2
  generalize hwd_ : World.drew _ = w3 at n0_ n1_ n2_ n3_ n4_ n5_ hHeld ⊢
  clear hwd_
  have BX := n0_
  have HO := n1_
  have HQ := n2_
  have HB := n3_
  have BR := n4_
  have HS := n5_
  clear n0_ n1_ n2_ n3_ n4_ n5_
  refine pur_ 0 21 (bs 11 1) kR ?_
  refine pur_ 1 22 (bs 11 3) kR ?_
  refine pur_ 2 23 (bs 11 7) kR ?_
  refine pur_ 4 25 (bs 11 23) kR ?_
  refine pur_ 5 26 (bs 11 55) kR ?_
  refine pur_ 6 27 (bs 11 119) kR ?_
  refine tak_ 3 24 (bs 11 127) kR hHeld ?_
  refine tak_ 7 28 (bs 11 255) kR hHeld ?_
  refine pur_ 8 29 (bs 11 511) kR ?_
  refine one_ (i := 9) (N := some 7) (bs 11 1023) rfl rfl kR (by decide) (fun K hK => ?_)
  refine Ls.alloc_step (cs := #[.slice none 0 0, .slice none 0 0]) (t := 38) (by rfl) rfl (by first | rfl | kernel_rfl | (go_simp; done)) ?_
  intro gy wy hgy_ hby_ hbel_
  have n0_ := Aside0.mk (blk_below BX.out hbel_)
  have n1_ := Aside0.mk (Kd.R_below HO.out hbel_)
  have n2_ := Aside0.mk (Kd.R_below HQ.out hbel_)
  have n3_ := Aside0.mk (below_step HB.out hbel_)
  have n4_ := Aside0.mk (blk_below BR.out hbel_)
  have n5_ := Aside0.mk (Nat.le_trans HS.out hbel_.size)
  have n6_ := Aside0.mk hby_
  have GY : Aside0 (w.heap.size ≤ gy) := ⟨by rw [hgy_]; exact below_size HB.out⟩
  have GYR : Aside0 (gr ≠ gy) := ⟨Nat.ne_of_lt (by rw [hgy_]; exact blk_lt BR.out)⟩
  clear BX HO HQ HB BR HS hby_ hbel_ hgy_
  have BX := n0_
  have HO := n1_
  have HQ := n2_
  have HB := n3_
  have BR := n4_
  have HS := n5_
  have BY := n6_
  clear n0_ n1_ n2_ n3_ n4_ n5_ n6_
  obtain ⟨hyz0, hyf0, hyz1, hyf1⟩ := bk2 BY.out
  refine hK.out _ _ ⟨bZ BX.out 0, bZ BX.out 1⟩ (fun hHeld => ?_)
  clear hK K
  refine norm_ (a' := ?_) ?_ ?_
  rotate_left
  ·show Act.put _ (some 7) _ = _
   simp only [Act.put, List.setIfInBounds_toArray, List.set_cons_zero, List.set_cons_succ, i64_w, i32_w]
   rfl
  refine last_ (i := 10) (N := none) (bs 11 2047) rfl rfl kR (by decide) (fun K hK => ?_)
  refine skip_ (w1 := (World.setCell wy ⟨gy, 0, none⟩ (.slice A1_ q.s.length c1_)).setCell ⟨gy, 1, none⟩ (.slice A2_ q.g.length c2_)) (by rfl) rfl (by first | (go_simp; done) | (go_simp; rfl)) ?_
  refine hK.out _ _ ?_
  clear hK K
  refine done_ kR ?_
  clear hHeld hyz0 hyf0 hyz1 hyf1
  have b0_ := Aside0.mk (blk_put (cs := #[.slice none 0 0, .slice none 0 0]) BY.out 0 (.slice A1_ q.s.length c1_) rfl)
  have n0_ : Aside0 (((World.setCell wy ⟨gy, 0, none⟩ (.slice A1_ q.s.length c1_)).setCell ⟨gy, 1, none⟩ (.slice A2_ q.g.length c2_)).heap[gy]? = some (.cells #[(.slice A1_ q.s.length c1_), (.slice A2_ q.g.length c2_)] 38 (0, 0))) := ⟨blk_put (cs := #[(.slice A1_ q.s.length c1_), .slice none 0 0]) b0_.out 1 _ rfl⟩
  have n1_ := Aside0.mk (Kd.R_set (Kd.R_set HO.out BY.out (by decide) 0 (.slice A1_ q.s.length c1_)) b0_.out (by decide) 1 (.slice A2_ q.g.length c2_))
  have n2_ := Aside0.mk (Kd.R_set (Kd.R_set HQ.out BY.out (by decide) 0 (.slice A1_ q.s.length c1_)) b0_.out (by decide) 1 (.slice A2_ q.g.length c2_))
  have n3_ : Aside0 (Below w.heap.size w ((World.setCell wy ⟨gy, 0, none⟩ (.slice A1_ q.s.length c1_)).setCell ⟨gy, 1, none⟩ (.slice A2_ q.g.length c2_))) := ⟨below_set (below_set HB.out GY.out) GY.out⟩
  have n4_ := Aside0.mk (blk_far (blk_far BR.out (p := ⟨gy, 0, none⟩) GYR.out (.slice A1_ q.s.length c1_)) (p := ⟨gy, 1, none⟩) GYR.out (.slice A2_ q.g.length c2_))
  clear BX HO HQ HB BR HS BY b0_
  generalize (World.setCell wy ⟨gy, 0, none⟩ (.slice A1_ q.s.length c1_)).setCell ⟨gy, 1, none⟩ (.slice A2_ q.g.length c2_) = w11 at n0_ n1_ n2_ n3_ n4_ ⊢
  have BY := n0_
  have HO := n1_
  have HQ := n2_
  have HB := n3_
  have BR := n4_
  clear n0_ n1_ n2_ n3_ n4_
  have HS8 := Aside0.mk ((Kd.R_reads' HO.out).2)
  have HG8 := Aside0.mk ((Kd.R_reads' HQ.out).2)
  obtain ⟨hrz0, hrf0, hrz1, hrf1⟩ := bk2 BR.out
  obtain ⟨hyz0, hyf0, hyz1, hyf1⟩ := bk2 BY.out
  cases b with
  | false =>
   rw [if_neg (by simp)] at h
   simp only [Option.some.injEq, Prod.mk.injEq] at h
   obtain ⟨rfl, rfl, rfl⟩ := h
   go_wp2_with (first | (go_at_call 18; (with_reducible refine (spec_GoodLined.calls k _ _ q.s _ _ q.g _ _ HS8.out.2 HS8.out.1 HG8.out.2 HG8.out.1 A3.out).mono ?_); rintro e w12 ⟨rfl, hb⟩; have n0_ := Aside0.mk (below_step HB.out hb); have n1_ := Aside0.mk (blk_below BR.out hb); have n2_ := Aside0.mk (blk_below BY.out hb); have n3_ := Aside0.mk (Kd.R_below HO.out hb); have n4_ := Aside0.mk (Kd.R_below HQ.out hb); clear HB BR BY HO HQ HS8 HG8 hrz0 hrf0 hrz1 hrf1 hyz0 hyf0 hyz1 hyf1 hb; have HB := n0_; have BR := n1_; have BY := n2_; have HO := n3_; have HQ := n4_; clear n0_ n1_ n2_ n3_ n4_; obtain ⟨hrz0, hrf0, hrz1, hrf1⟩ := bk2 BR.out; obtain ⟨hyz0, hyf0, hyz1, hyf1⟩ := bk2 BY.out))
   refine bodyPost_ret (Ls.res rfl _ _ _ gr #[.slice none 0 0, .slice none 0 0] rfl (run_loadVar_row _ gr 38 38 #[.slice none 0 0, .slice none 0 0] (0, 0) _ (blk_put (cs := #[.slice none 0 0, .slice none 0 0]) (blk_put (cs := #[.slice none 0 0, .slice none 0 0]) BR.out 0 _ rfl) 1 _ rfl) hu38 rfl Ls.info38)) rfl ?_
   exact ⟨_, _, rfl, Kd.R_nil _ _ _ _ _, Kd.R_nil _ _ _ _ _, below_set (below_set HB.out HGR.out) HGR.out⟩
  | true =>
   rw [if_pos rfl] at h
   simp only [Option.some.injEq, Prod.mk.injEq] at h
   obtain ⟨rfl, rfl, rfl⟩ := h
   go_wp2_with (first | (go_at_call 18; (with_reducible refine (spec_GoodLined.calls k _ _ q.s _ _ q.g _ _ HS8.out.2 HS8.out.1 HG8.out.2 HG8.out.1 A3.out).mono ?_); rintro e w12 ⟨rfl, hb⟩; have n0_ := Aside0.mk (below_step HB.out hb); have n1_ := Aside0.mk (blk_below BR.out hb); have n2_ := Aside0.mk (blk_below BY.out hb); have n3_ := Aside0.mk (Kd.R_below HO.out hb); have n4_ := Aside0.mk (Kd.R_below HQ.out hb); clear HB BR BY HO HQ HS8 HG8 hrz0 hrf0 hrz1 hrf1 hyz0 hyf0 hyz1 hyf1 hb; have HB := n0_; have BR := n1_; have BY := n2_; have HO := n3_; have HQ := n4_; clear n0_ n1_ n2_ n3_ n4_; obtain ⟨hrz0, hrf0, hrz1, hrf1⟩ := bk2 BR.out; obtain ⟨hyz0, hyf0, hyz1, hyf1⟩ := bk2 BY.out))
   have n0_ := Aside0.mk (Kd.R_set HO.out BR.out (by decide) 0 (.slice A1_ q.s.length c1_))
   have n1_ := Aside0.mk (Kd.R_set HQ.out BR.out (by decide) 0 (.slice A1_ q.s.length c1_))
   have BR2 := Aside0.mk (blk_put (cs := #[.slice none 0 0, .slice none 0 0]) BR.out 0 (.slice A1_ q.s.length c1_) rfl)
   have n2_ := Aside0.mk (Kd.R_set n0_.out BR2.out (by decide) 1 (.slice A2_ q.g.length c2_))
   have n3_ := Aside0.mk (Kd.R_set n1_.out BR2.out (by decide) 1 (.slice A2_ q.g.length c2_))
   refine bodyPost_ret (Ls.res rfl _ _ _ gr #[.slice A1_ q.s.length c1_, .slice A2_ q.g.length c2_] rfl (run_loadVar_row _ gr 38 38 #[.slice A1_ q.s.length c1_, .slice A2_ q.g.length c2_] (0, 0) _ (blk_put (cs := #[.slice A1_ q.s.length c1_, .slice none 0 0]) BR2.out 1 _ rfl) hu38 rfl Ls.info38)) rfl ?_
   exact ⟨_, _, rfl, Kd.R_lower n2_.out HWB.out, Kd.R_lower n3_.out HWB.out, below_set (below_set HB.out HGR.out) HGR.out⟩


/-- A state of type 114 at block g of W; what its slices lead to came in by w0. -/
def IsS114 (w0 W : World) (g : Nat) (f0 : List Int) (f1 : Int) (f2 : Int) : Prop := ∃ A0 c0, W.heap[g]? = some (.cells #[.slice A0 f0.length c0, .int .i64 f1, .int .u64 f2] 114 (0, 0)) ∧ w0.heap.size ≤ g ∧ Kd.C (Kd.int .u8) w0 A0 f0.length f0
theorem IsS114.grown {w0 W : World} {g : Nat} {f0 : List Int} {f1 : Int} {f2 : Int} {W1 : World} {row : Option Nat} (h : IsS114 w0 W g f0 f1 f2) (hw : W.grownBy W1 row) (hne : some g ≠ row) : IsS114 w0 W1 g f0 f1 f2 := by
 obtain ⟨A0, c0, hb, hg, hr0⟩ := h
 exact ⟨A0, c0, blk_grown hb hw hne, hg, hr0⟩
theorem IsS114.own_neN {w0 W : World} {g : Nat} {f0 : List Int} {f1 : Int} {f2 : Int} {α : Type} {d : Kd α} {e : Nat} {base : Nat} {ok : Nat → Prop} {v : Value} {xs : List α} (h : IsS114 w0 W g f0 f1 f2) (ho : Kd.N d e W base ok v xs) (ht : e ≠ 114) : some g ≠ v.ownBlock := by
 obtain ⟨A0, c0, hb, hg, hr0⟩ := h
 exact Kd.N_ne ho hb ht
theorem IsS114.fresh {w0 W : World} {g : Nat} {f0 : List Int} {f1 : Int} {f2 : Int} (h : IsS114 w0 W g f0 f1 f2) : ∀ k, W.heap.size ≤ k → k ≠ g := by
 obtain ⟨A0, c0, hb, hg, hr0⟩ := h
 exact Kd.freshB hb
theorem IsS114.kept {w0 W : World} {g : Nat} {f0 : List Int} {f1 : Int} {f2 : Int} {W1 : World} {S : Nat → Prop} (h : IsS114 w0 W g f0 f1 f2) (hk : Kept W W1 S) (hne : ¬ S g) : IsS114 w0 W1 g f0 f1 f2 := by
 obtain ⟨A0, c0, hb, hg, hr0⟩ := h
 exact ⟨A0, c0, blk_kept hb hk hne, hg, hr0⟩
theorem IsS114.below {w0 W : World} {g : Nat} {f0 : List Int} {f1 : Int} {f2 : Int} {W1 : World} (h : IsS114 w0 W g f0 f1 f2) (hw : Below W.heap.size W W1) : IsS114 w0 W1 g f0 f1 f2 := h.grown (grown_of_below hw none) (by simp)
theorem IsS114.alloc {w0 W : World} {g : Nat} {f0 : List Int} {f1 : Int} {f2 : Int} (h : IsS114 w0 W g f0 f1 f2) (o : Obj) : IsS114 w0 (W.alloc o) g f0 f1 f2 := h.below (below_alloc (Below.refl _ _) o)
theorem IsS114.drewN {w0 W : World} {g : Nat} {f0 : List Int} {f1 : Int} {f2 : Int} (h : IsS114 w0 W g f0 f1 f2) (m : Nat) : IsS114 w0 (W.drewN m) g f0 f1 f2 := h
theorem IsS114.drew {w0 W : World} {g : Nat} {f0 : List Int} {f1 : Int} {f2 : Int} (h : IsS114 w0 W g f0 f1 f2) : IsS114 w0 W.drew g f0 f1 f2 := h
theorem IsS114.at_ {w0 W : World} {g : Nat} {f0 : List Int} {f1 : Int} {f2 : Int} {w' : World} {m : Nat} (hq : W.drewN m = w') (h : IsS114 w0 W g f0 f1 f2) : IsS114 w0 w' g f0 f1 f2 := by subst hq; exact IsS114.drewN h m
theorem IsS114.apart {w0 W : World} {g : Nat} {f0 : List Int} {f1 : Int} {f2 : Int} {α : Type} {d : Kd α} {e : Nat} {base : Nat} {ok : Nat → Prop} {v : Value} {xs : List α} (h : IsS114 w0 W g f0 f1 f2) (ho : d.R e W base ok v xs) (ht : ∀ q, q ∈ e :: d.E → q ≠ 114) : d.R e W base (fun k => ok k ∧ k ≠ g) v xs := by
 obtain ⟨A0, c0, hb, hg, hr0⟩ := h
 exact Kd.R_types ho hb ht
theorem IsS114.own_ne {w0 W : World} {g : Nat} {f0 : List Int} {f1 : Int} {f2 : Int} {α : Type} {d : Kd α} {e : Nat} {base : Nat} {ok : Nat → Prop} {v : Value} {xs : List α} (h : IsS114 w0 W g f0 f1 f2) (ho : d.R e W base ok v xs) (ht : e ≠ 114) : some g ≠ v.ownBlock := by
 obtain ⟨A0, c0, hb, hg, hr0⟩ := h
 exact Kd.R_ne ho hb ht
theorem IsS114.apartQ {w0 W : World} {g : Nat} {f0 : List Int} {f1 : Int} {f2 : Int} {α : Type} {d : Kd α} {e : Nat} {base : Nat} {ok : Nat → Prop} {v : Value} {xs : List α} (h : IsS114 w0 W g f0 f1 f2) (ho : d.Q e W base ok v xs) (ht : ∀ q, q ∈ e :: d.E → q ≠ 114) : d.Q e W base (fun k => ok k ∧ k ≠ g) v xs := by
 obtain ⟨A0, c0, hb, hg, hr0⟩ := h
 exact Kd.Q_types ho hb ht
theorem IsS114.own_neQ {w0 W : World} {g : Nat} {f0 : List Int} {f1 : Int} {f2 : Int} {α : Type} {d : Kd α} {e : Nat} {base : Nat} {ok : Nat → Prop} {v : Value} {xs : List α} (h : IsS114 w0 W g f0 f1 f2) (ho : d.Q e W base ok v xs) (ht : e ≠ 114) : some g ≠ v.ownBlock := by
 obtain ⟨A0, c0, hb, hg, hr0⟩ := h
 exact Kd.Q_ne ho hb ht
theorem IsS114.apartS {w0 W : World} {g : Nat} {f0 : List Int} {f1 : Int} {f2 : Int} {α : Type} {d : Kd α} {e : Nat} {base : Nat} {ok : Nat → Prop} {v : Value} {xs : List α} (h : IsS114 w0 W g f0 f1 f2) (ho : d.S e W base ok v xs) (ht : ∀ q, q ∈ e :: d.E → q ≠ 114) : d.S e W base (fun k => ok k ∧ k ≠ g) v xs := by
 obtain ⟨A0, c0, hb, hg, hr0⟩ := h
 exact Kd.S_types ho hb ht
theorem IsS114.own_neS {w0 W : World} {g : Nat} {f0 : List Int} {f1 : Int} {f2 : Int} {α : Type} {d : Kd α} {e : Nat} {base : Nat} {ok : Nat → Prop} {v : Value} {xs : List α} (h : IsS114 w0 W g f0 f1 f2) (ho : d.S e W base ok v xs) (ht : e ≠ 114) : some g ≠ v.ownBlock := by
 obtain ⟨A0, c0, hb, hg, hr0⟩ := h
 exact Kd.S_ne ho hb ht
theorem IsS114.lt {w0 W : World} {g : Nat} {f0 : List Int} {f1 : Int} {f2 : Int} (h : IsS114 w0 W g f0 f1 f2) : g < W.heap.size := by
 obtain ⟨A0, c0, hb, hg, hr0⟩ := h
 exact blk_lt hb
theorem IsS114.ge {w0 W : World} {g : Nat} {f0 : List Int} {f1 : Int} {f2 : Int} (h : IsS114 w0 W g f0 f1 f2) : w0.heap.size ≤ g := by
 obtain ⟨A0, c0, hb, hg, hr0⟩ := h
 exact hg
theorem IsS114.ne_blk {w0 W : World} {g : Nat} {f0 : List Int} {f1 : Int} {f2 : Int} {a : Nat} {cs : Array Value} {t : TypeId} {fr : Nat × Nat} (h : IsS114 w0 W g f0 f1 f2) (hb2 : W.heap[a]? = some (.cells cs t fr)) (ht : t ≠ 114) : g ≠ a := by
 obtain ⟨A0, c0, hb, hg, hr0⟩ := h
 rintro rfl
 rw [hb] at hb2
 injection hb2 with hb2
 injection hb2 with _ ht2
 exact ht ht2.symm
theorem IsS114.far {w0 W : World} {g : Nat} {f0 : List Int} {f1 : Int} {f2 : Int} {p : Addr} (h : IsS114 w0 W g f0 f1 f2) (hne : g ≠ p.block) (u : Value) : IsS114 w0 (W.setCell p u) g f0 f1 f2 := by
 obtain ⟨A0, c0, hb, hg, hr0⟩ := h
 exact ⟨A0, c0, blk_far hb hne u, hg, hr0⟩
theorem cellS114_0 {W : World} {g : Nat} {A0 : Option Addr} {c0 : Nat} {f0 : List Int} {f1 : Int} {f2 : Int} (h : W.heap[g]? = some (.cells #[.slice A0 f0.length c0, .int .i64 f1, .int .u64 f2] 114 (0, 0))) : W.cell? ⟨g, 0, none⟩ = some (.slice A0 f0.length c0) := (blk_cell h 0).trans rfl
theorem cellS114_1 {W : World} {g : Nat} {A0 : Option Addr} {c0 : Nat} {f0 : List Int} {f1 : Int} {f2 : Int} (h : W.heap[g]? = some (.cells #[.slice A0 f0.length c0, .int .i64 f1, .int .u64 f2] 114 (0, 0))) : W.cell? ⟨g, 1, none⟩ = some (.int .i64 f1) := (blk_cell h 1).trans rfl
theorem IsS114.set_1 {w0 W : World} {g : Nat} {f0 : List Int} {f1 : Int} {f2 : Int} (h : IsS114 w0 W g f0 f1 f2) (x : Int) : IsS114 w0 (W.setCell ⟨g, 1, none⟩ (.int .i64 x)) g f0 x f2 := by
 obtain ⟨A0, c0, hb, hg, hr0⟩ := h
 exact ⟨A0, c0, by simpa using blk_set hb 1 (.int .i64 x), hg, hr0⟩
theorem cellS114_2 {W : World} {g : Nat} {A0 : Option Addr} {c0 : Nat} {f0 : List Int} {f1 : Int} {f2 : Int} (h : W.heap[g]? = some (.cells #[.slice A0 f0.length c0, .int .i64 f1, .int .u64 f2] 114 (0, 0))) : W.cell? ⟨g, 2, none⟩ = some (.int .u64 f2) := (blk_cell h 2).trans rfl
theorem IsS114.set_2 {w0 W : World} {g : Nat} {f0 : List Int} {f1 : Int} {f2 : Int} (h : IsS114 w0 W g f0 f1 f2) (x : Int) : IsS114 w0 (W.setCell ⟨g, 2, none⟩ (.int .u64 x)) g f0 f1 x := by
 obtain ⟨A0, c0, hb, hg, hr0⟩ := h
 exact ⟨A0, c0, by simpa using blk_set hb 2 (.int .u64 x), hg, hr0⟩
theorem IsS114.new (w0 W : World) (A0 : Option Addr) (c0 : Nat) (f0 : List Int) (f1 : Int) (f2 : Int) (hB : Below w0.heap.size w0 W) (hr0 : Kd.C (Kd.int .u8) w0 A0 f0.length f0) : IsS114 w0 (W.alloc (.cells #[.slice A0 f0.length c0, .int .i64 f1, .int .u64 f2] 114)) W.heap.size f0 f1 f2 := ⟨A0, c0, by simpa using heap_alloc_new W _, hB.size, hr0⟩

/-! ### spec_l1Cur_next: function 91 -/
def spec_l1Cur_next.f (s0_0 : List Int) (s0_1 : Int) (s0_2 : Int) : Option (Int × Int × Int) := if s0_1 < (s0_0.length : Int) then (if 0 ≤ s0_1 then (if (wrap64 (s0_1 + 1)) ≤ (s0_0.length : Int) then (some (wrap64 (rd s0_0 s0_1), wrap64 (s0_1 + 1), IntKind.u64.wrap ((IntKind.u64.wrap ((IntKind.u64.wrap (s0_2 * 6364136223846793005)) + (IntKind.u64.wrap (wrap64 (rd s0_0 s0_1))))) + 1442695040888963407))) else (some (wrap64 (Go.bits .and .u64 ((IntKind.u64.wrap ((IntKind.u64.wrap ((IntKind.u64.wrap (s0_2 * 6364136223846793005)) + (IntKind.u64.wrap (wrap64 (rd s0_0 s0_1))))) + 1442695040888963407)) / 1099511627776) 255), wrap64 (s0_1 + 1), IntKind.u64.wrap ((IntKind.u64.wrap ((IntKind.u64.wrap (s0_2 * 6364136223846793005)) + (IntKind.u64.wrap (wrap64 (rd s0_0 s0_1))))) + 1442695040888963407)))) else (none)) else (if (wrap64 (s0_1 + 1)) ≤ (s0_0.length : Int) then (some (0, wrap64 (s0_1 + 1), IntKind.u64.wrap ((IntKind.u64.wrap ((IntKind.u64.wrap (s0_2 * 6364136223846793005)) + 0)) + 1442695040888963407))) else (some (wrap64 (Go.bits .and .u64 ((IntKind.u64.wrap ((IntKind.u64.wrap ((IntKind.u64.wrap (s0_2 * 6364136223846793005)) + 0)) + 1442695040888963407)) / 1099511627776) 255), wrap64 (s0_1 + 1), IntKind.u64.wrap ((IntKind.u64.wrap ((IntKind.u64.wrap (s0_2 * 6364136223846793005)) + 0)) + 1442695040888963407))))
set_option maxHeartbeats 8000000 in
set_option maxRecDepth 100000 in
theorem spec_l1Cur_next.calls (g : Nat) (s0_0 : List Int) (s0_1 : Int) (s0_2 : Int) (r1 : Int) (r2 : Int) (r3 : Int) (w0 w : World) (hI : IsS114 w0 w g s0_0 s0_1 s0_2) (hB : Below w0.heap.size w0 w) (h : spec_l1Cur_next.f s0_0 s0_1 s0_2 = some (r1, r2, r3)) :
  Calls Try.prog 91 #[.pointer (some ⟨g, 0, none⟩)] w fun e w' => e = .returned (.int .i64 r1) ∧ IsS114 w0 w' g s0_0 r2 r3 ∧ Below w0.heap.size w0 w' ∧ KeepBut w w' g none := by
 have HI0 := Aside0.mk hI
 have HK := Aside0.mk (KeepBut.refl w g none)
 have HL := Aside0.mk hB.size
 clear hI
 have HW0 := Aside0.mk hB.size
 have HB := Aside0.mk hB
 clear hB
 have H : (if s0_1 < (s0_0.length : Int) then (if 0 ≤ s0_1 then (if (wrap64 (s0_1 + 1)) ≤ (s0_0.length : Int) then (some (wrap64 (rd s0_0 s0_1), wrap64 (s0_1 + 1), IntKind.u64.wrap ((IntKind.u64.wrap ((IntKind.u64.wrap (s0_2 * 6364136223846793005)) + (IntKind.u64.wrap (wrap64 (rd s0_0 s0_1))))) + 1442695040888963407))) else (some (wrap64 (Go.bits .and .u64 ((IntKind.u64.wrap ((IntKind.u64.wrap ((IntKind.u64.wrap (s0_2 * 6364136223846793005)) + (IntKind.u64.wrap (wrap64 (rd s0_0 s0_1))))) + 1442695040888963407)) / 1099511627776) 255), wrap64 (s0_1 + 1), IntKind.u64.wrap ((IntKind.u64.wrap ((IntKind.u64.wrap (s0_2 * 6364136223846793005)) + (IntKind.u64.wrap (wrap64 (rd s0_0 s0_1))))) + 1442695040888963407)))) else (none)) else (if (wrap64 (s0_1 + 1)) ≤ (s0_0.length : Int) then (some (0, wrap64 (s0_1 + 1), IntKind.u64.wrap ((IntKind.u64.wrap ((IntKind.u64.wrap (s0_2 * 6364136223846793005)) + 0)) + 1442695040888963407))) else (some (wrap64 (Go.bits .and .u64 ((IntKind.u64.wrap ((IntKind.u64.wrap ((IntKind.u64.wrap (s0_2 * 6364136223846793005)) + 0)) + 1442695040888963407)) / 1099511627776) 255), wrap64 (s0_1 + 1), IntKind.u64.wrap ((IntKind.u64.wrap ((IntKind.u64.wrap (s0_2 * 6364136223846793005)) + 0)) + 1442695040888963407))))) = some (r1, r2, r3) := h
 clear h
 by_cases c2 : s0_1 < (s0_0.length : Int)
 ·rw [if_pos c2] at H
  have c2b0 : decide (s0_1 < (s0_0.length : Int)) = true := decide_eq_true c2
  clear c2
  by_cases c3 : 0 ≤ s0_1
  ·rw [if_pos c3] at H
   have c3b0 : decide (0 ≤ s0_1) = true := decide_eq_true c3
   clear c3
   by_cases c4 : (wrap64 (s0_1 + 1)) ≤ (s0_0.length : Int)
   ·rw [if_pos c4] at H
    have c4b0 : decide ((wrap64 (s0_1 + 1)) ≤ (s0_0.length : Int)) = true := decide_eq_true c4
    clear c4
    simp only [Option.some.injEq, Prod.mk.injEq] at H
    obtain ⟨rfl, rfl, rfl⟩ := H
    obtain ⟨ASz5_0, cSz5_0, HGz5, hgz5, HSz5_0⟩ := HI0.out
    have hcz5_0 := cellS114_0 HGz5
    have hcz5_1 := cellS114_1 HGz5
    have hcz5_2 := cellS114_2 HGz5
    have hfz5_1 := blk_frozen HGz5 1
    have hfz5_2 := blk_frozen HGz5 2
    clear HGz5 hgz5
    have p233 : 0 ≤ (s0_1 : Int) := lD
    have q233 : s0_1 < (s0_0.length : Int) := lD
    obtain ⟨ad233, e233, hx233_0⟩ := Kd.at_int HSz5_0 s0_1 p233 q233
    cases e233
    replace hx233_0 := pw_cell_below HB.out hx233_0
    replace p233 := eq_true p233
    replace q233 := eq_true q233
    go_enter Try.func91, Try.ntmps91
    go_wp2
    repeat (go_quiet (fail); try go_wp2)
    go_ret
    (try simp only [Int.add_zero])
    exact ⟨lE, by repeat (first | (with_reducible first | exact HI0.out | apply IsS114.alloc | apply IsS114.drewN | apply IsS114.drew | apply IsS114.set_1 | apply IsS114.set_2) | exact HI0.out), by repeat (first | (with_reducible first | exact HB.out | apply below_alloc | apply pw_below_drewN | apply below_drew1 | refine below_set ?_ (IsS114.ge HI0.out)) | exact HB.out), by repeat (first | (with_reducible first | exact HK.out | apply KeepBut.set_ | apply keep_drewN | apply keep_drew | apply keep_alloc) | exact HK.out)⟩
   ·rw [if_neg c4] at H
    have c4b0 : decide ((wrap64 (s0_1 + 1)) ≤ (s0_0.length : Int)) = false := decide_eq_false c4
    clear c4
    simp only [Option.some.injEq, Prod.mk.injEq] at H
    obtain ⟨rfl, rfl, rfl⟩ := H
    obtain ⟨ASz6_0, cSz6_0, HGz6, hgz6, HSz6_0⟩ := HI0.out
    have hcz6_0 := cellS114_0 HGz6
    have hcz6_1 := cellS114_1 HGz6
    have hcz6_2 := cellS114_2 HGz6
    have hfz6_1 := blk_frozen HGz6 1
    have hfz6_2 := blk_frozen HGz6 2
    clear HGz6 hgz6
    have p233 : 0 ≤ (s0_1 : Int) := lD
    have q233 : s0_1 < (s0_0.length : Int) := lD
    obtain ⟨ad233, e233, hx233_0⟩ := Kd.at_int HSz6_0 s0_1 p233 q233
    cases e233
    replace hx233_0 := pw_cell_below HB.out hx233_0
    replace p233 := eq_true p233
    replace q233 := eq_true q233
    go_enter Try.func91, Try.ntmps91
    go_wp2
    repeat (go_quiet (fail); try go_wp2)
    go_ret
    (try simp only [Int.add_zero])
    exact ⟨lE, by repeat (first | (with_reducible first | exact HI0.out | apply IsS114.alloc | apply IsS114.drewN | apply IsS114.drew | apply IsS114.set_1 | apply IsS114.set_2) | exact HI0.out), by repeat (first | (with_reducible first | exact HB.out | apply below_alloc | apply pw_below_drewN | apply below_drew1 | refine below_set ?_ (IsS114.ge HI0.out)) | exact HB.out), by repeat (first | (with_reducible first | exact HK.out | apply KeepBut.set_ | apply keep_drewN | apply keep_drew | apply keep_alloc) | exact HK.out)⟩
  ·rw [if_neg c3] at H
   exact absurd H (by simp)
 ·rw [if_neg c2] at H
  have c2b0 : decide (s0_1 < (s0_0.length : Int)) = false := decide_eq_false c2
  clear c2
  by_cases c7 : (wrap64 (s0_1 + 1)) ≤ (s0_0.length : Int)
  ·rw [if_pos c7] at H
   have c7b0 : decide ((wrap64 (s0_1 + 1)) ≤ (s0_0.length : Int)) = true := decide_eq_true c7
   clear c7
   simp only [Option.some.injEq, Prod.mk.injEq] at H
   obtain ⟨rfl, rfl, rfl⟩ := H
   obtain ⟨ASz8_0, cSz8_0, HGz8, hgz8, HSz8_0⟩ := HI0.out
   have hcz8_0 := cellS114_0 HGz8
   have hcz8_1 := cellS114_1 HGz8
   have hcz8_2 := cellS114_2 HGz8
   have hfz8_1 := blk_frozen HGz8 1
   have hfz8_2 := blk_frozen HGz8 2
   clear HGz8 hgz8
   go_enter Try.func91, Try.ntmps91
   go_wp2
   repeat (go_quiet (fail); try go_wp2)
   go_ret
   (try simp only [Int.add_zero])
   exact ⟨lE, by repeat (first | (with_reducible first | exact HI0.out | apply IsS114.alloc | apply IsS114.drewN | apply IsS114.drew | apply IsS114.set_1 | apply IsS114.set_2) | exact HI0.out), by repeat (first | (with_reducible first | exact HB.out | apply below_alloc | apply pw_below_drewN | apply below_drew1 | refine below_set ?_ (IsS114.ge HI0.out)) | exact HB.out), by repeat (first | (with_reducible first | exact HK.out | apply KeepBut.set_ | apply keep_drewN | apply keep_drew | apply keep_alloc) | exact HK.out)⟩
  ·rw [if_neg c7] at H
   have c7b0 : decide ((wrap64 (s0_1 + 1)) ≤ (s0_0.length : Int)) = false := decide_eq_false c7
   clear c7
   simp only [Option.some.injEq, Prod.mk.injEq] at H
   obtain ⟨rfl, rfl, rfl⟩ := H
   obtain ⟨ASz9_0, cSz9_0, HGz9, hgz9, HSz9_0⟩ := HI0.out
   have hcz9_0 := cellS114_0 HGz9
   have hcz9_1 := cellS114_1 HGz9
   have hcz9_2 := cellS114_2 HGz9
   have hfz9_1 := blk_frozen HGz9 1
   have hfz9_2 := blk_frozen HGz9 2
   clear HGz9 hgz9
   go_enter Try.func91, Try.ntmps91
   go_wp2
   repeat (go_quiet (fail); try go_wp2)
   go_ret
   (try simp only [Int.add_zero])
   exact ⟨lE, by repeat (first | (with_reducible first | exact HI0.out | apply IsS114.alloc | apply IsS114.drewN | apply IsS114.drew | apply IsS114.set_1 | apply IsS114.set_2) | exact HI0.out), by repeat (first | (with_reducible first | exact HB.out | apply below_alloc | apply pw_below_drewN | apply below_drew1 | refine below_set ?_ (IsS114.ge HI0.out)) | exact HB.out), by repeat (first | (with_reducible first | exact HK.out | apply KeepBut.set_ | apply keep_drewN | apply keep_drew | apply keep_alloc) | exact HK.out)⟩

/-! ### spec_l1Cur_pick: function 72 -/
def spec_l1Cur_pick.f (s0_0 : List Int) (s0_1 : Int) (s0_2 : Int) (a1 : Int) : Option (Int × Int × Int) := if a1 ≤ 1 then (some (0, s0_1, s0_2)) else ((spec_l1Cur_next.f s0_0 s0_1 s0_2).bind fun bt234 => (if a1 > 200 then ((spec_l1Cur_next.f s0_0 bt234.2.1 bt234.2.2).bind fun bt237 => (if a1 = 0 then (none) else (some (Int.tmod (wrap64 ((wrap64 (bt234.1 * 256)) + bt237.1)) a1, bt237.2.1, bt237.2.2)))) else (if a1 = 0 then (none) else (some (Int.tmod bt234.1 a1, bt234.2.1, bt234.2.2)))))
set_option maxHeartbeats 8000000 in
set_option maxRecDepth 100000 in
theorem spec_l1Cur_pick.calls (g : Nat) (s0_0 : List Int) (s0_1 : Int) (s0_2 : Int) (a1 : Int) (r1 : Int) (r2 : Int) (r3 : Int) (w0 w : World) (hI : IsS114 w0 w g s0_0 s0_1 s0_2) (hB : Below w0.heap.size w0 w) (h : spec_l1Cur_pick.f s0_0 s0_1 s0_2 a1 = some (r1, r2, r3)) :
  Calls Try.prog 72 #[.pointer (some ⟨g, 0, none⟩), .int .i64 a1] w fun e w' => e = .returned (.int .i64 r1) ∧ IsS114 w0 w' g s0_0 r2 r3 ∧ Below w0.heap.size w0 w' ∧ KeepBut w w' g none := by
 have HI0 := Aside0.mk hI
 have HK := Aside0.mk (KeepBut.refl w g none)
 have HL := Aside0.mk hB.size
 clear hI
 have HW0 := Aside0.mk hB.size
 have HB := Aside0.mk hB
 clear hB
 have H : (if a1 ≤ 1 then (some (0, s0_1, s0_2)) else ((spec_l1Cur_next.f s0_0 s0_1 s0_2).bind fun bt234 => (if a1 > 200 then ((spec_l1Cur_next.f s0_0 bt234.2.1 bt234.2.2).bind fun bt237 => (if a1 = 0 then (none) else (some (Int.tmod (wrap64 ((wrap64 (bt234.1 * 256)) + bt237.1)) a1, bt237.2.1, bt237.2.2)))) else (if a1 = 0 then (none) else (some (Int.tmod bt234.1 a1, bt234.2.1, bt234.2.2)))))) = some (r1, r2, r3) := h
 clear h
 by_cases c3 : a1 ≤ 1
 ·rw [if_pos c3] at H
  have c3b0 : decide (a1 ≤ 1) = true := decide_eq_true c3
  clear c3
  simp only [Option.some.injEq, Prod.mk.injEq] at H
  obtain ⟨rfl, rfl, rfl⟩ := H
  go_enter Try.func72, Try.ntmps72
  first | (go_wp2; go_ret; exact ⟨lE, by repeat (first | (with_reducible first | exact HI0.out | apply IsS114.alloc | apply IsS114.drewN | apply IsS114.drew | apply IsS114.set_1 | apply IsS114.set_2) | exact HI0.out), by repeat (first | (with_reducible first | exact HB.out | apply below_alloc | apply pw_below_drewN | apply below_drew1 | refine below_set ?_ (IsS114.ge HI0.out)) | exact HB.out), by repeat (first | (with_reducible first | exact HK.out | apply KeepBut.set_ | apply keep_drewN | apply keep_drew | apply keep_alloc) | exact HK.out)⟩) | (exfalso; simp only [decide_eq_false_iff_not, decide_eq_true_eq] at *; omega)
 ·rw [if_neg c3] at H
  have c3b0 : decide (a1 ≤ 1) = false := decide_eq_false c3
  clear c3
  replace H := Option.bind_eq_some_iff.mp H
  obtain ⟨⟨t234, t235, t236⟩, A40, H⟩ := H
  replace H : (if a1 > 200 then ((spec_l1Cur_next.f s0_0 t235 t236).bind fun bt237 => (if a1 = 0 then (none) else (some (Int.tmod (wrap64 ((wrap64 (t234 * 256)) + bt237.1)) a1, bt237.2.1, bt237.2.2)))) else (if a1 = 0 then (none) else (some (Int.tmod t234 a1, t235, t236)))) = some (r1, r2, r3) := H
  have A4 := Aside0.mk A40
  clear A40
  by_cases c5 : a1 > 200
  ·rw [if_pos c5] at H
   have c5b0 : decide (200 < a1) = true := decide_eq_true c5
   clear c5
   replace H := Option.bind_eq_some_iff.mp H
   obtain ⟨⟨t237, t238, t239⟩, A60, H⟩ := H
   replace H : (if a1 = 0 then (none) else (some (Int.tmod (wrap64 ((wrap64 (t234 * 256)) + t237)) a1, t238, t239))) = some (r1, r2, r3) := H
   have A6 := Aside0.mk A60
   clear A60
   by_cases c7 : a1 = 0
   ·rw [if_pos c7] at H
    exact absurd H (by simp)
   ·rw [if_neg c7] at H
    have c7b0 : (a1 == 0) = false := beq_eq_false_iff_ne.mpr c7
    have c7b1 : (a1 != 0) = true := bne_iff_ne.mpr c7
    simp only [Option.some.injEq, Prod.mk.injEq] at H
    obtain ⟨rfl, rfl, rfl⟩ := H
    go_enter Try.func72, Try.ntmps72
    go_wp2_with (first | ((with_reducible refine gate_callee (f := 91) rfl ?_); refine gl_ (some 9) (Try.func91) #[.pointer (some ⟨g, 0, none⟩)] ?_; (with_reducible refine (spec_l1Cur_next.calls g s0_0 s0_1 s0_2 t234 t235 t236 w0 _ ?side1 ?side2 A4.out).mono ?_); (case side1 => repeat (first | (with_reducible first | exact HI0.out | apply IsS114.alloc | apply IsS114.drewN | apply IsS114.drew | apply IsS114.set_1 | apply IsS114.set_2) | exact HI0.out)); (case side2 => repeat (first | (with_reducible first | exact HB.out | apply below_alloc | apply pw_below_drewN | apply below_drew1 | refine below_set ?_ (IsS114.ge HI0.out)) | exact HB.out)); rintro e w8 ⟨rfl, hi, hb, hk⟩; refine ⟨_, rfl, ?_⟩; have n0_ := Aside0.mk (KeepBut.trans (by repeat (first | (with_reducible first | exact HK.out | apply KeepBut.set_ | apply keep_drewN | apply keep_drew | apply keep_alloc) | exact HK.out)) hk (.inl rfl)); have n1_ := Aside0.mk (hb); have n2_ := Aside0.mk (hi); clear HK; clear HB; clear HI0; have HK := n0_; have HB := n1_; have HI0 := n2_; clear n0_ n1_ n2_; (try clear hb); (try clear hb2); (try clear hk); (try clear hi)) | ((with_reducible refine gate_callee (f := 91) rfl ?_); refine gl_ (some 15) (Try.func91) #[.pointer (some ⟨g, 0, none⟩)] ?_; (with_reducible refine (spec_l1Cur_next.calls g s0_0 t235 t236 t237 t238 t239 w0 _ ?side1 ?side2 A6.out).mono ?_); (case side1 => repeat (first | (with_reducible first | exact HI0.out | apply IsS114.alloc | apply IsS114.drewN | apply IsS114.drew | apply IsS114.set_1 | apply IsS114.set_2) | exact HI0.out)); (case side2 => repeat (first | (with_reducible first | exact HB.out | apply below_alloc | apply pw_below_drewN | apply below_drew1 | refine below_set ?_ (IsS114.ge HI0.out)) | exact HB.out)); rintro e w9 ⟨rfl, hi, hb, hk⟩; refine ⟨_, rfl, ?_⟩; have n0_ := Aside0.mk (KeepBut.trans (by repeat (first | (with_reducible first | exact HK.out | apply KeepBut.set_ | apply keep_drewN | apply keep_drew | apply keep_alloc) | exact HK.out)) hk (.inl rfl)); have n1_ := Aside0.mk (hb); have n2_ := Aside0.mk (hi); clear HK; clear HB; clear HI0; have HK := n0_; have HB := n1_; have HI0 := n2_; clear n0_ n1_ n2_; (try clear hb); (try clear hb2); (try clear hk); (try clear hi)))
    go_ret
    exact ⟨lE, by repeat (first | (with_reducible first | exact HI0.out | apply IsS114.alloc | apply IsS114.drewN | apply IsS114.drew | apply IsS114.set_1 | apply IsS114.set_2) | exact HI0.out), by repeat (first | (with_reducible first | exact HB.out | apply below_alloc | apply pw_below_drewN | apply below_drew1 | refine below_set ?_ (IsS114.ge HI0.out)) | exact HB.out), by repeat (first | (with_reducible first | exact HK.out | apply KeepBut.set_ | apply keep_drewN | apply keep_drew | apply keep_alloc) | exact HK.out)⟩
  ·rw [if_neg c5] at H
   have c5b0 : decide (200 < a1) = false := decide_eq_false c5
   clear c5
   by_cases c10 : a1 = 0
   ·rw [if_pos c10] at H
    exact absurd H (by simp)
   ·rw [if_neg c10] at H
    have c10b0 : (a1 == 0) = false := beq_eq_false_iff_ne.mpr c10
    have c10b1 : (a1 != 0) = true := bne_iff_ne.mpr c10
    simp only [Option.some.injEq, Prod.mk.injEq] at H
    obtain ⟨rfl, rfl, rfl⟩ := H
    go_enter Try.func72, Try.ntmps72
    go_wp2_with (first | ((with_reducible refine gate_callee (f := 91) rfl ?_); refine gl_ (some 9) (Try.func91) #[.pointer (some ⟨g, 0, none⟩)] ?_; (with_reducible refine (spec_l1Cur_next.calls g s0_0 s0_1 s0_2 t234 t235 t236 w0 _ ?side1 ?side2 A4.out).mono ?_); (case side1 => repeat (first | (with_reducible first | exact HI0.out | apply IsS114.alloc | apply IsS114.drewN | apply IsS114.drew | apply IsS114.set_1 | apply IsS114.set_2) | exact HI0.out)); (case side2 => repeat (first | (with_reducible first | exact HB.out | apply below_alloc | apply pw_below_drewN | apply below_drew1 | refine below_set ?_ (IsS114.ge HI0.out)) | exact HB.out)); rintro e w11 ⟨rfl, hi, hb, hk⟩; refine ⟨_, rfl, ?_⟩; have n0_ := Aside0.mk (KeepBut.trans (by repeat (first | (with_reducible first | exact HK.out | apply KeepBut.set_ | apply keep_drewN | apply keep_drew | apply keep_alloc) | exact HK.out)) hk (.inl rfl)); have n1_ := Aside0.mk (hb); have n2_ := Aside0.mk (hi); clear HK; clear HB; clear HI0; have HK := n0_; have HB := n1_; have HI0 := n2_; clear n0_ n1_ n2_; (try clear hb); (try clear hb2); (try clear hk); (try clear hi)))
    go_ret
    exact ⟨lE, by repeat (first | (with_reducible first | exact HI0.out | apply IsS114.alloc | apply IsS114.drewN | apply IsS114.drew | apply IsS114.set_1 | apply IsS114.set_2) | exact HI0.out), by repeat (first | (with_reducible first | exact HB.out | apply below_alloc | apply pw_below_drewN | apply below_drew1 | refine below_set ?_ (IsS114.ge HI0.out)) | exact HB.out), by repeat (first | (with_reducible first | exact HK.out | apply KeepBut.set_ | apply keep_drewN | apply keep_drew | apply keep_alloc) | exact HK.out)⟩

/-! ### spec_l1Cur_one: function 90 -/
def spec_l1Cur_one.f (s0_0 : List Int) (s0_1 : Int) (s0_2 : Int) (a1 : Int) : Option (Bool × Int × Int) := (spec_l1Cur_pick.f s0_0 s0_1 s0_2 a1).bind fun bt240 => (some ((bt240.1 == 0), bt240.2.1, bt240.2.2))
set_option maxHeartbeats 8000000 in
set_option maxRecDepth 100000 in
theorem spec_l1Cur_one.calls (g : Nat) (s0_0 : List Int) (s0_1 : Int) (s0_2 : Int) (a1 : Int) (r1 : Bool) (r2 : Int) (r3 : Int) (w0 w : World) (hI : IsS114 w0 w g s0_0 s0_1 s0_2) (hB : Below w0.heap.size w0 w) (h : spec_l1Cur_one.f s0_0 s0_1 s0_2 a1 = some (r1, r2, r3)) :
  Calls Try.prog 90 #[.pointer (some ⟨g, 0, none⟩), .int .i64 a1] w fun e w' => e = .returned (.bool r1) ∧ IsS114 w0 w' g s0_0 r2 r3 ∧ Below w0.heap.size w0 w' ∧ KeepBut w w' g none := by
 have HI0 := Aside0.mk hI
 have HK := Aside0.mk (KeepBut.refl w g none)
 have HL := Aside0.mk hB.size
 clear hI
 have HW0 := Aside0.mk hB.size
 have HB := Aside0.mk hB
 clear hB
 have H : ((spec_l1Cur_pick.f s0_0 s0_1 s0_2 a1).bind fun bt240 => (some ((bt240.1 == 0), bt240.2.1, bt240.2.2))) = some (r1, r2, r3) := h
 clear h
 replace H := Option.bind_eq_some_iff.mp H
 obtain ⟨⟨t240, t241, t242⟩, A30, H⟩ := H
 replace H : (some ((t240 == 0), t241, t242)) = some (r1, r2, r3) := H
 have A3 := Aside0.mk A30
 clear A30
 simp only [Option.some.injEq, Prod.mk.injEq] at H
 obtain ⟨rfl, rfl, rfl⟩ := H
 go_enter Try.func90, Try.ntmps90
 go_wp2_with (first | ((with_reducible refine gate_callee (f := 72) rfl ?_); refine gl_ (some 7) (Try.func72) #[.pointer (some ⟨g, 0, none⟩), .int .i64 a1] ?_; (with_reducible refine (spec_l1Cur_pick.calls g s0_0 s0_1 s0_2 a1 t240 t241 t242 w0 _ ?side1 ?side2 A3.out).mono ?_); (case side1 => repeat (first | (with_reducible first | exact HI0.out | apply IsS114.alloc | apply IsS114.drewN | apply IsS114.drew | apply IsS114.set_1 | apply IsS114.set_2) | exact HI0.out)); (case side2 => repeat (first | (with_reducible first | exact HB.out | apply below_alloc | apply pw_below_drewN | apply below_drew1 | refine below_set ?_ (IsS114.ge HI0.out)) | exact HB.out)); rintro e w4 ⟨rfl, hi, hb, hk⟩; refine ⟨_, rfl, ?_⟩; have n0_ := Aside0.mk (KeepBut.trans (by repeat (first | (with_reducible first | exact HK.out | apply KeepBut.set_ | apply keep_drewN | apply keep_drew | apply keep_alloc) | exact HK.out)) hk (.inl rfl)); have n1_ := Aside0.mk (hb); have n2_ := Aside0.mk (hi); clear HK; clear HB; clear HI0; have HK := n0_; have HB := n1_; have HI0 := n2_; clear n0_ n1_ n2_; (try clear hb); (try clear hb2); (try clear hk); (try clear hi)))
 go_ret
 exact ⟨lE, by repeat (first | (with_reducible first | exact HI0.out | apply IsS114.alloc | apply IsS114.drewN | apply IsS114.drew | apply IsS114.set_1 | apply IsS114.set_2) | exact HI0.out), by repeat (first | (with_reducible first | exact HB.out | apply below_alloc | apply pw_below_drewN | apply below_drew1 | refine below_set ?_ (IsS114.ge HI0.out)) | exact HB.out), by repeat (first | (with_reducible first | exact HK.out | apply KeepBut.set_ | apply keep_drewN | apply keep_drew | apply keep_alloc) | exact HK.out)⟩

/-! ### spec_l16Flat: function 94 -/
theorem Fl.info76 : (Try.prog.info? 76).map (fun i => (i.zero, i.size, i.bytes)) = some (some (.agg #[.int .i64 0, .int .i64 0]), 2, 16) := by kernel_rfl
theorem Fl.add0 (a : Addr) : a.add 0 = a := by unfold Addr.add; rw [if_pos rfl]
mutual
/-- The cells of a tree. -/
def Fl.flat : S72 → List S76
  | ⟨k, n, ts⟩ => ⟨k, n⟩ :: Fl.flats ts
def Fl.flats : List S72 → List S76
  | [] => []
  | t :: ts => Fl.flat t ++ Fl.flats ts
end
theorem Fl.flats_take : ∀ (ts : List S72) (i : Nat) (t : S72), ts[i]? = some t → Fl.flats (ts.take (i + 1)) = Fl.flats (ts.take i) ++ Fl.flat t
  | [], i, t, h => by simp at h
  | x :: xs, 0, t, h => by
    simp only [List.getElem?_cons_zero, Option.some.injEq] at h
    subst h
    simp [Fl.flats]
  | x :: xs, i + 1, t, h => by
    simp only [List.getElem?_cons_succ] at h
    rw [List.take_succ_cons, List.take_succ_cons]
    simp only [Fl.flats]
    rw [Fl.flats_take xs i t h, List.append_assoc]
theorem Fl.flats_app : ∀ (xs ys : List S72), Fl.flats (xs ++ ys) = Fl.flats xs ++ Fl.flats ys
  | [], ys => by simp [Fl.flats]
  | x :: xs, ys => by simp [Fl.flats, Fl.flats_app xs ys]
def spec_l16Flat.f (a0_0 a0_1 : Int) (l0_2 : List S72) (l1 : List S76) : Option (List S76) := if l1.length + (Fl.flat ⟨a0_0, a0_1, l0_2⟩).length ≤ 1000000000 then some (l1 ++ Fl.flat ⟨a0_0, a0_1, l0_2⟩) else none
def Fl.Post (P : Nat → Prop) (w0 w : World) (r : List S76) (e : Ending) (w' : World) : Prop := ∃ v0_ : Value, e = .returned v0_ ∧ Kd.R k76 76 w' w0.heap.size (fun k_ => (P k_ ∨ w.heap.size ≤ k_)) v0_ r ∧ Below w0.heap.size w0 w' ∧ Kept w w' (fun k_ => P k_)
/-- A kid's cells lie where nothing is written. -/
theorem Fl.kid {w : World} {P : Nat → Prop} {A : Option Addr} {xs : List S72} (hr : ∀ W_, Kept w W_ (fun k_ => P k_) → Kd.C k72 W_ A xs.length xs) {i : Nat} {t : S72} (ht : xs[i]? = some t) :
    ∃ ad A2 c2, A = some ad ∧ t.f2.length ≤ c2 ∧ (∀ W_, Kept w W_ (fun k_ => P k_) → W_.cell? (ad.add (i * 3)) = some (.int .i64 t.f0) ∧ W_.cell? ⟨(ad.add (i * 3)).block, (ad.add (i * 3)).off + 1, none⟩ = some (.int .i64 t.f1) ∧ W_.cell? ⟨(ad.add (i * 3)).block, (ad.add (i * 3)).off + 2, none⟩ = some (.slice A2 t.f2.length c2) ∧ Kd.C k72 W_ A2 t.f2.length t.f2) := by
  have hil : i < xs.length := (List.getElem?_eq_some_iff.1 ht).1
  have e2 : rd_T72 xs (i : Int) = t := by unfold rd_T72; rw [Int.toNat_natCast, List.getD, ht]; rfl
  obtain ⟨ad, A2, c2, e1, h1, h2, h3, h4, h5⟩ := at_T72 (hr w (Kept.refl _ _)) (i : Int) (by omega) (by omega)
  rw [e2, Int.toNat_natCast] at h3
  rw [e2] at h4
  refine ⟨ad, A2, c2, e1, h4, fun W_ hW => ?_⟩
  obtain ⟨ad', A2', c2', e1', h1', h2', h3', h4', h5'⟩ := at_T72 (hr W_ hW) (i : Int) (by omega) (by omega)
  rw [e1] at e1'
  obtain rfl := Option.some.inj e1'
  rw [e2, Int.toNat_natCast] at h1' h2' h3'
  rw [e2] at h5'
  have hb : (ad.add (i * 3)).block < w.heap.size := by
    cases hh : w.heap[(ad.add (i * 3)).block]? with
    | none =>
      have : w.cell? ⟨(ad.add (i * 3)).block, (ad.add (i * 3)).off + 2, none⟩ = none := by simp [World.cell?, hh]
      rw [this] at h3; cases h3
    | some o => exact blk_lt hh
  have hP : ¬ P (ad.add (i * 3)).block := by
    intro hp
    have hK : Kept w (w.setCell ⟨(ad.add (i * 3)).block, (ad.add (i * 3)).off + 2, none⟩ (.bool true)) (fun k_ => P k_) := (Kept.refl w (fun k_ => P k_)).setCell (p := ⟨(ad.add (i * 3)).block, (ad.add (i * 3)).off + 2, none⟩) (.inl hp) _
    obtain ⟨ad'', A3, c3, e1'', _, _, h3'', _, _⟩ := at_T72 (hr _ hK) (i : Int) (by omega) (by omega)
    rw [e1] at e1''
    obtain rfl := Option.some.inj e1''
    rw [Int.toNat_natCast, World.cell?_setCell_same _ _ _ h3] at h3''
    cases h3''
  have hc : W_.cell? ⟨(ad.add (i * 3)).block, (ad.add (i * 3)).off + 2, none⟩ = w.cell? ⟨(ad.add (i * 3)).block, (ad.add (i * 3)).off + 2, none⟩ := World.cell?_of_block (hW.2 _ hb hP)
  rw [hc, h3] at h3'
  injection h3' with h3'
  injection h3' with h6 h7 h8
  subst h6
  exact ⟨h1', h2', hc.trans h3, h5'⟩
set_option maxHeartbeats 8000000 in
set_option maxRecDepth 100000 in
theorem Fl.ok : ∀ (N : Nat) (t : S72), SizeOf.sizeOf t ≤ N → ∀ (P : Nat → Prop) (A : Option Addr) (c : Nat) (v : Value) (l1 : List S76) (w0 w : World), Below w0.heap.size w0 w → (∀ W_, Kept w W_ (fun k_ => P k_) → Kd.C k72 W_ A t.f2.length t.f2) → Kd.R k76 76 w w0.heap.size P v l1 → l1.length + (Fl.flat t).length ≤ 1000000000 →
    Calls Try.prog 94 #[.agg #[.int .i64 t.f0, .int .i64 t.f1, .slice A t.f2.length c], v] w (Fl.Post P w0 w (l1 ++ Fl.flat t)) := by
 intro N
 induction N with
 | zero => intro t ht; cases t; simp at ht
 | succ N ih =>
 intro t hN P A c v l1 w0 w hB hr hR hlen
 obtain ⟨kd, n, ks⟩ := t
 simp only at hr ⊢
 have hu25 := Try.underlying25
 have hu72 := Try.underlying72
 have hu76 := Try.underlying76
 have hu70 := Try.underlying70
 have HR := Aside0.mk hr
 have HO := Aside0.mk (show Kd.R k76 76 w w0.heap.size (fun k_ => (P k_ ∨ w.heap.size ≤ k_)) v l1 from Kd.R_mono hR (fun _ hk => .inl hk))
 have HB := Aside0.mk hB
 have HK := Aside0.mk (Kept.refl w (fun k_ => P k_))
 have HL := Aside0.mk hlen
 have HW0 := Aside0.mk hB.size
 clear hr hR hB hlen
 have hfl : Fl.flat ⟨kd, n, ks⟩ = ⟨kd, n⟩ :: Fl.flats ks := by unfold Fl.flat; rfl
 have hmx : ks.length ≤ 9223372036854775807 := Kd.C_max (HR.out w (Kept.refl _ _))
 obtain ⟨Av, cv, ev⟩ := Kd.R_slice HO.out
 subst ev
 go_enter Try.func94, Try.ntmps94
 go_upto_region 2 with (first | ((with_reducible refine gate_dst (N := 2) rfl ?_); refine bxe 2 #[.int .i64 kd, .int .i64 n, .slice A ks.length c] 72 ?_; intro gt hg w4 hbox hb; have n0_ := Aside0.mk hbox; have n1_ := Aside0.mk (Kd.R_below HO.out hb); have n2_ : Aside0 (Below w0.heap.size w0 w4) := ⟨HB.out.trans (hb.mono HW0.out)⟩; have n3_ := Aside0.mk (HK.out.below hb); have n4_ := Aside0.mk (show w.heap.size ≤ gt from Nat.le_of_eq hg.symm); clear HO HB HK hbox hb hg; have BK := n0_; have HO := n1_; have HB := n2_; have HK := n3_; have GE := n4_; clear n0_ n1_ n2_ n3_ n4_; obtain ⟨hcz0, hfz0, hcz1, hfz1, hcz2, hfz2⟩ := bk3 BK.out) | ((with_reducible refine gate_builtin (b := .append) (xs := #[.tmp 7, .tmp 13]) rfl ?_); at_builtin; refine Kd.R_append k76 (w0 := w0) w0.heap.size rfl (.tmp 7) (.tmp 13) 25 76 (.agg #[.int .i64 0, .int .i64 0]) 16 rfl Try.underlying25 Fl.info76 rfl (by decide) (by omega) (.slice Av l1.length cv) l1 (⟨kd, n⟩ : S76) [.int .i64 kd, .int .i64 n] (fun k_ => (P k_ ∨ w.heap.size ≤ k_)) (fun _ => False) rfl (by first | (go_simp; done) | (go_simp; rfl)) ?aP (fun _ hk => hk.elim) (fun k hk => .inr (Nat.le_trans HK.out.1 hk)) ?aO ?aB ?aS ?aL ?_; (case aP => exact k76_mkM _ _ _ (⟨kd, n⟩ : S76)); (case aO => exact HO.out); (case aB => exact HB.out); (case aS => exact Nat.le_trans HW0.out HK.out.1); (case aL => have h_ := HL.out; rw [hfl] at h_; simp only [List.length_cons] at h_; omega); intro v6 w6 ho hb hg hat; have n0_ := Aside0.mk (blk_grown BK.out hg (Kd.R_ne HO.out BK.out (by decide))); have n1_ := Aside0.mk (Kept.of_grown hg HK.out (fun k e => HO.out.1 k e)); have n2_ := Aside0.mk ho; have n3_ := Aside0.mk hb; clear BK HK HO HB ho hb hg hat hcz0 hfz0 hcz1 hfz1 hcz2 hfz2; have BK := n0_; have HK := n1_; have HO := n2_; have HB := n3_; clear n0_ n1_ n2_ n3_; obtain ⟨hcz0, hfz0, hcz1, hfz1, hcz2, hfz2⟩ := bk3 BK.out))
 go_wp2
 go_loopg [1, 18] (ks.length + 1) (fun j v1 v18 wr => ∃ (i q : Nat), v18 = .int .i64 (i : Int) ∧ j = q + 1 ∧ i + q = ks.length ∧ Aside0 (Kd.R k76 76 wr w0.heap.size (fun k_ => (P k_ ∨ w.heap.size ≤ k_)) v1 (l1 ++ ⟨kd, n⟩ :: Fl.flats (ks.take i))) ∧ Aside0 (Below w0.heap.size w0 wr) ∧ Aside0 (Kept w wr (fun k_ => P k_)) ∧ Aside0 (wr.heap[gt]? = some (.cells #[.int .i64 kd, .int .i64 n, .slice A ks.length c] 72 (0, 0))))
 case atStart => exact ⟨0, ks.length, rfl, rfl, by omega, HO, HB, HK, BK⟩
 case round =>
  clear HO HB HK BK hcz0 hfz0 hcz1 hfz1 hcz2 hfz2
  obtain ⟨i, q, rfl, rfl, hiq, HO, HB, HK, BK⟩ := hrel
  cases q with
  | zero =>
   have hd1 : decide ((i : Int) < (ks.length : Int)) = false := decide_eq_false (by omega)
   go_wp2
   go_ret
   refine ⟨_, lE, ?_, HB.out, HK.out⟩
   rw [hfl]
   have h_ := HO.out
   rw [List.take_of_length_le (by omega)] at h_
   exact h_
  | succ q =>
   have hil : i < ks.length := by omega
   obtain ⟨t, ht⟩ : ∃ t, ks[i]? = some t := ⟨ks[i], List.getElem?_eq_getElem hil⟩
   obtain ⟨ad, A2, c2, eA, hc2, hkid⟩ := Fl.kid HR.out ht
   subst eA
   obtain ⟨h1, h2, h3, _⟩ := hkid wr HK.out
   have hd1 : decide ((i : Int) < (ks.length : Int)) = true := decide_eq_true (by omega)
   have hi0 : ((0 : Int) ≤ (i : Int)) = True := eq_true (by omega)
   have hi1 : ((i : Int) < (ks.length : Int)) = True := eq_true (by omega)
   have htn : (i : Int).toNat = i := Int.toNat_natCast i
   go_upto_region 5 with (first | ((with_reducible refine gate_dst (N := 6) rfl ?_); refine bxe 6 #[.int .i64 0, .int .i64 0, .slice none 0 0] 72 ?_; intro gk hg w7 hbox hb; have n0_ := Aside0.mk hbox; have n1_ := Aside0.mk (Kd.R_below HO.out hb); have n2_ : Aside0 (Below w0.heap.size w0 w7) := ⟨HB.out.trans (hb.mono HB.out.size)⟩; have n3_ := Aside0.mk (HK.out.below hb); have n4_ := Aside0.mk (show w.heap.size ≤ gk from by rw [hg]; exact HK.out.1); have n5_ := Aside0.mk (blk_below BK.out hb); have HNE := Aside0.mk (show gt ≠ gk from Nat.ne_of_lt (by rw [hg]; exact blk_lt BK.out)); clear HO HB HK BK hbox hb hg; have BX := n0_; have HO := n1_; have HB := n2_; have HK := n3_; have GX := n4_; have BK := n5_; clear n0_ n1_ n2_ n3_ n4_ n5_; obtain ⟨hbz0, hbf0, hbz1, hbf1, hbz2, hbf2⟩ := bk3 BX.out))
   have b0_ := Aside0.mk (blk_put (cs := #[.int .i64 0, .int .i64 0, .slice none 0 0]) BX.out 0 (.int .i64 t.f0) rfl)
   have b1_ := Aside0.mk (blk_put (cs := #[.int .i64 t.f0, .int .i64 0, .slice none 0 0]) b0_.out 1 (.int .i64 t.f1) rfl)
   have n0_ : Aside0 ((((w7.setCell ⟨gk, 0, none⟩ (.int .i64 t.f0)).setCell ⟨gk, 1, none⟩ (.int .i64 t.f1)).setCell ⟨gk, 2, none⟩ (.slice A2 t.f2.length c2)).heap[gk]? = some (.cells #[.int .i64 t.f0, .int .i64 t.f1, .slice A2 t.f2.length c2] 72 (0, 0))) := ⟨blk_put (cs := #[.int .i64 t.f0, .int .i64 t.f1, .slice none 0 0]) b1_.out 2 _ rfl⟩
   have n1_ := Aside0.mk (Kd.R_set (Kd.R_set (Kd.R_set HO.out BX.out (by decide) 0 (.int .i64 t.f0)) b0_.out (by decide) 1 (.int .i64 t.f1)) b1_.out (by decide) 2 (.slice A2 t.f2.length c2))
   have hgk : w0.heap.size ≤ gk := Nat.le_trans HW0.out GX.out
   have n2_ : Aside0 (Below w0.heap.size w0 (((w7.setCell ⟨gk, 0, none⟩ (.int .i64 t.f0)).setCell ⟨gk, 1, none⟩ (.int .i64 t.f1)).setCell ⟨gk, 2, none⟩ (.slice A2 t.f2.length c2))) := ⟨below_set (below_set (below_set HB.out hgk) hgk) hgk⟩
   have n3_ : Aside0 (Kept w (((w7.setCell ⟨gk, 0, none⟩ (.int .i64 t.f0)).setCell ⟨gk, 1, none⟩ (.int .i64 t.f1)).setCell ⟨gk, 2, none⟩ (.slice A2 t.f2.length c2)) (fun k_ => P k_)) := ⟨((HK.out.setCell (p := ⟨gk, 0, none⟩) (.inr GX.out) _).setCell (p := ⟨gk, 1, none⟩) (.inr GX.out) _).setCell (p := ⟨gk, 2, none⟩) (.inr GX.out) _⟩
   have n4_ : Aside0 ((((w7.setCell ⟨gk, 0, none⟩ (.int .i64 t.f0)).setCell ⟨gk, 1, none⟩ (.int .i64 t.f1)).setCell ⟨gk, 2, none⟩ (.slice A2 t.f2.length c2)).heap[gt]? = some (.cells #[.int .i64 kd, .int .i64 n, .slice (some ad) ks.length c] 72 (0, 0))) := ⟨blk_far (blk_far (blk_far BK.out (p := ⟨gk, 0, none⟩) HNE.out _) (p := ⟨gk, 1, none⟩) HNE.out _) (p := ⟨gk, 2, none⟩) HNE.out _⟩
   clear BX HO HB HK BK b0_ b1_ hbz0 hbf0 hbz1 hbf1 hbz2 hbf2 h1 h2 h3
   generalize ((w7.setCell ⟨gk, 0, none⟩ (.int .i64 t.f0)).setCell ⟨gk, 1, none⟩ (.int .i64 t.f1)).setCell ⟨gk, 2, none⟩ (.slice A2 t.f2.length c2) = w8 at n0_ n1_ n2_ n3_ n4_ ⊢
   have BX := n0_
   have HO := n1_
   have HB := n2_
   have HK := n3_
   have BK := n4_
   clear n0_ n1_ n2_ n3_ n4_
   obtain ⟨hbz0, hbf0, hbz1, hbf1, hbz2, hbf2⟩ := bk3 BX.out
   have hsz : SizeOf.sizeOf t ≤ N := by
    have h1 := List.sizeOf_lt_of_mem (List.mem_of_getElem? ht)
    have h2 : SizeOf.sizeOf ks < SizeOf.sizeOf (⟨kd, n, ks⟩ : S72) := by simp only [S72.mk.sizeOf_spec]; omega
    omega
   have hft := Fl.flats_take ks i t ht
   have hlt : (l1 ++ ⟨kd, n⟩ :: Fl.flats (ks.take i)).length + (Fl.flat t).length ≤ 1000000000 := by
    have h_ := HL.out
    rw [hfl] at h_
    have e_ : Fl.flats ks = Fl.flats (ks.take (i + 1)) ++ Fl.flats (ks.drop (i + 1)) := by rw [← Fl.flats_app, List.take_append_drop]
    rw [e_, hft] at h_
    simp only [List.length_append, List.length_cons] at h_ ⊢
    omega
   have HC := Aside0.mk (ih t hsz (fun k_ => (P k_ ∨ w.heap.size ≤ k_) ∧ k_ ≠ gt) A2 c2 _ _ w0 w8 HB.out (fun W_ hW => (hkid W_ (HK.out.then_ hW (fun k hk => hk.1))).2.2.2) (Kd.R_types HO.out BK.out (by decide)) hlt)
   go_wp2_with (first | (go_at_call 94; (with_reducible refine HC.out.mono ?_); rintro e w9 ⟨v9, rfl, ho, hb, hk⟩; have n1_ := Aside0.mk (show Kd.R k76 76 w9 w0.heap.size (fun k_ => (P k_ ∨ w.heap.size ≤ k_)) v9 (l1 ++ ⟨kd, n⟩ :: Fl.flats (ks.take (i + 1))) from by rw [hft]; have h_ := Kd.R_mono ho (ok' := fun k_ => (P k_ ∨ w.heap.size ≤ k_)) (fun k hk_ => hk_.elim (fun z => z.1) (fun z => .inr (Nat.le_trans HK.out.1 z))); rw [List.append_assoc, List.cons_append] at h_; exact h_); have n2_ := Aside0.mk hb; have n3_ := Aside0.mk (HK.out.then_ hk (fun k hk_ => hk_.1)); have n4_ := Aside0.mk ((hk.2 gt (blk_lt BK.out) (fun h_ => h_.2 rfl)).trans BK.out); clear HO HB HK BK BX HC hbz0 hbf0 hbz1 hbf1 hbz2 hbf2 ho hb hk; have HO := n1_; have HB := n2_; have HK := n3_; have BK := n4_; clear n1_ n2_ n3_ n4_))
   go_roundg (q + 1)
   case measure => omega
   case rel => exact ⟨i + 1, q, by go_num, rfl, by omega, HO, HB, HK, BK⟩
theorem spec_l16Flat.calls (a0_0 : Int) (a0_1 : Int) (A0_2 : Option Addr) (c0_2 : Nat) (l0_2 : List S72) (P1_ : Nat → Prop) (u9001_ : Value) (l1 : List S76) (r : List S76) (w0 w : World) (hB : Below w0.heap.size w0 w) (hr0_2 : ∀ W_, Kept w W_ (fun k_ => P1_ k_) → Kd.C k72 W_ A0_2 l0_2.length l0_2) (hc0_2 : l0_2.length ≤ c0_2) (ho1 : Kd.R k76 76 w w0.heap.size P1_ u9001_ l1) (h : spec_l16Flat.f a0_0 a0_1 l0_2 l1 = some r) :
    Calls Try.prog 94 #[.agg #[.int .i64 a0_0, .int .i64 a0_1, .slice A0_2 l0_2.length c0_2], u9001_] w fun e w' => ∃ v0_ : Value, e = .returned v0_ ∧ Kd.R k76 76 w' w0.heap.size (fun k_ => (P1_ k_ ∨ w.heap.size ≤ k_)) v0_ r ∧ Below w0.heap.size w0 w' ∧ Kept w w' (fun k_ => P1_ k_) := by
 unfold spec_l16Flat.f at h
 split at h
 ·rename_i hl
  obtain rfl := Option.some.inj h
  exact Fl.ok _ ⟨a0_0, a0_1, l0_2⟩ (Nat.le_refl _) P1_ A0_2 c0_2 u9001_ l1 w0 w hB hr0_2 ho1 hl
 ·cases h


/-! ### spec_l1Cur_among: function 73 -/
def spec_l1Cur_among.f (s0_0 : List Int) (s0_1 : Int) (s0_2 : Int) (l1 : List Int) : Option (Int × Int × Int) := (spec_l1Cur_pick.f s0_0 s0_1 s0_2 (l1.length : Int)).bind fun bt243 => (if 0 ≤ bt243.1 then (if bt243.1 < (l1.length : Int) then (some (rd l1 bt243.1, bt243.2.1, bt243.2.2)) else (none)) else (none))
set_option maxHeartbeats 8000000 in
set_option maxRecDepth 100000 in
theorem spec_l1Cur_among.calls (g : Nat) (s0_0 : List Int) (s0_1 : Int) (s0_2 : Int) (A1 : Option Addr) (c1 : Nat) (l1 : List Int) (r1 : Int) (r2 : Int) (r3 : Int) (w0 w : World) (hI : IsS114 w0 w g s0_0 s0_1 s0_2) (hB : Below w0.heap.size w0 w) (hr1 : Kd.C (Kd.int .i64) w A1 l1.length l1) (hc1 : l1.length ≤ c1) (hf1 : ∀ ad, A1 = some ad → 0 < l1.length → ad.block ≠ g) (h : spec_l1Cur_among.f s0_0 s0_1 s0_2 l1 = some (r1, r2, r3)) :
  Calls Try.prog 73 #[.pointer (some ⟨g, 0, none⟩), .slice A1 l1.length c1] w fun e w' => e = .returned (.int .i64 r1) ∧ IsS114 w0 w' g s0_0 r2 r3 ∧ Below w0.heap.size w0 w' ∧ KeepBut w w' g none := by
 have HR1 := Aside0.mk hr1
 have HC1 := Aside0.mk hc1
 clear hr1 hc1
 have HI0 := Aside0.mk hI
 have HK := Aside0.mk (KeepBut.refl w g none)
 have HL := Aside0.mk hB.size
 clear hI
 have HW0 := Aside0.mk hB.size
 have HB := Aside0.mk hB
 clear hB
 have H : ((spec_l1Cur_pick.f s0_0 s0_1 s0_2 (l1.length : Int)).bind fun bt243 => (if 0 ≤ bt243.1 then (if bt243.1 < (l1.length : Int) then (some (rd l1 bt243.1, bt243.2.1, bt243.2.2)) else (none)) else (none))) = some (r1, r2, r3) := h
 clear h
 replace H := Option.bind_eq_some_iff.mp H
 obtain ⟨⟨t243, t244, t245⟩, A30, H⟩ := H
 replace H : (if 0 ≤ t243 then (if t243 < (l1.length : Int) then (some (rd l1 t243, t244, t245)) else (none)) else (none)) = some (r1, r2, r3) := H
 have A3 := Aside0.mk A30
 clear A30
 by_cases c4 : 0 ≤ t243
 ·rw [if_pos c4] at H
  have c4b0 : decide (0 ≤ t243) = true := decide_eq_true c4
  clear c4
  by_cases c5 : t243 < (l1.length : Int)
  ·rw [if_pos c5] at H
   have c5b0 : decide (t243 < (l1.length : Int)) = true := decide_eq_true c5
   clear c5
   simp only [Option.some.injEq, Prod.mk.injEq] at H
   obtain ⟨rfl, rfl, rfl⟩ := H
   go_enter Try.func73, Try.ntmps73
   go_wp2_with (first | ((with_reducible refine gate_callee (f := 72) rfl ?_); refine gl_ (some 9) (Try.func72) #[.pointer (some ⟨g, 0, none⟩), .int .i64 (l1.length : Int)] ?_; (with_reducible refine (spec_l1Cur_pick.calls g s0_0 s0_1 s0_2 (l1.length : Int) t243 t244 t245 w0 _ ?side1 ?side2 A3.out).mono ?_); (case side1 => repeat (first | (with_reducible first | exact HI0.out | apply IsS114.alloc | apply IsS114.drewN | apply IsS114.drew | apply IsS114.set_1 | apply IsS114.set_2) | exact HI0.out)); (case side2 => repeat (first | (with_reducible first | exact HB.out | apply below_alloc | apply pw_below_drewN | apply below_drew1 | refine below_set ?_ (IsS114.ge HI0.out)) | exact HB.out)); rintro e w6 ⟨rfl, hi, hb, hk⟩; refine ⟨_, rfl, ?_⟩; have n0_ := Aside0.mk (KeepBut.trans (by repeat (first | (with_reducible first | exact HK.out | apply KeepBut.set_ | apply keep_drewN | apply keep_drew | apply keep_alloc) | exact HK.out)) hk (.inl rfl)); have n1_ := Aside0.mk (hb); have n2_ := Aside0.mk (hi); clear HK; clear HB; clear HI0; have HK := n0_; have HB := n1_; have HI0 := n2_; clear n0_ n1_ n2_; (try clear hb); (try clear hb2); (try clear hk); (try clear hi); have p246 : 0 ≤ (t243 : Int) := lD; have q246 : t243 < (l1.length : Int) := lD; obtain ⟨ad246, e246, hx246_0⟩ := Kd.at_int HR1.out t243 p246 q246; cases e246; replace hx246_0 := keep_cell HK.out hx246_0 (by first | (rw [add_block]; exact hf1 _ rfl (by omega)) | exact hf1 _ rfl (by omega) | exact hf1 ad246 rfl (by omega)); replace p246 := eq_true p246; replace q246 := eq_true q246))
   go_ret
   exact ⟨lE, by repeat (first | (with_reducible first | exact HI0.out | apply IsS114.alloc | apply IsS114.drewN | apply IsS114.drew | apply IsS114.set_1 | apply IsS114.set_2) | exact HI0.out), by repeat (first | (with_reducible first | exact HB.out | apply below_alloc | apply pw_below_drewN | apply below_drew1 | refine below_set ?_ (IsS114.ge HI0.out)) | exact HB.out), by repeat (first | (with_reducible first | exact HK.out | apply KeepBut.set_ | apply keep_drewN | apply keep_drew | apply keep_alloc) | exact HK.out)⟩
  ·rw [if_neg c5] at H
   exact absurd H (by simp)
 ·rw [if_neg c4] at H
  exact absurd H (by simp)

end Go.Proofs.Ytgjojppbichaiaa.Q
