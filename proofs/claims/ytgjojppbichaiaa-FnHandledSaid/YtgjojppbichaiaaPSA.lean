/- A line laid of a tree tells and raises what the tree does: plain Lean. Conditions: none. -/


namespace Go.Proofs.Ytgjojppbichaiaa.Pure
inductive XT where
  | out (n : Int)
  | rai (n : Int)
  | seq (a b : XT)
  | cat (n : Int) (a b : XT)
  | fin (a b : XT)
  | loop (n : Nat) (a : XT)

structure St where
  op : Int
  n : Int
  to : Int

structure Gd where
  frm : Int
  to : Int
  kind : Int
  at_ : Int

/-- A tree lies in a line from a to b, its guards from g0 to g1, its loops' registers from l0 to l1. -/
def Laid (S : List St) (G : List Gd) : XT → (a b g0 g1 l0 l1 : Nat) → Prop
  | .out n, a, b, g0, g1, l0, l1 => b = a + 1 ∧ g1 = g0 ∧ l1 = l0 ∧ S[a]? = some ⟨1, n, 0⟩
  | .rai n, a, b, g0, g1, l0, l1 => b = a + 1 ∧ g1 = g0 ∧ l1 = l0 ∧ S[a]? = some ⟨2, n, 0⟩ ∧ n ≠ 0
  | .seq x y, a, b, g0, g1, l0, l1 => ∃ m gm lm, Laid S G x a m g0 gm l0 lm ∧ Laid S G y m b gm g1 lm l1
  | .cat n x y, a, b, g0, g1, l0, l1 => ∃ m gm lm : Nat, Laid S G x a m g0 gm l0 lm ∧ S[m]? = some ⟨4, 0, b⟩ ∧ G[gm]? = some ⟨a, m, n, m + 1⟩ ∧ Laid S G y (m + 1) b (gm + 1) g1 lm l1
  | .fin x y, a, b, g0, g1, l0, l1 => ∃ m gm lm p gp lp q : Nat, Laid S G x a m g0 gm l0 lm ∧ G[gm]? = some ⟨a, m, 0, p + 1⟩ ∧ Laid S G y m p (gm + 1) gp lm lp ∧ S[p]? = some ⟨4, 0, b⟩ ∧ Laid S G y (p + 1) q gp g1 lp l1 ∧ S[q]? = some ⟨3, gm, 0⟩ ∧ b = q + 1
  | .loop n x, a, b, g0, g1, l0, l1 => ∃ m : Nat, S[a]? = some ⟨5, ((20 + l0 : Nat) : Int), 0⟩ ∧ S[a + 1]? = some ⟨6, ((20 + l0 : Nat) : Int), n⟩ ∧ S[a + 2]? = some ⟨4, 0, b⟩ ∧ Laid S G x (a + 3) m g0 g1 (l0 + 1) l1 ∧ S[m]? = some ⟨4, 0, ((a + 1 : Nat) : Int)⟩ ∧ b = m + 1

theorem Laid.le {S : List St} {G : List Gd} : ∀ {T : XT} {a b g0 g1 l0 l1 : Nat}, Laid S G T a b g0 g1 l0 l1 → a < b ∧ g0 ≤ g1 ∧ l0 ≤ l1
  | .out _, _, _, _, _, _, _, h => by obtain ⟨rfl, rfl, rfl, _⟩ := h; omega
  | .rai _, _, _, _, _, _, _, h => by obtain ⟨rfl, rfl, rfl, _⟩ := h; omega
  | .seq _ _, _, _, _, _, _, _, h => by
    obtain ⟨m, gm, lm, h1, h2⟩ := h; have := h1.le; have := h2.le; omega
  | .cat _ _ _, _, _, _, _, _, _, h => by
    obtain ⟨m, gm, lm, h1, _, _, h2⟩ := h; have := h1.le; have := h2.le; omega
  | .fin _ _, _, _, _, _, _, _, h => by
    obtain ⟨m, gm, lm, p, gp, lp, q, h1, _, h2, _, h3, _, rfl⟩ := h; have := h1.le; have := h2.le; have := h3.le; omega
  | .loop _ _, _, _, _, _, _, _, h => by
    obtain ⟨m, _, _, _, h1, _, rfl⟩ := h; have := h1.le; omega

/-- Are a tree's codes codes? -/
def XT.Ok : XT → Prop
  | .out _ => True
  | .rai n => n ≠ 0
  | .seq a b => a.Ok ∧ b.Ok
  | .cat _ a b => a.Ok ∧ b.Ok
  | .fin a b => a.Ok ∧ b.Ok
  | .loop _ a => a.Ok

/-- A line on its way: steps, guards, loops. -/
structure Ln where
  s : List St
  g : List Gd
  l : Nat

/-- A tree is laid behind a line. -/
def XT.lay : XT → Ln → Ln
  | .out n, q => ⟨q.s ++ [⟨1, n, 0⟩], q.g, q.l⟩
  | .rai n, q => ⟨q.s ++ [⟨2, n, 0⟩], q.g, q.l⟩
  | .seq x y, q => y.lay (x.lay q)
  | .cat n x y, q =>
    let q1 := x.lay q
    let q2 := y.lay ⟨q1.s ++ [⟨4, 0, 0⟩], q1.g ++ [⟨q.s.length, q1.s.length, n, ((q1.s.length + 1 : Nat) : Int)⟩], q1.l⟩
    ⟨q2.s.set q1.s.length ⟨4, 0, q2.s.length⟩, q2.g, q2.l⟩
  | .fin x y, q =>
    let q1 := x.lay q
    let q2 := y.lay ⟨q1.s, q1.g ++ [⟨q.s.length, q1.s.length, 0, 0⟩], q1.l⟩
    let q3 := y.lay ⟨q2.s ++ [⟨4, 0, 0⟩], q2.g.set q1.g.length ⟨q.s.length, q1.s.length, 0, ((q2.s.length + 1 : Nat) : Int)⟩, q2.l⟩
    ⟨(q3.s ++ [(⟨3, q1.g.length, 0⟩ : St)]).set q2.s.length ⟨4, 0, ((q3.s.length + 1 : Nat) : Int)⟩, q3.g, q3.l⟩
  | .loop n x, q =>
    let q1 := x.lay ⟨q.s ++ [⟨5, ((20 + q.l : Nat) : Int), 0⟩, ⟨6, ((20 + q.l : Nat) : Int), n⟩, ⟨4, 0, 0⟩], q.g, q.l + 1⟩
    ⟨(q1.s ++ [(⟨4, 0, ((q.s.length + 1 : Nat) : Int)⟩ : St)]).set (q.s.length + 2) ⟨4, 0, ((q1.s.length + 1 : Nat) : Int)⟩, q1.g, q1.l⟩

theorem Laid.congr {S S' : List St} {G G' : List Gd} : ∀ {T : XT} {a b g0 g1 l0 l1 : Nat}, Laid S G T a b g0 g1 l0 l1 → (∀ i, a ≤ i → i < b → S'[i]? = S[i]?) → (∀ i, g0 ≤ i → i < g1 → G'[i]? = G[i]?) → Laid S' G' T a b g0 g1 l0 l1
  | .out _, _, _, _, _, _, _, h, hs, hg => by
    obtain ⟨rfl, rfl, rfl, hx⟩ := h
    exact ⟨rfl, rfl, rfl, by rw [hs _ (by omega) (by omega)]; exact hx⟩
  | .rai _, _, _, _, _, _, _, h, hs, hg => by
    obtain ⟨rfl, rfl, rfl, hx, hn⟩ := h
    exact ⟨rfl, rfl, rfl, by rw [hs _ (by omega) (by omega)]; exact hx, hn⟩
  | .seq _ _, _, _, _, _, _, _, h, hs, hg => by
    obtain ⟨m, gm, lm, h1, h2⟩ := h
    have := h1.le; have := h2.le
    exact ⟨m, gm, lm, h1.congr (fun i _ _ => hs i (by omega) (by omega)) (fun i _ _ => hg i (by omega) (by omega)), h2.congr (fun i _ _ => hs i (by omega) (by omega)) (fun i _ _ => hg i (by omega) (by omega))⟩
  | .cat _ _ _, _, _, _, _, _, _, h, hs, hg => by
    obtain ⟨m, gm, lm, h1, h3, h4, h2⟩ := h
    have := h1.le; have := h2.le
    exact ⟨m, gm, lm, h1.congr (fun i _ _ => hs i (by omega) (by omega)) (fun i _ _ => hg i (by omega) (by omega)), by rw [hs _ (by omega) (by omega)]; exact h3, by rw [hg _ (by omega) (by omega)]; exact h4, h2.congr (fun i _ _ => hs i (by omega) (by omega)) (fun i _ _ => hg i (by omega) (by omega))⟩
  | .fin _ _, _, _, _, _, _, _, h, hs, hg => by
    obtain ⟨m, gm, lm, p, gp, lp, q, h1, h4, h2, h5, h3, h6, rfl⟩ := h
    have := h1.le; have := h2.le; have := h3.le
    exact ⟨m, gm, lm, p, gp, lp, q, h1.congr (fun i _ _ => hs i (by omega) (by omega)) (fun i _ _ => hg i (by omega) (by omega)), by rw [hg _ (by omega) (by omega)]; exact h4, h2.congr (fun i _ _ => hs i (by omega) (by omega)) (fun i _ _ => hg i (by omega) (by omega)), by rw [hs _ (by omega) (by omega)]; exact h5,
      h3.congr (fun i _ _ => hs i (by omega) (by omega)) (fun i _ _ => hg i (by omega) (by omega)), by rw [hs _ (by omega) (by omega)]; exact h6, rfl⟩
  | .loop _ _, _, _, _, _, _, _, h, hs, hg => by
    obtain ⟨m, h2, h3, h4, h1, h5, rfl⟩ := h
    have := h1.le
    exact ⟨m, by rw [hs _ (by omega) (by omega)]; exact h2, by rw [hs _ (by omega) (by omega)]; exact h3, by rw [hs _ (by omega) (by omega)]; exact h4, h1.congr (fun i _ _ => hs i (by omega) (by omega)) (fun i _ _ => hg i (by omega) (by omega)), by rw [hs _ (by omega) (by omega)]; exact h5, rfl⟩

theorem get_append_left {α : Type} (s t : List α) (i : Nat) (h : i < s.length) : (s ++ t)[i]? = s[i]? := List.getElem?_append_left h
theorem get_append_at {α : Type} (s t : List α) (i : Nat) : (s ++ t)[s.length + i]? = t[i]? := by
  rw [List.getElem?_append_right (by omega)]; congr 1; omega

/-- What a line had stays, and the tree lies behind it. -/
theorem XT.lay_laid : ∀ (T : XT) (q : Ln), T.Ok →
    (q.s.length ≤ (T.lay q).s.length ∧ q.g.length ≤ (T.lay q).g.length ∧ (∀ i, i < q.s.length → (T.lay q).s[i]? = q.s[i]?) ∧ (∀ i, i < q.g.length → (T.lay q).g[i]? = q.g[i]?)) ∧
    Laid (T.lay q).s (T.lay q).g T q.s.length (T.lay q).s.length q.g.length (T.lay q).g.length q.l (T.lay q).l
  | .out n, q, _ => by
    simp only [XT.lay]
    exact ⟨⟨by simp, by simp, fun i hi => get_append_left _ _ _ hi, fun i hi => trivial⟩, by simp, rfl, rfl, get_append_at _ _ 0⟩
  | .rai n, q, h => by
    simp only [XT.lay]
    exact ⟨⟨by simp, by simp, fun i hi => get_append_left _ _ _ hi, fun i hi => trivial⟩, by simp, rfl, rfl, get_append_at _ _ 0, h⟩
  | .seq x y, q, h => by
    obtain ⟨⟨a1, a2, a3, a4⟩, a5⟩ := x.lay_laid q h.1
    obtain ⟨⟨b1, b2, b3, b4⟩, b5⟩ := y.lay_laid (x.lay q) h.2
    refine ⟨⟨?_, ?_, fun i hi => ?_, fun i hi => ?_⟩, (x.lay q).s.length, (x.lay q).g.length, (x.lay q).l, ?_, b5⟩
    · simp only [XT.lay]; omega
    · simp only [XT.lay]; omega
    · rw [XT.lay, b3 i (by omega), a3 i hi]
    · rw [XT.lay, b4 i (by omega), a4 i hi]
    · exact a5.congr (fun i _ hi => b3 i hi) (fun i _ hi => b4 i hi)
  | .cat n x y, q, h => by
    obtain ⟨⟨a1, a2, a3, a4⟩, a5⟩ := x.lay_laid q h.1
    obtain ⟨⟨b1, b2, b3, b4⟩, b5⟩ := y.lay_laid ⟨(x.lay q).s ++ [⟨4, 0, 0⟩], (x.lay q).g ++ [⟨q.s.length, (x.lay q).s.length, n, (((x.lay q).s.length + 1 : Nat) : Int)⟩], (x.lay q).l⟩ h.2
    simp only [XT.lay]
    generalize y.lay ⟨(x.lay q).s ++ [⟨4, 0, 0⟩], (x.lay q).g ++ [⟨q.s.length, (x.lay q).s.length, n, (((x.lay q).s.length + 1 : Nat) : Int)⟩], (x.lay q).l⟩ = q2 at *
    simp only [List.length_append, List.length_cons, List.length_nil] at b1 b2 b3 b4 b5
    generalize hq1 : x.lay q = q1 at *
    refine ⟨⟨?_, ?_, fun i hi => ?_, fun i hi => ?_⟩, q1.s.length, q1.g.length, q1.l, ?_, ?_, ?_, ?_⟩
    · simp only [List.length_set]; omega
    · omega
    · rw [List.getElem?_set_ne (by omega), b3 i (by omega), get_append_left _ _ _ (by omega), a3 i hi]
    · rw [b4 i (by omega), get_append_left _ _ _ (by omega), a4 i hi]
    · exact a5.congr (fun i _ hi => by rw [List.getElem?_set_ne (by omega), b3 i (by omega), get_append_left _ _ _ (by omega)]) (fun i _ hi => by rw [b4 i (by omega), get_append_left _ _ _ (by omega)])
    · simp only [List.length_set]
      rw [List.getElem?_set_self (by omega)]
    · rw [b4 _ (by omega), show q1.g.length = q1.g.length + 0 from rfl, get_append_at]; rfl
    · simp only [List.length_set]
      exact b5.congr (fun i hi _ => by rw [List.getElem?_set_ne (by omega)]) (fun _ _ _ => rfl)
  | .fin x y, q, h => by
    obtain ⟨⟨a1, a2, a3, a4⟩, a5⟩ := x.lay_laid q h.1
    simp only [XT.lay]
    generalize hq1 : x.lay q = q1 at *
    obtain ⟨⟨b1, b2, b3, b4⟩, b5⟩ := y.lay_laid ⟨q1.s, q1.g ++ [⟨q.s.length, q1.s.length, 0, 0⟩], q1.l⟩ h.2
    generalize hq2 : y.lay ⟨q1.s, q1.g ++ [⟨q.s.length, q1.s.length, 0, 0⟩], q1.l⟩ = q2 at *
    obtain ⟨⟨c1, c2, c3, c4⟩, c5⟩ := y.lay_laid ⟨q2.s ++ [⟨4, 0, 0⟩], q2.g.set q1.g.length ⟨q.s.length, q1.s.length, 0, ((q2.s.length + 1 : Nat) : Int)⟩, q2.l⟩ h.2
    generalize hq3 : y.lay ⟨q2.s ++ [⟨4, 0, 0⟩], q2.g.set q1.g.length ⟨q.s.length, q1.s.length, 0, ((q2.s.length + 1 : Nat) : Int)⟩, q2.l⟩ = q3 at *
    simp only [List.length_append, List.length_cons, List.length_nil, List.length_set] at b1 b2 b3 b4 b5 c1 c2 c3 c4 c5
    refine ⟨⟨?_, ?_, fun i hi => ?_, fun i hi => ?_⟩, q1.s.length, q1.g.length, q1.l, q2.s.length, q2.g.length, q2.l, q3.s.length, ?_, ?_, ?_, ?_, ?_, ?_, ?_⟩
    · simp only [List.length_set, List.length_append, List.length_cons, List.length_nil]; omega
    · omega
    · rw [List.getElem?_set_ne (by omega), get_append_left _ _ _ (by omega), c3 i (by omega), get_append_left _ _ _ (by omega), b3 i (by omega), a3 i hi]
    · rw [c4 i (by omega), List.getElem?_set_ne (by omega), b4 i (by omega), get_append_left _ _ _ (by omega), a4 i hi]
    · exact a5.congr (fun i _ hi => by rw [List.getElem?_set_ne (by omega), get_append_left _ _ _ (by omega), c3 i (by omega), get_append_left _ _ _ (by omega), b3 i (by omega)]) (fun i _ hi => by rw [c4 i (by omega), List.getElem?_set_ne (by omega), b4 i (by omega), get_append_left _ _ _ (by omega)])
    · rw [c4 _ (by omega), List.getElem?_set_self (by omega)]; rfl
    · exact b5.congr (fun i _ hi => by rw [List.getElem?_set_ne (by omega), get_append_left _ _ _ (by omega), c3 i (by omega), get_append_left _ _ _ (by omega)]) (fun i _ hi => by rw [c4 i (by omega), List.getElem?_set_ne (by omega)])
    · simp only [List.length_set, List.length_append, List.length_cons, List.length_nil]
      rw [List.getElem?_set_self (by simp only [List.length_append, List.length_cons, List.length_nil]; omega)]
    · exact c5.congr (fun i hi hi2 => by rw [List.getElem?_set_ne (by omega), get_append_left _ _ _ (by omega)]) (fun _ _ _ => rfl)
    · rw [List.getElem?_set_ne (by omega), show q3.s.length = q3.s.length + 0 from rfl, get_append_at]; rfl
    · simp only [List.length_set, List.length_append, List.length_cons, List.length_nil]
  | .loop n x, q, h => by
    obtain ⟨⟨a1, a2, a3, a4⟩, a5⟩ := x.lay_laid ⟨q.s ++ [⟨5, ((20 + q.l : Nat) : Int), 0⟩, ⟨6, ((20 + q.l : Nat) : Int), n⟩, ⟨4, 0, 0⟩], q.g, q.l + 1⟩ h
    simp only [XT.lay]
    generalize x.lay ⟨q.s ++ [⟨5, ((20 + q.l : Nat) : Int), 0⟩, ⟨6, ((20 + q.l : Nat) : Int), n⟩, ⟨4, 0, 0⟩], q.g, q.l + 1⟩ = q1 at *
    simp only [List.length_append, List.length_cons, List.length_nil] at a1 a2 a3 a4 a5
    refine ⟨⟨?_, ?_, fun i hi => ?_, fun i hi => ?_⟩, q1.s.length, ?_, ?_, ?_, ?_, ?_, ?_⟩
    · simp only [List.length_set, List.length_append, List.length_cons, List.length_nil]; omega
    · omega
    · rw [List.getElem?_set_ne (by omega), get_append_left _ _ _ (by omega), a3 i (by omega), get_append_left _ _ _ (by omega)]
    · rw [a4 i (by omega)]
    · rw [List.getElem?_set_ne (by omega), get_append_left _ _ _ (by omega), a3 _ (by omega), show q.s.length = q.s.length + 0 from rfl, get_append_at]; rfl
    · rw [List.getElem?_set_ne (by omega), get_append_left _ _ _ (by omega), a3 _ (by omega), get_append_at]; rfl
    · simp only [List.length_set, List.length_append, List.length_cons, List.length_nil]
      rw [List.getElem?_set_self (by simp only [List.length_append, List.length_cons, List.length_nil]; omega)]
    · exact a5.congr (fun i hi hi2 => by rw [List.getElem?_set_ne (by omega), get_append_left _ _ _ (by omega)]) (fun _ _ _ => rfl)
    · rw [List.getElem?_set_ne (by omega), show q1.s.length = q1.s.length + 0 from rfl, get_append_at]; rfl
    · simp only [List.length_set, List.length_append, List.length_cons, List.length_nil]

end Go.Proofs.Ytgjojppbichaiaa.Pure
namespace Go.Proofs.Ytgjojppbichaiaa.Pure
/-- Some rounds of a body. -/
def XT.rounds (ev : List Int → Option (List Int × Int)) : Nat → List Int → Option (List Int × Int)
  | 0, told => some (told, 0)
  | n + 1, told => (ev told).bind fun r => if r.2 ≠ 0 then some r else XT.rounds ev n r.1

/-- What a tree tells behind others, and the code that it raises; none: too much is told. -/
def XT.eval : XT → List Int → Option (List Int × Int)
  | .out n, told => if told.length < 200 then some (told ++ [n], 0) else none
  | .rai n, told => some (told, n)
  | .seq a b, told => (a.eval told).bind fun r => if r.2 ≠ 0 then some r else b.eval r.1
  | .cat n a b, told => (a.eval told).bind fun r => if r.2 = 0 ∨ n ≠ 0 ∧ n ≠ r.2 then some r else b.eval r.1
  | .fin a b, told => (a.eval told).bind fun r => (b.eval r.1).bind fun q => if q.2 ≠ 0 then some q else some (q.1, r.2)
  | .loop n a, told => XT.rounds a.eval n told

/-- Each guard of a tree is for steps of the tree. -/
theorem Laid.guards {S : List St} {G : List Gd} : ∀ {T : XT} {a b g0 g1 l0 l1 : Nat}, Laid S G T a b g0 g1 l0 l1 → ∀ (i : Nat) (g : Gd), g0 ≤ i → i < g1 → G[i]? = some g → (a : Int) ≤ g.frm ∧ g.to ≤ (b : Int)
  | .out _, _, _, _, _, _, _, h, i, g, h0, h1, _ => by obtain ⟨rfl, rfl, rfl, _⟩ := h; omega
  | .rai _, _, _, _, _, _, _, h, i, g, h0, h1, _ => by obtain ⟨rfl, rfl, rfl, _⟩ := h; omega
  | .seq _ _, _, _, _, _, _, _, h, i, g, h0, h1, hg => by
    obtain ⟨m, gm, lm, hx, hy⟩ := h; have l1 := hx.le; have l2 := hy.le
    by_cases hi : i < gm
    · have := hx.guards i g h0 hi hg; omega
    · have := hy.guards i g (by omega) h1 hg; omega
  | .cat _ _ _, _, _, _, _, _, _, h, i, g, h0, h1, hg => by
    obtain ⟨m, gm, lm, hx, _, hm, hy⟩ := h; have l1 := hx.le; have l2 := hy.le
    by_cases hi : i < gm
    · have := hx.guards i g h0 hi hg; omega
    · by_cases he : i = gm
      · subst he; rw [hm] at hg; obtain rfl := Option.some.inj hg; simp only; omega
      · have := hy.guards i g (by omega) h1 hg; omega
  | .fin _ _, _, _, _, _, _, _, h, i, g, h0, h1, hg => by
    obtain ⟨m, gm, lm, p, gp, lp, q, hx, hm, hy, _, hz, _, rfl⟩ := h; have l1 := hx.le; have l2 := hy.le; have l3 := hz.le
    by_cases hi : i < gm
    · have := hx.guards i g h0 hi hg; omega
    · by_cases he : i = gm
      · subst he; rw [hm] at hg; obtain rfl := Option.some.inj hg; simp only; omega
      · by_cases hk : i < gp
        · have := hy.guards i g (by omega) hk hg; omega
        · have := hz.guards i g (by omega) h1 hg; omega
  | .loop _ _, _, _, _, _, _, _, h, i, g, h0, h1, hg => by
    obtain ⟨m, _, _, _, hx, _, rfl⟩ := h; have l1 := hx.le
    have := hx.guards i g h0 h1 hg; omega

/-- Does a guard take a code at a step? -/
def Gd.takes (g : Gd) (p : Nat) (c : Int) : Prop := g.frm ≤ p ∧ (p : Int) < g.to ∧ (g.kind = 0 ∨ g.kind = c)

/-- The guard that takes a code at a step. -/
def guardOf (G : List Gd) (p : Nat) (c : Int) : Option Nat := G.findIdx? fun g => decide (g.frm ≤ (p : Int)) && decide ((p : Int) < g.to) && (g.kind == 0 || g.kind == c)

abbrev Regs := Nat → Int
def Regs.put (r : Regs) (i : Nat) (v : Int) : Regs := fun j => if j = i then v else r j

mutual
/-- A line's run, with so many steps at most: none if they do not do, or if too much is told. -/
def run (S : List St) (G : List Gd) : Nat → Nat → Regs → List Int → Option (List Int × Int)
  | 0, at_, _, told => if S.length ≤ at_ then some (told, 0) else none
  | k + 1, at_, r, told =>
    match S[at_]? with
    | none => some (told, 0)
    | some x =>
      if x.op = 1 then (if told.length < 200 then run S G k (at_ + 1) r (told ++ [x.n]) else none)
      else if x.op = 2 then raise S G k at_ x.n (at_ + 1) r told
      else if x.op = 3 then raise S G k at_ (r x.n.toNat) (at_ + 1) r told
      else if x.op = 4 then run S G k x.to.toNat r told
      else if x.op = 5 then run S G k (at_ + 1) (r.put x.n.toNat 0) told
      else if x.op = 6 then (if r x.n.toNat = x.to then run S G k (at_ + 1) r told else run S G k (at_ + 2) (r.put x.n.toNat (r x.n.toNat + 1)) told)
      else none
  termination_by k => (k, 0)
/-- A code is raised at a step (0: none). -/
def raise (S : List St) (G : List Gd) (k : Nat) (p : Nat) (c : Int) (next : Nat) (r : Regs) (told : List Int) : Option (List Int × Int) :=
  if c = 0 then run S G k next r told
  else match guardOf G p c with
    | none => some (told, c)
    | some g => run S G k (match G[g]? with | some x => x.at_.toNat | none => 0) (r.put g c) told
  termination_by (k, 1)
end

/-- Whatever the run ends with. -/
def Wp (S : List St) (G : List Gd) (Q : List Int → Int → Prop) (at_ : Nat) (r : Regs) (told : List Int) : Prop := ∀ k t c, run S G k at_ r told = some (t, c) → Q t c
def WpR (S : List St) (G : List Gd) (Q : List Int → Int → Prop) (p : Nat) (c : Int) (r : Regs) (told : List Int) : Prop := ∀ k next t d, raise S G k p c next r told = some (t, d) → Q t d

section
variable {S : List St} {G : List Gd} {Q : List Int → Int → Prop}
theorem Wp.step {at_ : Nat} {r : Regs} {told : List Int} {x : St} (hx : S[at_]? = some x)
    (h : ∀ k t c, run S G (k + 1) at_ r told = some (t, c) → Q t c) : Wp S G Q at_ r told := by
  intro k t c hr
  cases k with
  | zero =>
    rw [run] at hr
    have : at_ < S.length := by
      by_cases hl : at_ < S.length
      · exact hl
      · rw [List.getElem?_eq_none (by omega)] at hx; cases hx
    rw [if_neg (by omega)] at hr; cases hr
  | succ k => exact h k t c hr
theorem Wp.out {at_ : Nat} {r : Regs} {told : List Int} {n : Int} (hx : S[at_]? = some ⟨1, n, 0⟩) (h : told.length < 200 → Wp S G Q (at_ + 1) r (told ++ [n])) : Wp S G Q at_ r told := by
  refine Wp.step hx fun k t c hr => ?_
  rw [run, hx] at hr
  simp only [if_true] at hr
  by_cases hl : told.length < 200
  · rw [if_pos hl] at hr; exact h hl k t c hr
  · rw [if_neg hl] at hr; cases hr
theorem Wp.rai {at_ : Nat} {r : Regs} {told : List Int} {n : Int} (hx : S[at_]? = some ⟨2, n, 0⟩) (h : WpR S G Q at_ n r told) : Wp S G Q at_ r told := by
  refine Wp.step hx fun k t c hr => ?_
  rw [run, hx] at hr
  exact h k _ t c (by simpa using hr)
theorem Wp.again {at_ : Nat} {r : Regs} {told : List Int} {n : Nat} (hx : S[at_]? = some ⟨3, n, 0⟩) (h0 : r n = 0 → Wp S G Q (at_ + 1) r told) (h : r n ≠ 0 → WpR S G Q at_ (r n) r told) : Wp S G Q at_ r told := by
  refine Wp.step hx fun k t c hr => ?_
  rw [run, hx] at hr
  have hr' : raise S G k at_ (r n) (at_ + 1) r told = some (t, c) := by simpa using hr
  by_cases hn : r n = 0
  · rw [raise, if_pos hn] at hr'; exact h0 hn k t c hr'
  · exact h hn k _ t c hr'
theorem Wp.jump {at_ : Nat} {r : Regs} {told : List Int} {n : Nat} (hx : S[at_]? = some ⟨4, 0, n⟩) (h : Wp S G Q n r told) : Wp S G Q at_ r told := by
  refine Wp.step hx fun k t c hr => ?_
  rw [run, hx] at hr
  exact h k t c (by simpa using hr)
theorem Wp.set0 {at_ : Nat} {r : Regs} {told : List Int} {n : Nat} (hx : S[at_]? = some ⟨5, (n : Int), 0⟩) (h : Wp S G Q (at_ + 1) (r.put n 0) told) : Wp S G Q at_ r told := by
  refine Wp.step hx fun k t c hr => ?_
  rw [run, hx] at hr
  exact h k t c (by simpa using hr)
theorem Wp.next {at_ : Nat} {r : Regs} {told : List Int} {n : Nat} {m : Int} (hx : S[at_]? = some ⟨6, (n : Int), m⟩) (h0 : r n = m → Wp S G Q (at_ + 1) r told) (h : r n ≠ m → Wp S G Q (at_ + 2) (r.put n (r n + 1)) told) : Wp S G Q at_ r told := by
  refine Wp.step hx fun k t c hr => ?_
  rw [run, hx] at hr
  by_cases hn : r n = m
  · exact h0 hn k t c (by simpa [hn] using hr)
  · exact h hn k t c (by simpa [hn] using hr)
/-- No guard in front of one takes a code, and that one does. -/
theorem guardOf_some {p : Nat} {c : Int} {i : Nat} {g : Gd} (hg : G[i]? = some g) (ht : g.takes p c) (hb : ∀ j x, j < i → G[j]? = some x → ¬ x.takes p c) : guardOf G p c = some i := by
  have hi : i < G.length := by
    by_cases hl : i < G.length
    · exact hl
    · rw [List.getElem?_eq_none (by omega)] at hg; cases hg
  unfold guardOf
  rw [List.findIdx?_eq_some_iff_getElem]
  have hgi : G[i] = g := by rw [List.getElem?_eq_getElem hi] at hg; exact Option.some.inj hg
  refine ⟨hi, ?_, fun j hj => ?_⟩
  · rw [hgi]; obtain ⟨h1, h2, h3⟩ := ht; simp [h1, h2, h3]
  · have := hb j G[j] hj (List.getElem?_eq_getElem _)
    intro hh
    apply this
    simp only [Bool.and_eq_true, Bool.or_eq_true, decide_eq_true_eq, beq_iff_eq] at hh
    exact ⟨hh.1.1, hh.1.2, hh.2⟩
theorem guardOf_none {p : Nat} {c : Int} (hb : ∀ (j : Nat) x, G[j]? = some x → ¬ x.takes p c) : guardOf G p c = none := by
  unfold guardOf
  rw [List.findIdx?_eq_none_iff]
  intro x hx
  obtain ⟨j, hj, rfl⟩ := List.mem_iff_getElem.1 hx
  have := hb j G[j] (List.getElem?_eq_getElem _)
  by_cases h : (decide (G[j].frm ≤ (p : Int)) && decide ((p : Int) < G[j].to) && (G[j].kind == 0 || G[j].kind == c)) = true
  · exfalso; apply this
    simp only [Bool.and_eq_true, Bool.or_eq_true, decide_eq_true_eq, beq_iff_eq] at h
    exact ⟨h.1.1, h.1.2, h.2⟩
  · simpa using h
theorem WpR.caught {p : Nat} {c : Int} {r : Regs} {told : List Int} {i : Nat} {g : Gd} {n : Nat} (hc : c ≠ 0) (hg : G[i]? = some g) (ht : g.takes p c) (hb : ∀ j x, j < i → G[j]? = some x → ¬ x.takes p c) (hn : g.at_ = n) (h : Wp S G Q n (r.put i c) told) : WpR S G Q p c r told := by
  intro k next t d hr
  rw [raise, if_neg hc, guardOf_some hg ht hb] at hr
  simp only [hg, hn, Int.toNat_natCast] at hr
  exact h k t d hr
theorem WpR.thrown {p : Nat} {c : Int} {r : Regs} {told : List Int} (hc : c ≠ 0) (hb : ∀ (j : Nat) x, G[j]? = some x → ¬ x.takes p c) (h : Q told c) : WpR S G Q p c r told := by
  intro k next t d hr
  rw [raise, if_neg hc, guardOf_none hb] at hr
  simp only [Option.some.injEq, Prod.mk.injEq] at hr
  obtain ⟨rfl, rfl⟩ := hr
  exact h

/-- Which registers a tree may change. -/
def Frame (g0 g1 l0 l1 : Nat) (r r' : Regs) : Prop := ∀ i, ¬ (g0 ≤ i ∧ i < g1) → ¬ (20 + l0 ≤ i ∧ i < 20 + l1) → r' i = r i
theorem Frame.refl (g0 g1 l0 l1 : Nat) (r : Regs) : Frame g0 g1 l0 l1 r r := fun _ _ _ => rfl
theorem Frame.trans {g0 g1 l0 l1 a0 a1 b0 b1 c0 c1 d0 d1 : Nat} {r r' r'' : Regs} (h : Frame a0 a1 b0 b1 r r') (h' : Frame c0 c1 d0 d1 r' r'') (hg : g0 ≤ a0 ∧ a1 ≤ g1 ∧ g0 ≤ c0 ∧ c1 ≤ g1) (hl : l0 ≤ b0 ∧ b1 ≤ l1 ∧ l0 ≤ d0 ∧ d1 ≤ l1) : Frame g0 g1 l0 l1 r r'' := by
  intro i h1 h2
  rw [h' i (by omega) (by omega), h i (by omega) (by omega)]
theorem Frame.put {g0 g1 l0 l1 a0 a1 b0 b1 : Nat} {r r' : Regs} {i : Nat} {v : Int} (h : Frame a0 a1 b0 b1 r r') (hg : g0 ≤ a0 ∧ a1 ≤ g1 ∧ l0 ≤ b0 ∧ b1 ≤ l1) (hi : g0 ≤ i ∧ i < g1 ∨ 20 + l0 ≤ i ∧ i < 20 + l1) : Frame g0 g1 l0 l1 r (r'.put i v) := by
  intro j h1 h2
  unfold Regs.put
  rw [if_neg (by omega), h j (by omega) (by omega)]
theorem Frame.wide {g0 g1 l0 l1 a0 a1 b0 b1 : Nat} {r r' : Regs} (h : Frame a0 a1 b0 b1 r r') (hg : g0 ≤ a0 ∧ a1 ≤ g1 ∧ l0 ≤ b0 ∧ b1 ≤ l1) : Frame g0 g1 l0 l1 r r' := by
  intro j h1 h2
  rw [h j (by omega) (by omega)]
theorem Regs.put_same (r : Regs) (i : Nat) (v : Int) : r.put i v i = v := by simp [Regs.put]
theorem Regs.put_ne (r : Regs) {i j : Nat} (v : Int) (h : j ≠ i) : r.put i v j = r j := by simp [Regs.put, h]

/-- No guard ahead of g0 is for a step from a on. -/
def Low (G : List Gd) (a g0 : Nat) : Prop := ∀ j x, j < g0 → G[j]? = some x → x.to ≤ (a : Int)

theorem sim : ∀ {T : XT} {a b g0 g1 l0 l1 : Nat} {r : Regs} {told : List Int}, g1 ≤ 20 → Laid S G T a b g0 g1 l0 l1 → Low G a g0 →
    (∀ t r', T.eval told = some (t, 0) → Frame g0 g1 l0 l1 r r' → Wp S G Q b r' t) →
    (∀ t c p r', T.eval told = some (t, c) → c ≠ 0 → a ≤ p → p < b → (∀ j x, j < g1 → G[j]? = some x → ¬ x.takes p c) → Frame g0 g1 l0 l1 r r' → WpR S G Q p c r' t) →
    Wp S G Q a r told
  | .out n, a, b, g0, g1, l0, l1, r, told, h20, h, hL, hN, hR => by
    obtain ⟨rfl, rfl, rfl, hx⟩ := h
    exact Wp.out hx fun hl => hN _ _ (by rw [XT.eval, if_pos hl]) (Frame.refl _ _ _ _ _)
  | .rai n, a, b, g0, g1, l0, l1, r, told, h20, h, hL, hN, hR => by
    obtain ⟨rfl, rfl, rfl, hx, hn⟩ := h
    refine Wp.rai hx (hR _ _ _ _ (by rw [XT.eval]) hn (Nat.le_refl _) (by omega) (fun j x hj hx ht => ?_) (Frame.refl _ _ _ _ _))
    have := hL j x hj hx
    have := ht.2.1
    omega
  | .seq x y, a, b, g0, g1, l0, l1, r, told, h20, h, hL, hN, hR => by
    obtain ⟨m, gm, lm, hx, hy⟩ := h
    have lx := hx.le
    have ly := hy.le
    have hLm : Low G m gm := by
      intro j z hj hz
      by_cases h0 : j < g0
      · have := hL j z h0 hz; omega
      · exact (hx.guards j z (by omega) hj hz).2
    refine sim (by omega) hx hL (fun t r' he hf => ?_) (fun t c p r' he hc hp0 hp1 hng hf => ?_)
    · refine sim (by omega) hy hLm (fun t2 r2 he2 hf2 => ?_) (fun t2 c p r2 he2 hc hp0 hp1 hng hf2 => ?_)
      · exact hN t2 r2 (by rw [XT.eval, he]; simpa using he2) (hf.trans hf2 (by omega) (by omega))
      · exact hR t2 c p r2 (by rw [XT.eval, he]; simpa using he2) hc (by omega) hp1 hng (hf.trans hf2 (by omega) (by omega))
    · refine hR t c p r' (by rw [XT.eval, he]; simp [hc]) hc hp0 (by omega) (fun j z hj hz ht => ?_) (hf.wide (by omega))
      by_cases h0 : j < gm
      · exact hng j z h0 hz ht
      · have := (hy.guards j z (by omega) hj hz).1; have := ht.1; omega
  | .cat n x y, a, b, g0, g1, l0, l1, r, told, h20, h, hL, hN, hR => by
    obtain ⟨m, gm, lm, hx, hj4, hgm, hy⟩ := h
    have lx := hx.le
    have ly := hy.le
    have hLm : Low G (m + 1) (gm + 1) := by
      intro j z hj hz
      by_cases h0 : j < g0
      · have := hL j z h0 hz; omega
      · by_cases h1 : j < gm
        · have := (hx.guards j z (by omega) h1 hz).2; omega
        · obtain rfl : j = gm := by omega
          rw [hgm] at hz
          obtain rfl := Option.some.inj hz
          simp only; omega
    refine sim (by omega) hx hL (fun t r' he hf => ?_) (fun t c p r' he hc hp0 hp1 hng hf => ?_)
    · exact Wp.jump hj4 (hN t r' (by rw [XT.eval, he]; simp) (hf.wide (by omega)))
    · by_cases hk : n = 0 ∨ n = c
      · refine WpR.caught (n := m + 1) hc hgm ⟨by simp only; omega, by simp only; omega, hk⟩ hng (by simp) ?_
        have hev : (XT.cat n x y).eval told = y.eval t := by
          rw [XT.eval, he]
          simp only [Option.bind_some]
          rw [if_neg (by omega)]
        refine sim (by omega) hy hLm (fun t2 r2 he2 hf2 => ?_) (fun t2 c2 p2 r2 he2 hc2 hp02 hp12 hng2 hf2 => ?_)
        · exact hN t2 r2 (by rw [hev]; exact he2) (((hf.put (g0 := g0) (g1 := g1) (l0 := l0) (l1 := l1) (by omega) (by omega))).trans hf2 (by omega) (by omega))
        · exact hR t2 c2 p2 r2 (by rw [hev]; exact he2) hc2 (by omega) hp12 hng2 (((hf.put (g0 := g0) (g1 := g1) (l0 := l0) (l1 := l1) (by omega) (by omega))).trans hf2 (by omega) (by omega))
      · refine hR t c p r' ?_ hc hp0 (by omega) (fun j z hj hz ht => ?_) (hf.wide (by omega))
        · rw [XT.eval, he]
          simp only [Option.bind_some]
          rw [if_pos (by omega)]
        · by_cases h0 : j < gm
          · exact hng j z h0 hz ht
          · by_cases h1 : j = gm
            · subst h1
              rw [hgm] at hz
              obtain rfl := Option.some.inj hz
              have := ht.2.2
              simp only at this
              omega
            · have := (hy.guards j z (by omega) hj hz).1; have := ht.1; omega
  | .fin x y, a, b, g0, g1, l0, l1, r, told, h20, h, hL, hN, hR => by
    obtain ⟨m, gm, lm, p0, gp, lp, q, hx, hgm, hy, hj4, hz, hj3, rfl⟩ := h
    have lx := hx.le
    have ly := hy.le
    have lz := hz.le
    have hLm : ∀ m', m ≤ m' → Low G m' (gm + 1) := by
      intro m' hm' j z hj hz
      by_cases h0 : j < g0
      · have := hL j z h0 hz; omega
      · by_cases h1 : j < gm
        · have := (hx.guards j z (by omega) h1 hz).2; omega
        · obtain rfl : j = gm := by omega
          rw [hgm] at hz
          obtain rfl := Option.some.inj hz
          simp only; omega
    have hLp : Low G (p0 + 1) gp := by
      intro j z hj hz
      by_cases h0 : j < gm + 1
      · have := hLm (p0 + 1) (by omega) j z h0 hz; omega
      · have := (hy.guards j z (by omega) hj hz).2; omega
    refine sim (by omega) hx hL (fun t r' he hf => ?_) (fun t c p r' he hc hp0 hp1 hng hf => ?_)
    · refine sim (by omega) hy (hLm m (Nat.le_refl _)) (fun t2 r2 he2 hf2 => ?_) (fun t2 c p r2 he2 hc hp0 hp1 hng hf2 => ?_)
      · exact Wp.jump hj4 (hN t2 r2 (by rw [XT.eval, he]; simp [he2]) (hf.trans hf2 (by omega) (by omega)))
      · refine hR t2 c p r2 (by rw [XT.eval, he]; simp [he2, hc]) hc (by omega) (by omega) (fun j z hj hz' ht => ?_) (hf.trans hf2 (by omega) (by omega))
        by_cases h0 : j < gp
        · exact hng j z h0 hz' ht
        · have := (hz.guards j z (by omega) hj hz').1; have := ht.1; omega
    · refine WpR.caught (n := p0 + 1) hc hgm ⟨by simp only; omega, by simp only; omega, .inl rfl⟩ hng (by simp) ?_
      refine sim (by omega) hz hLp (fun t2 r2 he2 hf2 => ?_) (fun t2 c2 p2 r2 he2 hc2 hp02 hp12 hng2 hf2 => ?_)
      · have hrg : r2 gm = c := by rw [hf2 gm (by omega) (by omega), Regs.put_same]
        refine Wp.again hj3 (fun h0 => absurd (hrg.symm.trans h0) hc) (fun _ => ?_)
        rw [hrg]
        refine hR t2 c q r2 (by rw [XT.eval, he]; simp [he2]) hc (by omega) (by omega) (fun j z hj hz' ht => ?_) (((hf.put (g0 := g0) (g1 := g1) (l0 := l0) (l1 := l1) (by omega) (by omega))).trans hf2 (by omega) (by omega))
        by_cases h0 : j < gp
        · have := hLp j z h0 hz'; have := ht.2.1; omega
        · have := (hz.guards j z (by omega) hj hz').2; have := ht.2.1; omega
      · exact hR t2 c2 p2 r2 (by rw [XT.eval, he]; simp [he2, hc2]) hc2 (by omega) (by omega) hng2 (((hf.put (g0 := g0) (g1 := g1) (l0 := l0) (l1 := l1) (by omega) (by omega))).trans hf2 (by omega) (by omega))
  | .loop n x, a, b, g0, g1, l0, l1, r, told, h20, h, hL, hN, hR => by
    obtain ⟨m, h5, h6, hj4, hx, hjb, rfl⟩ := h
    have lx := hx.le
    refine Wp.set0 h5 ?_
    -- from the head of the loop on
    have key : ∀ (d i : Nat) (r1 : Regs) (t1 : List Int), i + d = n → r1 (20 + l0) = i → Frame g0 g1 l0 l1 r r1 → (XT.loop n x).eval told = XT.rounds x.eval d t1 → Wp S G Q (a + 1) r1 t1 := by
      intro d
      induction d with
      | zero =>
        intro i r1 t1 hi hri hf he
        obtain rfl : i = n := by omega
        refine Wp.next h6 (fun _ => Wp.jump hj4 (hN t1 r1 (by rw [he]; rfl) hf)) (fun hne => absurd hri hne)
      | succ d ih =>
        intro i r1 t1 hi hri hf he
        refine Wp.next h6 (fun h0 => absurd (hri.symm.trans h0) (by omega)) (fun _ => ?_)
        have hf' : Frame g0 g1 l0 l1 r (r1.put (20 + l0) (r1 (20 + l0) + 1)) := hf.put (by omega) (by omega)
        have hL' : Low G (a + 3) g0 := fun j z hj hz => by have := hL j z hj hz; omega
        refine sim (by omega) (told := t1) hx hL' (fun t r' he2 hf2 => ?_) (fun t c p r' he2 hc hp0 hp1 hng hf2 => ?_)
        · refine Wp.jump hjb (ih (i + 1) r' t (by omega) ?_ (hf'.trans hf2 (by omega) (by omega)) ?_)
          · rw [hf2 _ (by omega) (by omega), Regs.put_same, hri]; omega
          · rw [he, XT.rounds, he2]; simp
        · refine hR t c p r' ?_ hc (by omega) (by omega) hng (hf'.trans hf2 (by omega) (by omega))
          rw [he, XT.rounds, he2]; simp [hc]
    exact key n 0 _ told (by omega) (Regs.put_same _ _ _) ((Frame.refl g0 g1 l0 l1 r).put (by omega) (by omega)) rfl
/-- A whole line: it ends as the tree does. -/
theorem sim_all {T : XT} {l : Nat} (h20 : G.length ≤ 20) (h : Laid S G T 0 S.length 0 G.length 0 l) (r : Regs) (k : Nat) (t : List Int) (c : Int) (hr : run S G k 0 r [] = some (t, c)) : T.eval [] = some (t, c) := by
  refine sim (Q := fun t c => T.eval [] = some (t, c)) h20 h (fun j _ hj _ => absurd hj (by omega)) (fun t r' he _ => ?_) (fun t c p r' he hc _ _ hng _ => ?_) k t c hr
  · intro k t' c' hr'
    have e : S[S.length]? = none := List.getElem?_eq_none (Nat.le_refl _)
    cases k with
    | zero =>
      rw [run, if_pos (Nat.le_refl _)] at hr'
      simp only [Option.some.injEq, Prod.mk.injEq] at hr'
      obtain ⟨rfl, rfl⟩ := hr'
      exact he
    | succ k =>
      rw [run, e] at hr'
      simp only [Option.some.injEq, Prod.mk.injEq] at hr'
      obtain ⟨rfl, rfl⟩ := hr'
      exact he
  · refine WpR.thrown hc (fun j x hx => ?_) he
    refine hng j x ?_ hx
    by_cases hl : j < G.length
    · exact hl
    · rw [List.getElem?_eq_none (by omega)] at hx; cases hx
end

/-- A laid tree's line ends as the tree does. -/
theorem XT.lay_sim (T : XT) (h : T.Ok) (h20 : (T.lay ⟨[], [], 0⟩).g.length ≤ 20) (r : Regs) (k : Nat) (t : List Int) (c : Int) (hr : run (T.lay ⟨[], [], 0⟩).s (T.lay ⟨[], [], 0⟩).g k 0 r [] = some (t, c)) : T.eval [] = some (t, c) :=
  sim_all h20 (T.lay_laid ⟨[], [], 0⟩ h).2 r k t c hr

/-- May a tree raise a code? -/
def XT.may : XT → Int → Prop
  | .out _, _ => False
  | .rai n, c => c = n
  | .seq a b, c => a.may c ∨ b.may c
  | .cat n a b, c => (a.may c ∧ ¬ (n = 0 ∨ n = c)) ∨ ((∃ d, a.may d ∧ (n = 0 ∨ n = d)) ∧ b.may c)
  | .fin a b, c => a.may c ∨ b.may c
  | .loop n a, c => n ≠ 0 ∧ a.may c
/-- What a tree raises is among what it may raise. -/
theorem XT.eval_may : ∀ (T : XT) (told t : List Int) (c : Int), T.eval told = some (t, c) → c ≠ 0 → T.may c
  | .out n, told, t, c, h, hc => by
    rw [XT.eval] at h
    split at h
    · simp only [Option.some.injEq, Prod.mk.injEq] at h; omega
    · cases h
  | .rai n, told, t, c, h, hc => by
    rw [XT.eval] at h
    simp only [Option.some.injEq, Prod.mk.injEq] at h
    exact h.2.symm
  | .seq a b, told, t, c, h, hc => by
    rw [XT.eval] at h
    obtain ⟨⟨t1, c1⟩, h1, h2⟩ := Option.bind_eq_some_iff.1 h
    split at h2
    · obtain ⟨rfl, rfl⟩ := by simpa using h2
      exact .inl (a.eval_may _ _ _ h1 hc)
    · exact .inr (b.eval_may _ _ _ h2 hc)
  | .cat n a b, told, t, c, h, hc => by
    rw [XT.eval] at h
    obtain ⟨⟨t1, c1⟩, h1, h2⟩ := Option.bind_eq_some_iff.1 h
    split at h2
    · rename_i hk
      obtain ⟨rfl, rfl⟩ := by simpa using h2
      exact .inl ⟨a.eval_may _ _ _ h1 hc, by simp only at hk; omega⟩
    · rename_i hk
      simp only at hk
      exact .inr ⟨⟨c1, a.eval_may _ _ _ h1 (by omega), by omega⟩, b.eval_may _ _ _ h2 hc⟩
  | .fin a b, told, t, c, h, hc => by
    rw [XT.eval] at h
    obtain ⟨⟨t1, c1⟩, h1, h2⟩ := Option.bind_eq_some_iff.1 h
    obtain ⟨⟨t2, c2⟩, h3, h4⟩ := Option.bind_eq_some_iff.1 h2
    split at h4
    · obtain ⟨rfl, rfl⟩ := by simpa using h4
      exact .inr (b.eval_may _ _ _ h3 hc)
    · obtain ⟨rfl, rfl⟩ := by simpa using h4
      exact .inl (a.eval_may _ _ _ h1 hc)
  | .loop n a, told, t, c, h, hc => by
    rw [XT.eval] at h
    have key : ∀ (n : Nat) (told : List Int), XT.rounds a.eval n told = some (t, c) → n ≠ 0 ∧ a.may c := by
      intro n
      induction n with
      | zero => intro told h; rw [XT.rounds] at h; simp only [Option.some.injEq, Prod.mk.injEq] at h; omega
      | succ n ih =>
        intro told h
        rw [XT.rounds] at h
        obtain ⟨⟨t1, c1⟩, h1, h2⟩ := Option.bind_eq_some_iff.1 h
        split at h2
        · obtain ⟨rfl, rfl⟩ := by simpa using h2
          exact ⟨by omega, a.eval_may _ _ _ h1 hc⟩
        · exact ⟨by omega, (ih _ h2).2⟩
    exact key n told h
end Go.Proofs.Ytgjojppbichaiaa.Pure
