/- A tree laid as a line: plain Lean. Conditions: none. -/
namespace Go.Proofs.Ytgjojppbichaiaa.Pure
inductive XT where
  | out (n : Int)
  | rai (n : Int)
  | seq (a b : XT)
  | cat (n : Int) (a b : XT)
  | fin (a b : XT)
  | loop (n : Nat) (a : XT)

structure St where
  op : Int
  n : Int
  to : Int

structure Gd where
  frm : Int
  to : Int
  kind : Int
  at_ : Int

/-- A tree lies in a line from a to b, its guards from g0 to g1, its loops' registers from l0 to l1. -/
def Laid (S : List St) (G : List Gd) : XT → (a b g0 g1 l0 l1 : Nat) → Prop
  | .out n, a, b, g0, g1, l0, l1 => b = a + 1 ∧ g1 = g0 ∧ l1 = l0 ∧ S[a]? = some ⟨1, n, 0⟩
  | .rai n, a, b, g0, g1, l0, l1 => b = a + 1 ∧ g1 = g0 ∧ l1 = l0 ∧ S[a]? = some ⟨2, n, 0⟩ ∧ n ≠ 0
  | .seq x y, a, b, g0, g1, l0, l1 => ∃ m gm lm, Laid S G x a m g0 gm l0 lm ∧ Laid S G y m b gm g1 lm l1
  | .cat n x y, a, b, g0, g1, l0, l1 => ∃ m gm lm : Nat, Laid S G x a m g0 gm l0 lm ∧ S[m]? = some ⟨4, 0, b⟩ ∧ G[gm]? = some ⟨a, m, n, m + 1⟩ ∧ Laid S G y (m + 1) b (gm + 1) g1 lm l1
  | .fin x y, a, b, g0, g1, l0, l1 => ∃ m gm lm p gp lp q : Nat, Laid S G x a m g0 gm l0 lm ∧ G[gm]? = some ⟨a, m, 0, p + 1⟩ ∧ Laid S G y m p (gm + 1) gp lm lp ∧ S[p]? = some ⟨4, 0, b⟩ ∧ Laid S G y (p + 1) q gp g1 lp l1 ∧ S[q]? = some ⟨3, gm, 0⟩ ∧ b = q + 1
  | .loop n x, a, b, g0, g1, l0, l1 => ∃ m : Nat, S[a]? = some ⟨5, ((20 + l0 : Nat) : Int), 0⟩ ∧ S[a + 1]? = some ⟨6, ((20 + l0 : Nat) : Int), n⟩ ∧ S[a + 2]? = some ⟨4, 0, b⟩ ∧ Laid S G x (a + 3) m g0 g1 (l0 + 1) l1 ∧ S[m]? = some ⟨4, 0, ((a + 1 : Nat) : Int)⟩ ∧ b = m + 1

theorem Laid.le {S : List St} {G : List Gd} : ∀ {T : XT} {a b g0 g1 l0 l1 : Nat}, Laid S G T a b g0 g1 l0 l1 → a < b ∧ g0 ≤ g1 ∧ l0 ≤ l1
  | .out _, _, _, _, _, _, _, h => by obtain ⟨rfl, rfl, rfl, _⟩ := h; omega
  | .rai _, _, _, _, _, _, _, h => by obtain ⟨rfl, rfl, rfl, _⟩ := h; omega
  | .seq _ _, _, _, _, _, _, _, h => by
    obtain ⟨m, gm, lm, h1, h2⟩ := h; have := h1.le; have := h2.le; omega
  | .cat _ _ _, _, _, _, _, _, _, h => by
    obtain ⟨m, gm, lm, h1, _, _, h2⟩ := h; have := h1.le; have := h2.le; omega
  | .fin _ _, _, _, _, _, _, _, h => by
    obtain ⟨m, gm, lm, p, gp, lp, q, h1, _, h2, _, h3, _, rfl⟩ := h; have := h1.le; have := h2.le; have := h3.le; omega
  | .loop _ _, _, _, _, _, _, _, h => by
    obtain ⟨m, _, _, _, h1, _, rfl⟩ := h; have := h1.le; omega

/-- Are a tree's codes codes? -/
def XT.Ok : XT → Prop
  | .out _ => True
  | .rai n => n ≠ 0
  | .seq a b => a.Ok ∧ b.Ok
  | .cat _ a b => a.Ok ∧ b.Ok
  | .fin a b => a.Ok ∧ b.Ok
  | .loop _ a => a.Ok

/-- A line on its way: steps, guards, loops. -/
structure Ln where
  s : List St
  g : List Gd
  l : Nat

/-- A tree is laid behind a line. -/
def XT.lay : XT → Ln → Ln
  | .out n, q => ⟨q.s ++ [⟨1, n, 0⟩], q.g, q.l⟩
  | .rai n, q => ⟨q.s ++ [⟨2, n, 0⟩], q.g, q.l⟩
  | .seq x y, q => y.lay (x.lay q)
  | .cat n x y, q =>
    let q1 := x.lay q
    let q2 := y.lay ⟨q1.s ++ [⟨4, 0, 0⟩], q1.g ++ [⟨q.s.length, q1.s.length, n, ((q1.s.length + 1 : Nat) : Int)⟩], q1.l⟩
    ⟨q2.s.set q1.s.length ⟨4, 0, q2.s.length⟩, q2.g, q2.l⟩
  | .fin x y, q =>
    let q1 := x.lay q
    let q2 := y.lay ⟨q1.s, q1.g ++ [⟨q.s.length, q1.s.length, 0, 0⟩], q1.l⟩
    let q3 := y.lay ⟨q2.s ++ [⟨4, 0, 0⟩], q2.g.set q1.g.length ⟨q.s.length, q1.s.length, 0, ((q2.s.length + 1 : Nat) : Int)⟩, q2.l⟩
    ⟨(q3.s ++ [(⟨3, q1.g.length, 0⟩ : St)]).set q2.s.length ⟨4, 0, ((q3.s.length + 1 : Nat) : Int)⟩, q3.g, q3.l⟩
  | .loop n x, q =>
    let q1 := x.lay ⟨q.s ++ [⟨5, ((20 + q.l : Nat) : Int), 0⟩, ⟨6, ((20 + q.l : Nat) : Int), n⟩, ⟨4, 0, 0⟩], q.g, q.l + 1⟩
    ⟨(q1.s ++ [(⟨4, 0, ((q.s.length + 1 : Nat) : Int)⟩ : St)]).set (q.s.length + 2) ⟨4, 0, ((q1.s.length + 1 : Nat) : Int)⟩, q1.g, q1.l⟩

theorem Laid.congr {S S' : List St} {G G' : List Gd} : ∀ {T : XT} {a b g0 g1 l0 l1 : Nat}, Laid S G T a b g0 g1 l0 l1 → (∀ i, a ≤ i → i < b → S'[i]? = S[i]?) → (∀ i, g0 ≤ i → i < g1 → G'[i]? = G[i]?) → Laid S' G' T a b g0 g1 l0 l1
  | .out _, _, _, _, _, _, _, h, hs, hg => by
    obtain ⟨rfl, rfl, rfl, hx⟩ := h
    exact ⟨rfl, rfl, rfl, by rw [hs _ (by omega) (by omega)]; exact hx⟩
  | .rai _, _, _, _, _, _, _, h, hs, hg => by
    obtain ⟨rfl, rfl, rfl, hx, hn⟩ := h
    exact ⟨rfl, rfl, rfl, by rw [hs _ (by omega) (by omega)]; exact hx, hn⟩
  | .seq _ _, _, _, _, _, _, _, h, hs, hg => by
    obtain ⟨m, gm, lm, h1, h2⟩ := h
    have := h1.le; have := h2.le
    exact ⟨m, gm, lm, h1.congr (fun i _ _ => hs i (by omega) (by omega)) (fun i _ _ => hg i (by omega) (by omega)), h2.congr (fun i _ _ => hs i (by omega) (by omega)) (fun i _ _ => hg i (by omega) (by omega))⟩
  | .cat _ _ _, _, _, _, _, _, _, h, hs, hg => by
    obtain ⟨m, gm, lm, h1, h3, h4, h2⟩ := h
    have := h1.le; have := h2.le
    exact ⟨m, gm, lm, h1.congr (fun i _ _ => hs i (by omega) (by omega)) (fun i _ _ => hg i (by omega) (by omega)), by rw [hs _ (by omega) (by omega)]; exact h3, by rw [hg _ (by omega) (by omega)]; exact h4, h2.congr (fun i _ _ => hs i (by omega) (by omega)) (fun i _ _ => hg i (by omega) (by omega))⟩
  | .fin _ _, _, _, _, _, _, _, h, hs, hg => by
    obtain ⟨m, gm, lm, p, gp, lp, q, h1, h4, h2, h5, h3, h6, rfl⟩ := h
    have := h1.le; have := h2.le; have := h3.le
    exact ⟨m, gm, lm, p, gp, lp, q, h1.congr (fun i _ _ => hs i (by omega) (by omega)) (fun i _ _ => hg i (by omega) (by omega)), by rw [hg _ (by omega) (by omega)]; exact h4, h2.congr (fun i _ _ => hs i (by omega) (by omega)) (fun i _ _ => hg i (by omega) (by omega)), by rw [hs _ (by omega) (by omega)]; exact h5,
      h3.congr (fun i _ _ => hs i (by omega) (by omega)) (fun i _ _ => hg i (by omega) (by omega)), by rw [hs _ (by omega) (by omega)]; exact h6, rfl⟩
  | .loop _ _, _, _, _, _, _, _, h, hs, hg => by
    obtain ⟨m, h2, h3, h4, h1, h5, rfl⟩ := h
    have := h1.le
    exact ⟨m, by rw [hs _ (by omega) (by omega)]; exact h2, by rw [hs _ (by omega) (by omega)]; exact h3, by rw [hs _ (by omega) (by omega)]; exact h4, h1.congr (fun i _ _ => hs i (by omega) (by omega)) (fun i _ _ => hg i (by omega) (by omega)), by rw [hs _ (by omega) (by omega)]; exact h5, rfl⟩

theorem get_append_left {α : Type} (s t : List α) (i : Nat) (h : i < s.length) : (s ++ t)[i]? = s[i]? := List.getElem?_append_left h
theorem get_append_at {α : Type} (s t : List α) (i : Nat) : (s ++ t)[s.length + i]? = t[i]? := by
  rw [List.getElem?_append_right (by omega)]; congr 1; omega

/-- What a line had stays, and the tree lies behind it. -/
theorem XT.lay_laid : ∀ (T : XT) (q : Ln), T.Ok →
    (q.s.length ≤ (T.lay q).s.length ∧ q.g.length ≤ (T.lay q).g.length ∧ (∀ i, i < q.s.length → (T.lay q).s[i]? = q.s[i]?) ∧ (∀ i, i < q.g.length → (T.lay q).g[i]? = q.g[i]?)) ∧
    Laid (T.lay q).s (T.lay q).g T q.s.length (T.lay q).s.length q.g.length (T.lay q).g.length q.l (T.lay q).l
  | .out n, q, _ => by
    simp only [XT.lay]
    exact ⟨⟨by simp, by simp, fun i hi => get_append_left _ _ _ hi, fun i hi => trivial⟩, by simp, rfl, rfl, get_append_at _ _ 0⟩
  | .rai n, q, h => by
    simp only [XT.lay]
    exact ⟨⟨by simp, by simp, fun i hi => get_append_left _ _ _ hi, fun i hi => trivial⟩, by simp, rfl, rfl, get_append_at _ _ 0, h⟩
  | .seq x y, q, h => by
    obtain ⟨⟨a1, a2, a3, a4⟩, a5⟩ := x.lay_laid q h.1
    obtain ⟨⟨b1, b2, b3, b4⟩, b5⟩ := y.lay_laid (x.lay q) h.2
    refine ⟨⟨?_, ?_, fun i hi => ?_, fun i hi => ?_⟩, (x.lay q).s.length, (x.lay q).g.length, (x.lay q).l, ?_, b5⟩
    · simp only [XT.lay]; omega
    · simp only [XT.lay]; omega
    · rw [XT.lay, b3 i (by omega), a3 i hi]
    · rw [XT.lay, b4 i (by omega), a4 i hi]
    · exact a5.congr (fun i _ hi => b3 i hi) (fun i _ hi => b4 i hi)
  | .cat n x y, q, h => by
    obtain ⟨⟨a1, a2, a3, a4⟩, a5⟩ := x.lay_laid q h.1
    obtain ⟨⟨b1, b2, b3, b4⟩, b5⟩ := y.lay_laid ⟨(x.lay q).s ++ [⟨4, 0, 0⟩], (x.lay q).g ++ [⟨q.s.length, (x.lay q).s.length, n, (((x.lay q).s.length + 1 : Nat) : Int)⟩], (x.lay q).l⟩ h.2
    simp only [XT.lay]
    generalize y.lay ⟨(x.lay q).s ++ [⟨4, 0, 0⟩], (x.lay q).g ++ [⟨q.s.length, (x.lay q).s.length, n, (((x.lay q).s.length + 1 : Nat) : Int)⟩], (x.lay q).l⟩ = q2 at *
    simp only [List.length_append, List.length_cons, List.length_nil] at b1 b2 b3 b4 b5
    generalize hq1 : x.lay q = q1 at *
    refine ⟨⟨?_, ?_, fun i hi => ?_, fun i hi => ?_⟩, q1.s.length, q1.g.length, q1.l, ?_, ?_, ?_, ?_⟩
    · simp only [List.length_set]; omega
    · omega
    · rw [List.getElem?_set_ne (by omega), b3 i (by omega), get_append_left _ _ _ (by omega), a3 i hi]
    · rw [b4 i (by omega), get_append_left _ _ _ (by omega), a4 i hi]
    · exact a5.congr (fun i _ hi => by rw [List.getElem?_set_ne (by omega), b3 i (by omega), get_append_left _ _ _ (by omega)]) (fun i _ hi => by rw [b4 i (by omega), get_append_left _ _ _ (by omega)])
    · simp only [List.length_set]
      rw [List.getElem?_set_self (by omega)]
    · rw [b4 _ (by omega), show q1.g.length = q1.g.length + 0 from rfl, get_append_at]; rfl
    · simp only [List.length_set]
      exact b5.congr (fun i hi _ => by rw [List.getElem?_set_ne (by omega)]) (fun _ _ _ => rfl)
  | .fin x y, q, h => by
    obtain ⟨⟨a1, a2, a3, a4⟩, a5⟩ := x.lay_laid q h.1
    simp only [XT.lay]
    generalize hq1 : x.lay q = q1 at *
    obtain ⟨⟨b1, b2, b3, b4⟩, b5⟩ := y.lay_laid ⟨q1.s, q1.g ++ [⟨q.s.length, q1.s.length, 0, 0⟩], q1.l⟩ h.2
    generalize hq2 : y.lay ⟨q1.s, q1.g ++ [⟨q.s.length, q1.s.length, 0, 0⟩], q1.l⟩ = q2 at *
    obtain ⟨⟨c1, c2, c3, c4⟩, c5⟩ := y.lay_laid ⟨q2.s ++ [⟨4, 0, 0⟩], q2.g.set q1.g.length ⟨q.s.length, q1.s.length, 0, ((q2.s.length + 1 : Nat) : Int)⟩, q2.l⟩ h.2
    generalize hq3 : y.lay ⟨q2.s ++ [⟨4, 0, 0⟩], q2.g.set q1.g.length ⟨q.s.length, q1.s.length, 0, ((q2.s.length + 1 : Nat) : Int)⟩, q2.l⟩ = q3 at *
    simp only [List.length_append, List.length_cons, List.length_nil, List.length_set] at b1 b2 b3 b4 b5 c1 c2 c3 c4 c5
    refine ⟨⟨?_, ?_, fun i hi => ?_, fun i hi => ?_⟩, q1.s.length, q1.g.length, q1.l, q2.s.length, q2.g.length, q2.l, q3.s.length, ?_, ?_, ?_, ?_, ?_, ?_, ?_⟩
    · simp only [List.length_set, List.length_append, List.length_cons, List.length_nil]; omega
    · omega
    · rw [List.getElem?_set_ne (by omega), get_append_left _ _ _ (by omega), c3 i (by omega), get_append_left _ _ _ (by omega), b3 i (by omega), a3 i hi]
    · rw [c4 i (by omega), List.getElem?_set_ne (by omega), b4 i (by omega), get_append_left _ _ _ (by omega), a4 i hi]
    · exact a5.congr (fun i _ hi => by rw [List.getElem?_set_ne (by omega), get_append_left _ _ _ (by omega), c3 i (by omega), get_append_left _ _ _ (by omega), b3 i (by omega)]) (fun i _ hi => by rw [c4 i (by omega), List.getElem?_set_ne (by omega), b4 i (by omega), get_append_left _ _ _ (by omega)])
    · rw [c4 _ (by omega), List.getElem?_set_self (by omega)]; rfl
    · exact b5.congr (fun i _ hi => by rw [List.getElem?_set_ne (by omega), get_append_left _ _ _ (by omega), c3 i (by omega), get_append_left _ _ _ (by omega)]) (fun i _ hi => by rw [c4 i (by omega), List.getElem?_set_ne (by omega)])
    · simp only [List.length_set, List.length_append, List.length_cons, List.length_nil]
      rw [List.getElem?_set_self (by simp only [List.length_append, List.length_cons, List.length_nil]; omega)]
    · exact c5.congr (fun i hi hi2 => by rw [List.getElem?_set_ne (by omega), get_append_left _ _ _ (by omega)]) (fun _ _ _ => rfl)
    · rw [List.getElem?_set_ne (by omega), show q3.s.length = q3.s.length + 0 from rfl, get_append_at]; rfl
    · simp only [List.length_set, List.length_append, List.length_cons, List.length_nil]
  | .loop n x, q, h => by
    obtain ⟨⟨a1, a2, a3, a4⟩, a5⟩ := x.lay_laid ⟨q.s ++ [⟨5, ((20 + q.l : Nat) : Int), 0⟩, ⟨6, ((20 + q.l : Nat) : Int), n⟩, ⟨4, 0, 0⟩], q.g, q.l + 1⟩ h
    simp only [XT.lay]
    generalize x.lay ⟨q.s ++ [⟨5, ((20 + q.l : Nat) : Int), 0⟩, ⟨6, ((20 + q.l : Nat) : Int), n⟩, ⟨4, 0, 0⟩], q.g, q.l + 1⟩ = q1 at *
    simp only [List.length_append, List.length_cons, List.length_nil] at a1 a2 a3 a4 a5
    refine ⟨⟨?_, ?_, fun i hi => ?_, fun i hi => ?_⟩, q1.s.length, ?_, ?_, ?_, ?_, ?_, ?_⟩
    · simp only [List.length_set, List.length_append, List.length_cons, List.length_nil]; omega
    · omega
    · rw [List.getElem?_set_ne (by omega), get_append_left _ _ _ (by omega), a3 i (by omega), get_append_left _ _ _ (by omega)]
    · rw [a4 i (by omega)]
    · rw [List.getElem?_set_ne (by omega), get_append_left _ _ _ (by omega), a3 _ (by omega), show q.s.length = q.s.length + 0 from rfl, get_append_at]; rfl
    · rw [List.getElem?_set_ne (by omega), get_append_left _ _ _ (by omega), a3 _ (by omega), get_append_at]; rfl
    · simp only [List.length_set, List.length_append, List.length_cons, List.length_nil]
      rw [List.getElem?_set_self (by simp only [List.length_append, List.length_cons, List.length_nil]; omega)]
    · exact a5.congr (fun i hi hi2 => by rw [List.getElem?_set_ne (by omega), get_append_left _ _ _ (by omega)]) (fun _ _ _ => rfl)
    · rw [List.getElem?_set_ne (by omega), show q1.s.length = q1.s.length + 0 from rfl, get_append_at]; rfl
    · simp only [List.length_set, List.length_append, List.length_cons, List.length_nil]

end Go.Proofs.Ytgjojppbichaiaa.Pure
