/- What an argument looks like that is an event: seven slices of items and a bool. No program in sight. -/
import Derived.Test.YticloblhdjnjkaaOpenF
import Derived.Test.YticloblhdjnjkaaCalD
namespace Go.Proofs.Yticloblhdjnjkaa
open Go.ChangeShapes Go.WideShapes Go.ChangeAt Go.RowKit Go.Joins Go.Deep

instance : Inhabited It := ⟨⟨0, 0, 0, 0⟩⟩
section
variable {H : Type} {enc : TypeId × Value → H} {P : Program} {w : World} {r : Reach} {b0 base : Nat} {t e : TypeId} {v : Value} {d : DataW H} {p : List MemPlace}
theorem open_items {fs : Array Field} {fuel : Nat} {u : Value} {x : DataW H × List MemPlace} (ht : P.underlying t = some (.slice e)) (he : P.underlying e = some (.struct fs)) (h4 : fs.size = 4) (hone : oneCellFields P fs = true) (hC : P.cellsOf e = fs.size)
    (hint : ∀ (j : Nat) (f : Field), fs[j]? = some f → P.underlying f.type = some (.int .i64)) (h : DataW.trod enc P w base (fun _ => true) true fuel t [u] = some x) :
    ∃ l : Sl, u = l.v ∧ l.ok w := by
  rcases open_slice ht h with ⟨hcs, _⟩ | ⟨a, len, cap, m, n, D, Pl, hcs, _, hl, hm, hmm, _, hi⟩
  · simp at hcs
    subst hcs
    exact ⟨⟨none, 0, []⟩, rfl, fun k hk => absurd hk (by simp), by simp⟩
  · simp at hcs
    subst hcs
    unfold maxLen at hm
    simp at hmm
    subst hmm
    have each : ∀ i, i < m → ∃ z : It, w.cell? (a.add (i * 4)) = some (.int .i64 z.k) ∧ w.cell? (a.add (i * 4 + 1)) = some (.int .i64 z.f) ∧ w.cell? (a.add (i * 4 + 2)) = some (.int .i64 z.t) ∧ w.cell? (a.add (i * 4 + 3)) = some (.int .i64 z.s) := fun i hk => by
      obtain ⟨cs', hc, ht'⟩ := hi i hk
      rw [hC, h4] at hc
      obtain ⟨_, _, hat⟩ := World.cells?_some hc
      have g := trod_intCells he hone hC hint ht'
      rw [h4] at g
      obtain ⟨z0, e0, _⟩ := g 0 (by omega)
      obtain ⟨z1, e1, _⟩ := g 1 (by omega)
      obtain ⟨z2, e2, _⟩ := g 2 (by omega)
      obtain ⟨z3, e3, _⟩ := g 3 (by omega)
      exact ⟨⟨z0, z1, z2, z3⟩, by have := (hat 0 (by omega)).trans e0; rw [Go.Deep.add_add] at this; exact this, by have := (hat 1 (by omega)).trans e1; rw [Go.Deep.add_add] at this; exact this,
        by have := (hat 2 (by omega)).trans e2; rw [Go.Deep.add_add] at this; exact this, by have := (hat 3 (by omega)).trans e3; rw [Go.Deep.add_add] at this; exact this⟩
    obtain ⟨q, hq⟩ := choose_lt each
    refine ⟨⟨some a, m, (List.range len).map q⟩, by simp [Sl.v], fun k hk => ?_, by simp; omega⟩
    have hk' : k < len := by simpa using hk
    obtain ⟨g0, g1, g2, g3⟩ := hq k (by omega)
    obtain ⟨b, off, spot⟩ := a
    have hspot : spot = none := by
      have := World.cell?_spot (hq 0 (by omega)).1
      simpa [Addr.add] using this
    subst hspot
    simp only [Go.WideShapes.add_plain] at g0 g1 g2 g3
    have hget : ((List.range len).map q).getD k ⟨0, 0, 0, 0⟩ = q k := by simp [List.getD, hk']
    refine ⟨b, off, rfl, ?_⟩
    show _ ∧ _ ∧ _ ∧ _
    simp only [hget]
    exact ⟨g0, by rw [Nat.add_assoc]; exact g1, by rw [Nat.add_assoc]; exact g2, by rw [Nat.add_assoc]; exact g3⟩

theorem open_cal {f0 f1 f2 f3 f4 f5 f6 f7 : Field} {fs : Array Field} (hs : P.underlying t = some (.struct #[f0, f1, f2, f3, f4, f5, f6, f7])) (hone8 : oneCellFields P #[f0, f1, f2, f3, f4, f5, f6, f7] = true) (hC8 : P.cellsOf t = 8)
    (e0 : P.underlying f0.type = some (.slice e)) (e1 : P.underlying f1.type = some (.slice e)) (e2 : P.underlying f2.type = some (.slice e)) (e3 : P.underlying f3.type = some (.slice e)) (e4 : P.underlying f4.type = some .bool)
    (e5 : P.underlying f5.type = some (.slice e)) (e6 : P.underlying f6.type = some (.slice e)) (e7 : P.underlying f7.type = some (.slice e))
    (he : P.underlying e = some (.struct fs)) (h4 : fs.size = 4) (hone : oneCellFields P fs = true) (hC : P.cellsOf e = fs.size)
    (hint : ∀ (j : Nat) (f : Field), fs[j]? = some f → P.underlying f.type = some (.int .i64))
    (hv : Value.okWide P w r b0 t v) (h : DataW.Trod enc P w base (fun _ => true) true t v d p) :
    ∃ (l : Nat → Sl) (b : Bool), v = calV l b ∧ ∀ j, (l j).ok w := by
  obtain ⟨cs, rfl, hsz⟩ := okWide_struct hs hv
  obtain ⟨cl⟩ := cs
  match cl, hsz.trans hC8 with
  | [c0, c1, c2, c3, c4, c5, c6, c7], _ =>
    obtain ⟨fuel, hf⟩ := h
    obtain ⟨xs, n, _, hx, _, hlen, hg⟩ := DataW.trod_struct hs hf
    have hlen' : xs.length = 8 := hlen
    obtain ⟨o0, k0⟩ := hone_of hone8 0 f0 rfl
    obtain ⟨o1, k1⟩ := hone_of hone8 1 f1 rfl
    obtain ⟨o2, k2⟩ := hone_of hone8 2 f2 rfl
    obtain ⟨o3, k3⟩ := hone_of hone8 3 f3 rfl
    obtain ⟨o4, k4⟩ := hone_of hone8 4 f4 rfl
    obtain ⟨o5, k5⟩ := hone_of hone8 5 f5 rfl
    obtain ⟨o6, k6⟩ := hone_of hone8 6 f6 rfl
    obtain ⟨o7, k7⟩ := hone_of hone8 7 f7 rfl
    have g0 := (hg 0 f0 rfl).trans (List.getElem?_eq_getElem (by omega))
    have g1 := (hg 1 f1 rfl).trans (List.getElem?_eq_getElem (by omega))
    have g2 := (hg 2 f2 rfl).trans (List.getElem?_eq_getElem (by omega))
    have g3 := (hg 3 f3 rfl).trans (List.getElem?_eq_getElem (by omega))
    have g4 := (hg 4 f4 rfl).trans (List.getElem?_eq_getElem (by omega))
    have g5 := (hg 5 f5 rfl).trans (List.getElem?_eq_getElem (by omega))
    have g6 := (hg 6 f6 rfl).trans (List.getElem?_eq_getElem (by omega))
    have g7 := (hg 7 f7 rfl).trans (List.getElem?_eq_getElem (by omega))
    rw [o0, k0] at g0
    rw [o1, k1] at g1
    rw [o2, k2] at g2
    rw [o3, k3] at g3
    rw [o4, k4] at g4
    rw [o5, k5] at g5
    rw [o6, k6] at g6
    rw [o7, k7] at g7
    obtain ⟨l0, rfl, q0⟩ := open_items e0 he h4 hone hC hint (u := c0) g0
    obtain ⟨l1, rfl, q1⟩ := open_items e1 he h4 hone hC hint (u := c1) g1
    obtain ⟨l2, rfl, q2⟩ := open_items e2 he h4 hone hC hint (u := c2) g2
    obtain ⟨l3, rfl, q3⟩ := open_items e3 he h4 hone hC hint (u := c3) g3
    obtain ⟨b, hb, _⟩ := DataW.trod_bool (cs := [c4]) e4 g4
    obtain ⟨l5, rfl, q5⟩ := open_items e5 he h4 hone hC hint (u := c5) g5
    obtain ⟨l6, rfl, q6⟩ := open_items e6 he h4 hone hC hint (u := c6) g6
    obtain ⟨l7, rfl, q7⟩ := open_items e7 he h4 hone hC hint (u := c7) g7
    simp at hb
    subst hb
    refine ⟨fun j => match j with | 0 => l0 | 1 => l1 | 2 => l2 | 3 => l3 | 4 => l5 | 5 => l6 | _ => l7, b, rfl, fun j => ?_⟩
    match j with
    | 0 => exact q0
    | 1 => exact q1
    | 2 => exact q2
    | 3 => exact q3
    | 4 => exact q5
    | 5 => exact q6
    | _ + 6 => exact q7
end
end Go.Proofs.Yticloblhdjnjkaa
