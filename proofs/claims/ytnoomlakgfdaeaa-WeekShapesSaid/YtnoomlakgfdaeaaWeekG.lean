/- Contract of the closure that ferialaw06.WeekShapes hands over: it is called with a day's shape. -/
import Derived.Test.YtnoomlakgfdaeaaWeekB
import Derived.Deep.RegionHeld3
import Derived.Laws.StructEq
namespace Go.Proofs.Ytnoomlakgfdaeaa
open Go.RowKit

/-- nothing that was there has changed but the blocks F, A, S -/
structure Sam3 (F A S : Nat) (w w' : World) : Prop where
  cell : ∀ p : Addr, p.block < w.heap.size → p.block ≠ F → p.block ≠ A → p.block ≠ S → w'.cell? p = w.cell? p
  size : w.heap.size ≤ w'.heap.size
  bel : ∀ (B : Nat) (a : World), B ≤ F → B ≤ A → B ≤ S → B ≤ w.heap.size → Below B a w → Below B a w'
theorem Sam3.refl (F A S : Nat) (w : World) : Sam3 F A S w w := ⟨fun _ _ _ _ _ => rfl, Nat.le_refl _, fun _ _ _ _ _ _ h => h⟩
theorem Sam3.trans {F A S : Nat} {a b c : World} (h : Sam3 F A S a b) (k : Sam3 F A S b c) : Sam3 F A S a c :=
  ⟨fun p hp h1 h2 h3 => (k.cell p (Nat.lt_of_lt_of_le hp h.size) h1 h2 h3).trans (h.cell p hp h1 h2 h3), Nat.le_trans h.size k.size, fun B x h1 h2 h3 h4 hb => k.bel B x h1 h2 h3 (Nat.le_trans h4 h.size) (h.bel B x h1 h2 h3 h4 hb)⟩
theorem Sam3.of_below {F A S : Nat} {w w' : World} (hb : Below w.heap.size w w') : Sam3 F A S w w' :=
  ⟨fun p hp _ _ _ => hb.cell hp, hb.size, fun B x _ _ _ h4 h => h.trans (hb.mono h4)⟩
theorem Sam3.alloc {F A S : Nat} {w w' : World} (h : Sam3 F A S w w') (ob : Obj) : Sam3 F A S w (w'.alloc ob) := h.trans (.of_below ((Below.refl _ _).alloc (Nat.le_refl _) ob))
theorem Sam3.drew {F A S : Nat} {w w' : World} (h : Sam3 F A S w w') : Sam3 F A S w w'.drew := ⟨h.cell, h.size, fun B x h1 h2 h3 h4 hb => (h.bel B x h1 h2 h3 h4 hb).drew⟩
theorem Sam3.set {F A S : Nat} {w w' : World} (h : Sam3 F A S w w') {X : Nat} (hX : X = F ∨ X = A ∨ X = S) (k : Nat) (v : Value) : Sam3 F A S w (w'.setCell ⟨X, k, none⟩ v) := by
  refine ⟨fun p hp h1 h2 h3 => ?_, by rw [World.size_setCell]; exact h.size, fun B x h1 h2 h3 h4 hb => (h.bel B x h1 h2 h3 h4 hb).setCell (by rcases hX with rfl | rfl | rfl <;> assumption) v⟩
  rw [World.cell?_setCell_other _ _ _ _ (by intro e; rw [← e] at h1 h2 h3; rcases hX with e' | e' | e'; exact h1 e'; exact h2 e'; exact h3 e')]
  exact h.cell p hp h1 h2 h3

/-- the closure's variables: whether all is fine, the day, the last day, how many days were seen, how many are wanted -/
structure YS (w : World) (F A T S M : Nat) (a t c m : Int) : Prop where
  f : w.cell? ⟨F, 0, none⟩ = some (.bool true)
  a : w.cell? ⟨A, 0, none⟩ = some (.int .i64 a)
  t : w.cell? ⟨T, 0, none⟩ = some (.int .i64 t)
  s : w.cell? ⟨S, 0, none⟩ = some (.int .i64 c)
  m : w.cell? ⟨M, 0, none⟩ = some (.int .u8 m)
  ff : w.frozen? ⟨F, 0, none⟩ = false
  fa : w.frozen? ⟨A, 0, none⟩ = false
  fs : w.frozen? ⟨S, 0, none⟩ = false
/-- the blocks are apart -/
structure Apart (F A T S M : Nat) : Prop where
  nfa : F ≠ A
  nfs : F ≠ S
  nas : A ≠ S
  ntf : T ≠ F
  nta : T ≠ A
  nts : T ≠ S
  nmf : M ≠ F
  nma : M ≠ A
  nms : M ≠ S
theorem YS.below {w w' : World} {F A T S M : Nat} {a t c m : Int} (h : YS w F A T S M a t c m) (hb : Below w.heap.size w w') : YS w' F A T S M a t c m := by
  have b1 := World.block_lt_of_cell? _ _ h.f
  have b2 := World.block_lt_of_cell? _ _ h.a
  have b3 := World.block_lt_of_cell? _ _ h.t
  have b4 := World.block_lt_of_cell? _ _ h.s
  have b5 := World.block_lt_of_cell? _ _ h.m
  exact ⟨(hb.cell (p := ⟨F, 0, none⟩) b1).trans h.f, (hb.cell (p := ⟨A, 0, none⟩) b2).trans h.a, (hb.cell (p := ⟨T, 0, none⟩) b3).trans h.t, (hb.cell (p := ⟨S, 0, none⟩) b4).trans h.s, (hb.cell (p := ⟨M, 0, none⟩) b5).trans h.m,
    (hb.frozen (p := ⟨F, 0, none⟩) b1).trans h.ff, (hb.frozen (p := ⟨A, 0, none⟩) b2).trans h.fa, (hb.frozen (p := ⟨S, 0, none⟩) b4).trans h.fs⟩

/-- what the closure leaves -/
def YPost (F A T S M : Nat) (a t c m : Int) (w : World) (e : Ending) (w' : World) : Prop := e = .returned (.bool (decide (c + 1 ≤ m))) ∧ Sam3 F A S w w' ∧ YS w' F A T S M (a + 1) t (c + 1) m

theorem keepY {F A S T X : Nat} {w W w2 : World} {a t : Int} {x0 x1 x2 x3 x4 x5 x6 x7 x8 x9 : Int} (hb : Below W.heap.size W w2)
    (h : Sam3 F A S w W ∧ W.frozen? ⟨F, 0, none⟩ = false ∧ W.cell? ⟨F, 0, none⟩ = some (.bool true) ∧ W.cell? ⟨A, 0, none⟩ = some (.int .i64 a) ∧ W.cell? ⟨T, 0, none⟩ = some (.int .i64 t) ∧ W.cell? ⟨X, 0, none⟩ = some (.int .i64 x0) ∧ W.cell? ⟨X, 1, none⟩ = some (.int .i64 x1) ∧ W.cell? ⟨X, 2, none⟩ = some (.int .i64 x2) ∧ W.cell? ⟨X, 3, none⟩ = some (.int .i64 x3) ∧ W.cell? ⟨X, 4, none⟩ = some (.int .i64 x4) ∧ W.cell? ⟨X, 5, none⟩ = some (.int .i64 x5) ∧ W.cell? ⟨X, 6, none⟩ = some (.int .i64 x6) ∧ W.cell? ⟨X, 7, none⟩ = some (.int .i64 x7) ∧ W.cell? ⟨X, 8, none⟩ = some (.int .i64 x8) ∧ W.cell? ⟨X, 9, none⟩ = some (.int .i64 x9)) :
    Sam3 F A S w w2 ∧ w2.frozen? ⟨F, 0, none⟩ = false ∧ w2.cell? ⟨F, 0, none⟩ = some (.bool true) ∧ w2.cell? ⟨A, 0, none⟩ = some (.int .i64 a) ∧ w2.cell? ⟨T, 0, none⟩ = some (.int .i64 t) ∧ w2.cell? ⟨X, 0, none⟩ = some (.int .i64 x0) ∧ w2.cell? ⟨X, 1, none⟩ = some (.int .i64 x1) ∧ w2.cell? ⟨X, 2, none⟩ = some (.int .i64 x2) ∧ w2.cell? ⟨X, 3, none⟩ = some (.int .i64 x3) ∧ w2.cell? ⟨X, 4, none⟩ = some (.int .i64 x4) ∧ w2.cell? ⟨X, 5, none⟩ = some (.int .i64 x5) ∧ w2.cell? ⟨X, 6, none⟩ = some (.int .i64 x6) ∧ w2.cell? ⟨X, 7, none⟩ = some (.int .i64 x7) ∧ w2.cell? ⟨X, 8, none⟩ = some (.int .i64 x8) ∧ w2.cell? ⟨X, 9, none⟩ = some (.int .i64 x9) := by
  obtain ⟨h0, hfz, h1, h2, h3, k0, k1, k2, k3, k4, k5, k6, k7, k8, k9⟩ := h
  exact ⟨h0.trans (.of_below hb), (hb.frozen (p := ⟨F, 0, none⟩) (World.block_lt_of_cell? _ _ h1)).trans hfz, (hb.cell (World.block_lt_of_cell? _ _ h1)).trans h1, (hb.cell (World.block_lt_of_cell? _ _ h2)).trans h2, (hb.cell (World.block_lt_of_cell? _ _ h3)).trans h3, (hb.cell (World.block_lt_of_cell? _ _ k0)).trans k0, (hb.cell (World.block_lt_of_cell? _ _ k1)).trans k1, (hb.cell (World.block_lt_of_cell? _ _ k2)).trans k2, (hb.cell (World.block_lt_of_cell? _ _ k3)).trans k3, (hb.cell (World.block_lt_of_cell? _ _ k4)).trans k4, (hb.cell (World.block_lt_of_cell? _ _ k5)).trans k5, (hb.cell (World.block_lt_of_cell? _ _ k6)).trans k6, (hb.cell (World.block_lt_of_cell? _ _ k7)).trans k7, (hb.cell (World.block_lt_of_cell? _ _ k8)).trans k8, (hb.cell (World.block_lt_of_cell? _ _ k9)).trans k9⟩

theorem keepZ {F A S T X : Nat} {w W : World} {a t : Int} {x0 x1 x2 x3 x4 x5 x6 x7 x8 x9 : Int} (n1 : F ≠ A) (n2 : F ≠ T) (n3 : F ≠ X)
    (h : Sam3 F A S w W ∧ W.frozen? ⟨F, 0, none⟩ = false ∧ W.cell? ⟨F, 0, none⟩ = some (.bool true) ∧ W.cell? ⟨A, 0, none⟩ = some (.int .i64 a) ∧ W.cell? ⟨T, 0, none⟩ = some (.int .i64 t) ∧ W.cell? ⟨X, 0, none⟩ = some (.int .i64 x0) ∧ W.cell? ⟨X, 1, none⟩ = some (.int .i64 x1) ∧ W.cell? ⟨X, 2, none⟩ = some (.int .i64 x2) ∧ W.cell? ⟨X, 3, none⟩ = some (.int .i64 x3) ∧ W.cell? ⟨X, 4, none⟩ = some (.int .i64 x4) ∧ W.cell? ⟨X, 5, none⟩ = some (.int .i64 x5) ∧ W.cell? ⟨X, 6, none⟩ = some (.int .i64 x6) ∧ W.cell? ⟨X, 7, none⟩ = some (.int .i64 x7) ∧ W.cell? ⟨X, 8, none⟩ = some (.int .i64 x8) ∧ W.cell? ⟨X, 9, none⟩ = some (.int .i64 x9)) :
    Sam3 F A S w (W.setCell ⟨F, 0, none⟩ (.bool true)) ∧ (W.setCell ⟨F, 0, none⟩ (.bool true)).frozen? ⟨F, 0, none⟩ = false ∧ (W.setCell ⟨F, 0, none⟩ (.bool true)).cell? ⟨F, 0, none⟩ = some (.bool true) ∧ (W.setCell ⟨F, 0, none⟩ (.bool true)).cell? ⟨A, 0, none⟩ = some (.int .i64 a) ∧ (W.setCell ⟨F, 0, none⟩ (.bool true)).cell? ⟨T, 0, none⟩ = some (.int .i64 t) ∧ (W.setCell ⟨F, 0, none⟩ (.bool true)).cell? ⟨X, 0, none⟩ = some (.int .i64 x0) ∧ (W.setCell ⟨F, 0, none⟩ (.bool true)).cell? ⟨X, 1, none⟩ = some (.int .i64 x1) ∧ (W.setCell ⟨F, 0, none⟩ (.bool true)).cell? ⟨X, 2, none⟩ = some (.int .i64 x2) ∧ (W.setCell ⟨F, 0, none⟩ (.bool true)).cell? ⟨X, 3, none⟩ = some (.int .i64 x3) ∧ (W.setCell ⟨F, 0, none⟩ (.bool true)).cell? ⟨X, 4, none⟩ = some (.int .i64 x4) ∧ (W.setCell ⟨F, 0, none⟩ (.bool true)).cell? ⟨X, 5, none⟩ = some (.int .i64 x5) ∧ (W.setCell ⟨F, 0, none⟩ (.bool true)).cell? ⟨X, 6, none⟩ = some (.int .i64 x6) ∧ (W.setCell ⟨F, 0, none⟩ (.bool true)).cell? ⟨X, 7, none⟩ = some (.int .i64 x7) ∧ (W.setCell ⟨F, 0, none⟩ (.bool true)).cell? ⟨X, 8, none⟩ = some (.int .i64 x8) ∧ (W.setCell ⟨F, 0, none⟩ (.bool true)).cell? ⟨X, 9, none⟩ = some (.int .i64 x9) := by
  obtain ⟨h0, hfz, h1, h2, h3, k0, k1, k2, k3, k4, k5, k6, k7, k8, k9⟩ := h
  have o : ∀ (B k : Nat), F ≠ B → (W.setCell ⟨F, 0, none⟩ (.bool true)).cell? ⟨B, k, none⟩ = W.cell? ⟨B, k, none⟩ := fun B k hB => World.cell?_setCell_other _ _ _ _ (by intro e; injection e with e; exact hB e)
  exact ⟨h0.set (.inl rfl) 0 _, by rw [World.frozen?_setCell]; exact hfz, World.cell?_setCell_same _ _ _ h1, (o _ _ n1).trans h2, (o _ _ n2).trans h3, (o _ _ n3).trans k0, (o _ _ n3).trans k1, (o _ _ n3).trans k2, (o _ _ n3).trans k3, (o _ _ n3).trans k4, (o _ _ n3).trans k5, (o _ _ n3).trans k6, (o _ _ n3).trans k7, (o _ _ n3).trans k8, (o _ _ n3).trans k9⟩

set_option maxHeartbeats 1000000 in
theorem eq_shape (x0 x1 x2 x3 x4 x5 x6 x7 x8 x9 : Int) (w : World) : (binOp .eql 68 (.agg #[.int .i64 x0, .int .i64 x1, .int .i64 x2, .int .i64 x3, .int .i64 x4, .int .i64 x5, .int .i64 x6, .int .i64 x7, .int .i64 x8, .int .i64 x9]) (.agg #[.int .i64 x0, .int .i64 x1, .int .i64 x2, .int .i64 x3, .int .i64 x4, .int .i64 x5, .int .i64 x6, .int .i64 x7, .int .i64 x8, .int .i64 x9])).run Try.prog w = .ok (.bool true) w := by
  have u3 := Try.underlying3
  have a3 := Try.isAgg3
  have z3 := Try.sizeOf3
  have hS : Try.prog.underlying 68 = some (.struct (Try.prog.fieldsOf 68)) := by kernel_rfl
  have hp : Try.prog.stoodInHeld 68 = false := by kernel_rfl
  rw [run_eql_struct, show (10000 : Nat) = 9999 + 1 from rfl, run_equalIn_agg w 9999 68 _ _ hS hp]
  simp only [Program.fieldsOf, Try.underlying68]
  go_simp

set_option maxRecDepth 100000 in
set_option maxHeartbeats 4000000 in
theorem yield_mid (F A T S M : Nat) (a t c m : Int) (w : World) (ha0 : 0 < a) (ha1 : a < 146096) (hat : a ≤ t) (hc0 : 0 ≤ c) (hc1 : c ≤ 1000) (hm0 : 0 ≤ m) (hm1 : m ≤ 255) (hap : Apart F A T S M) (hy : YS w F A T S M a t c m) :
    Calls Try.prog 63 #[shV a, .pointer (some ⟨F, 0, none⟩), .pointer (some ⟨A, 0, none⟩), .pointer (some ⟨T, 0, none⟩), .pointer (some ⟨S, 0, none⟩), .pointer (some ⟨M, 0, none⟩)] w (YPost F A T S M a t c m w) := by
  have hb1 : a ≤ 146096 := by omega
  have hb0 : 0 ≤ a := by omega
  have hf := shV_form a
  have hr := fun W => rshape_any a W (by omega) (by omega)
  obtain ⟨x0, hx0⟩ : ∃ x, x = a := ⟨_, rfl⟩
  obtain ⟨x1, hx1⟩ : ∃ x, x = dY a := ⟨_, rfl⟩
  obtain ⟨x2, hx2⟩ : ∃ x, x = dM a := ⟨_, rfl⟩
  obtain ⟨x3, hx3⟩ : ∃ x, x = dD a := ⟨_, rfl⟩
  obtain ⟨x4, hx4⟩ : ∃ x, x = dim (dY a) (dM a) - dD a + 1 := ⟨_, rfl⟩
  obtain ⟨x5, hx5⟩ : ∃ x, x = wd a := ⟨_, rfl⟩
  obtain ⟨x6, hx6⟩ : ∃ x, x = wi (dD a) (dim (dY a) (dM a)) := ⟨_, rfl⟩
  obtain ⟨x7, hx7⟩ : ∃ x, x = wo (dD a) (dim (dY a) (dM a)) := ⟨_, rfl⟩
  obtain ⟨x8, hx8⟩ : ∃ x, x = wi (cum (dY a) (dM a) + dD a) (365 + lp (dY a)) := ⟨_, rfl⟩
  obtain ⟨x9, hx9⟩ : ∃ x, x = wo (cum (dY a) (dM a) + dD a) (365 + lp (dY a)) := ⟨_, rfl⟩
  rw [← hx9, ← hx8, ← hx7, ← hx6, ← hx5, ← hx4, ← hx3, ← hx2, ← hx1] at hf
  have hx0' := hx0
  obtain ⟨z, hz⟩ : ∃ z, z = shV a := ⟨_, rfl⟩
  simp only [← hz] at hr hf
  rw [← hz, hf]
  simp only [hf] at hr
  have HR := Lib.hid hr
  obtain ⟨nfa, nfs, nas, ntf, nta, nts, nmf, nma, nms⟩ := hap
  obtain ⟨c1, c2, c3, c4, c5, f1, f2, f3⟩ := hy
  have b1 := World.block_lt_of_cell? _ _ c1
  have b2 := World.block_lt_of_cell? _ _ c2
  have b3 := World.block_lt_of_cell? _ _ c3
  have b4 := World.block_lt_of_cell? _ _ c4
  have b5 := World.block_lt_of_cell? _ _ c5
  have heq := eq_shape a x1 x2 x3 x4 x5 x6 x7 x8 x9
  clear hf hr hz hx0 hx1 hx2 hx3 hx4 hx5 hx6 hx7 hx8 hx9 hx0'
  go_enter Try.func63, Try.ntmps63
  go_wp2_with fail
  have hS0 : Sam3 F A S w (w.alloc (.cells #[.int .i64 a, .int .i64 x1, .int .i64 x2, .int .i64 x3, .int .i64 x4, .int .i64 x5, .int .i64 x6, .int .i64 x7, .int .i64 x8, .int .i64 x9] 68)).drew ∧ (w.alloc (.cells #[.int .i64 a, .int .i64 x1, .int .i64 x2, .int .i64 x3, .int .i64 x4, .int .i64 x5, .int .i64 x6, .int .i64 x7, .int .i64 x8, .int .i64 x9] 68)).drew.frozen? ⟨F, 0, none⟩ = false ∧ (w.alloc (.cells #[.int .i64 a, .int .i64 x1, .int .i64 x2, .int .i64 x3, .int .i64 x4, .int .i64 x5, .int .i64 x6, .int .i64 x7, .int .i64 x8, .int .i64 x9] 68)).drew.cell? ⟨F, 0, none⟩ = some (.bool true) ∧ (w.alloc (.cells #[.int .i64 a, .int .i64 x1, .int .i64 x2, .int .i64 x3, .int .i64 x4, .int .i64 x5, .int .i64 x6, .int .i64 x7, .int .i64 x8, .int .i64 x9] 68)).drew.cell? ⟨A, 0, none⟩ = some (.int .i64 a) ∧ (w.alloc (.cells #[.int .i64 a, .int .i64 x1, .int .i64 x2, .int .i64 x3, .int .i64 x4, .int .i64 x5, .int .i64 x6, .int .i64 x7, .int .i64 x8, .int .i64 x9] 68)).drew.cell? ⟨T, 0, none⟩ = some (.int .i64 t) ∧ (w.alloc (.cells #[.int .i64 a, .int .i64 x1, .int .i64 x2, .int .i64 x3, .int .i64 x4, .int .i64 x5, .int .i64 x6, .int .i64 x7, .int .i64 x8, .int .i64 x9] 68)).drew.cell? ⟨w.heap.size, 0, none⟩ = some (.int .i64 a) ∧ (w.alloc (.cells #[.int .i64 a, .int .i64 x1, .int .i64 x2, .int .i64 x3, .int .i64 x4, .int .i64 x5, .int .i64 x6, .int .i64 x7, .int .i64 x8, .int .i64 x9] 68)).drew.cell? ⟨w.heap.size, 1, none⟩ = some (.int .i64 x1) ∧ (w.alloc (.cells #[.int .i64 a, .int .i64 x1, .int .i64 x2, .int .i64 x3, .int .i64 x4, .int .i64 x5, .int .i64 x6, .int .i64 x7, .int .i64 x8, .int .i64 x9] 68)).drew.cell? ⟨w.heap.size, 2, none⟩ = some (.int .i64 x2) ∧ (w.alloc (.cells #[.int .i64 a, .int .i64 x1, .int .i64 x2, .int .i64 x3, .int .i64 x4, .int .i64 x5, .int .i64 x6, .int .i64 x7, .int .i64 x8, .int .i64 x9] 68)).drew.cell? ⟨w.heap.size, 3, none⟩ = some (.int .i64 x3) ∧ (w.alloc (.cells #[.int .i64 a, .int .i64 x1, .int .i64 x2, .int .i64 x3, .int .i64 x4, .int .i64 x5, .int .i64 x6, .int .i64 x7, .int .i64 x8, .int .i64 x9] 68)).drew.cell? ⟨w.heap.size, 4, none⟩ = some (.int .i64 x4) ∧ (w.alloc (.cells #[.int .i64 a, .int .i64 x1, .int .i64 x2, .int .i64 x3, .int .i64 x4, .int .i64 x5, .int .i64 x6, .int .i64 x7, .int .i64 x8, .int .i64 x9] 68)).drew.cell? ⟨w.heap.size, 5, none⟩ = some (.int .i64 x5) ∧ (w.alloc (.cells #[.int .i64 a, .int .i64 x1, .int .i64 x2, .int .i64 x3, .int .i64 x4, .int .i64 x5, .int .i64 x6, .int .i64 x7, .int .i64 x8, .int .i64 x9] 68)).drew.cell? ⟨w.heap.size, 6, none⟩ = some (.int .i64 x6) ∧ (w.alloc (.cells #[.int .i64 a, .int .i64 x1, .int .i64 x2, .int .i64 x3, .int .i64 x4, .int .i64 x5, .int .i64 x6, .int .i64 x7, .int .i64 x8, .int .i64 x9] 68)).drew.cell? ⟨w.heap.size, 7, none⟩ = some (.int .i64 x7) ∧ (w.alloc (.cells #[.int .i64 a, .int .i64 x1, .int .i64 x2, .int .i64 x3, .int .i64 x4, .int .i64 x5, .int .i64 x6, .int .i64 x7, .int .i64 x8, .int .i64 x9] 68)).drew.cell? ⟨w.heap.size, 8, none⟩ = some (.int .i64 x8) ∧ (w.alloc (.cells #[.int .i64 a, .int .i64 x1, .int .i64 x2, .int .i64 x3, .int .i64 x4, .int .i64 x5, .int .i64 x6, .int .i64 x7, .int .i64 x8, .int .i64 x9] 68)).drew.cell? ⟨w.heap.size, 9, none⟩ = some (.int .i64 x9) := ⟨((Sam3.refl F A S w).alloc _).drew, by go_simp, by go_simp, by go_simp, by go_simp, by go_simp, by go_simp, by go_simp, by go_simp, by go_simp, by go_simp, by go_simp, by go_simp, by go_simp, by go_simp⟩
  have HS0 := Lib.hid hS0
  have nfx : F ≠ w.heap.size := by omega
  clear hS0
  go_region_held3 (fun w' => Sam3 F A S w w' ∧ w'.frozen? ⟨F, 0, none⟩ = false ∧ w'.cell? ⟨F, 0, none⟩ = some (.bool true) ∧ w'.cell? ⟨A, 0, none⟩ = some (.int .i64 a) ∧ w'.cell? ⟨T, 0, none⟩ = some (.int .i64 t) ∧ w'.cell? ⟨w.heap.size, 0, none⟩ = some (.int .i64 a) ∧ w'.cell? ⟨w.heap.size, 1, none⟩ = some (.int .i64 x1) ∧ w'.cell? ⟨w.heap.size, 2, none⟩ = some (.int .i64 x2) ∧ w'.cell? ⟨w.heap.size, 3, none⟩ = some (.int .i64 x3) ∧ w'.cell? ⟨w.heap.size, 4, none⟩ = some (.int .i64 x4) ∧ w'.cell? ⟨w.heap.size, 5, none⟩ = some (.int .i64 x5) ∧ w'.cell? ⟨w.heap.size, 6, none⟩ = some (.int .i64 x6) ∧ w'.cell? ⟨w.heap.size, 7, none⟩ = some (.int .i64 x7) ∧ w'.cell? ⟨w.heap.size, 8, none⟩ = some (.int .i64 x8) ∧ w'.cell? ⟨w.heap.size, 9, none⟩ = some (.int .i64 x9))
    (first | exact keepY hb2 (by assumption) | exact HS0.out | exact keepZ nfa (Ne.symm ntf) nfx (by assumption))
    (first
      | (go_at_call 61; refine (HR.out _).mono ?_; rintro e w2 ⟨rfl, hb2⟩))
  rename_i hh
  obtain ⟨h0, _⟩ := hh
  have H0 := Lib.hid h0
  have s1 : w2.cell? ⟨F, 0, none⟩ = some (.bool true) := (hb2.cell (p := ⟨F, 0, none⟩) (by simp; omega)).trans (by go_simp)
  have s2 : w2.cell? ⟨A, 0, none⟩ = some (.int .i64 a) := (hb2.cell (p := ⟨A, 0, none⟩) (by simp; omega)).trans (by go_simp)
  have s3 : w2.cell? ⟨T, 0, none⟩ = some (.int .i64 t) := (hb2.cell (p := ⟨T, 0, none⟩) (by simp; omega)).trans (by go_simp)
  have s4 : w2.cell? ⟨S, 0, none⟩ = some (.int .i64 c) := (hb2.cell (p := ⟨S, 0, none⟩) (by simp; omega)).trans (by go_simp)
  have s5 : w2.cell? ⟨M, 0, none⟩ = some (.int .u8 m) := (hb2.cell (p := ⟨M, 0, none⟩) (by simp; omega)).trans (by go_simp)
  have r1 : w2.frozen? ⟨F, 0, none⟩ = false := (hb2.frozen (p := ⟨F, 0, none⟩) (by simp; omega)).trans (by go_simp)
  have r2 : w2.frozen? ⟨A, 0, none⟩ = false := (hb2.frozen (p := ⟨A, 0, none⟩) (by simp; omega)).trans (by go_simp)
  have r3 : w2.frozen? ⟨S, 0, none⟩ = false := (hb2.frozen (p := ⟨S, 0, none⟩) (by simp; omega)).trans (by go_simp)
  have v1 : F < w2.heap.size := World.block_lt_of_cell? _ _ s1
  have v2 : A < w2.heap.size := World.block_lt_of_cell? _ _ s2
  have v4 : S < w2.heap.size := World.block_lt_of_cell? _ _ s4
  have HEQ := Lib.hid heq
  have HR0 := Lib.hid HS0
  clear h0 hb2 c1 c2 c3 c4 c5 f1 f2 f3 b1 b2 b3 b4 b5 heq HS0 HR
  go_wp2
  go_ret
  refine ⟨rfl, (H0.out.set (.inr (.inl rfl)) 0 _).set (.inr (.inr rfl)) 0 _, ?_⟩
  exact ⟨by go_simp, by go_simp, by go_simp, by go_simp, by go_simp, by go_simp, by go_simp, by go_simp⟩

set_option maxRecDepth 100000 in
set_option maxHeartbeats 4000000 in
theorem yield_lo (F A T S M : Nat) (t c m : Int) (w : World) (hat : 0 ≤ t) (hc0 : 0 ≤ c) (hc1 : c ≤ 1000) (hm0 : 0 ≤ m) (hm1 : m ≤ 255) (hap : Apart F A T S M) (hy : YS w F A T S M 0 t c m) :
    Calls Try.prog 63 #[shV 0, .pointer (some ⟨F, 0, none⟩), .pointer (some ⟨A, 0, none⟩), .pointer (some ⟨T, 0, none⟩), .pointer (some ⟨S, 0, none⟩), .pointer (some ⟨M, 0, none⟩)] w (YPost F A T S M 0 t c m w) := by
  have hb1 : 0 ≤ 146096 := by omega
  have hb0 : 0 ≤ 0 := by omega
  have hf := shV_form 0
  have hr := fun W => rshape_any 0 W (by omega) (by omega)
  obtain ⟨x0, hx0⟩ : ∃ x, x = 0 := ⟨_, rfl⟩
  obtain ⟨x1, hx1⟩ : ∃ x, x = dY 0 := ⟨_, rfl⟩
  obtain ⟨x2, hx2⟩ : ∃ x, x = dM 0 := ⟨_, rfl⟩
  obtain ⟨x3, hx3⟩ : ∃ x, x = dD 0 := ⟨_, rfl⟩
  obtain ⟨x4, hx4⟩ : ∃ x, x = dim (dY 0) (dM 0) - dD 0 + 1 := ⟨_, rfl⟩
  obtain ⟨x5, hx5⟩ : ∃ x, x = wd 0 := ⟨_, rfl⟩
  obtain ⟨x6, hx6⟩ : ∃ x, x = wi (dD 0) (dim (dY 0) (dM 0)) := ⟨_, rfl⟩
  obtain ⟨x7, hx7⟩ : ∃ x, x = wo (dD 0) (dim (dY 0) (dM 0)) := ⟨_, rfl⟩
  obtain ⟨x8, hx8⟩ : ∃ x, x = wi (cum (dY 0) (dM 0) + dD 0) (365 + lp (dY 0)) := ⟨_, rfl⟩
  obtain ⟨x9, hx9⟩ : ∃ x, x = wo (cum (dY 0) (dM 0) + dD 0) (365 + lp (dY 0)) := ⟨_, rfl⟩
  rw [← hx9, ← hx8, ← hx7, ← hx6, ← hx5, ← hx4, ← hx3, ← hx2, ← hx1] at hf
  have hx0' := hx0
  obtain ⟨z, hz⟩ : ∃ z, z = shV 0 := ⟨_, rfl⟩
  simp only [← hz] at hr hf
  rw [← hz, hf]
  simp only [hf] at hr
  have HR := Lib.hid hr
  obtain ⟨nfa, nfs, nas, ntf, nta, nts, nmf, nma, nms⟩ := hap
  obtain ⟨c1, c2, c3, c4, c5, f1, f2, f3⟩ := hy
  have b1 := World.block_lt_of_cell? _ _ c1
  have b2 := World.block_lt_of_cell? _ _ c2
  have b3 := World.block_lt_of_cell? _ _ c3
  have b4 := World.block_lt_of_cell? _ _ c4
  have b5 := World.block_lt_of_cell? _ _ c5
  have heq := eq_shape 0 x1 x2 x3 x4 x5 x6 x7 x8 x9
  clear hf hr hz hx0 hx1 hx2 hx3 hx4 hx5 hx6 hx7 hx8 hx9 hx0'
  go_enter Try.func63, Try.ntmps63
  go_wp2_with fail
  have hS0 : Sam3 F A S w (w.alloc (.cells #[.int .i64 0, .int .i64 x1, .int .i64 x2, .int .i64 x3, .int .i64 x4, .int .i64 x5, .int .i64 x6, .int .i64 x7, .int .i64 x8, .int .i64 x9] 68)).drew ∧ (w.alloc (.cells #[.int .i64 0, .int .i64 x1, .int .i64 x2, .int .i64 x3, .int .i64 x4, .int .i64 x5, .int .i64 x6, .int .i64 x7, .int .i64 x8, .int .i64 x9] 68)).drew.frozen? ⟨F, 0, none⟩ = false ∧ (w.alloc (.cells #[.int .i64 0, .int .i64 x1, .int .i64 x2, .int .i64 x3, .int .i64 x4, .int .i64 x5, .int .i64 x6, .int .i64 x7, .int .i64 x8, .int .i64 x9] 68)).drew.cell? ⟨F, 0, none⟩ = some (.bool true) ∧ (w.alloc (.cells #[.int .i64 0, .int .i64 x1, .int .i64 x2, .int .i64 x3, .int .i64 x4, .int .i64 x5, .int .i64 x6, .int .i64 x7, .int .i64 x8, .int .i64 x9] 68)).drew.cell? ⟨A, 0, none⟩ = some (.int .i64 0) ∧ (w.alloc (.cells #[.int .i64 0, .int .i64 x1, .int .i64 x2, .int .i64 x3, .int .i64 x4, .int .i64 x5, .int .i64 x6, .int .i64 x7, .int .i64 x8, .int .i64 x9] 68)).drew.cell? ⟨T, 0, none⟩ = some (.int .i64 t) ∧ (w.alloc (.cells #[.int .i64 0, .int .i64 x1, .int .i64 x2, .int .i64 x3, .int .i64 x4, .int .i64 x5, .int .i64 x6, .int .i64 x7, .int .i64 x8, .int .i64 x9] 68)).drew.cell? ⟨w.heap.size, 0, none⟩ = some (.int .i64 0) ∧ (w.alloc (.cells #[.int .i64 0, .int .i64 x1, .int .i64 x2, .int .i64 x3, .int .i64 x4, .int .i64 x5, .int .i64 x6, .int .i64 x7, .int .i64 x8, .int .i64 x9] 68)).drew.cell? ⟨w.heap.size, 1, none⟩ = some (.int .i64 x1) ∧ (w.alloc (.cells #[.int .i64 0, .int .i64 x1, .int .i64 x2, .int .i64 x3, .int .i64 x4, .int .i64 x5, .int .i64 x6, .int .i64 x7, .int .i64 x8, .int .i64 x9] 68)).drew.cell? ⟨w.heap.size, 2, none⟩ = some (.int .i64 x2) ∧ (w.alloc (.cells #[.int .i64 0, .int .i64 x1, .int .i64 x2, .int .i64 x3, .int .i64 x4, .int .i64 x5, .int .i64 x6, .int .i64 x7, .int .i64 x8, .int .i64 x9] 68)).drew.cell? ⟨w.heap.size, 3, none⟩ = some (.int .i64 x3) ∧ (w.alloc (.cells #[.int .i64 0, .int .i64 x1, .int .i64 x2, .int .i64 x3, .int .i64 x4, .int .i64 x5, .int .i64 x6, .int .i64 x7, .int .i64 x8, .int .i64 x9] 68)).drew.cell? ⟨w.heap.size, 4, none⟩ = some (.int .i64 x4) ∧ (w.alloc (.cells #[.int .i64 0, .int .i64 x1, .int .i64 x2, .int .i64 x3, .int .i64 x4, .int .i64 x5, .int .i64 x6, .int .i64 x7, .int .i64 x8, .int .i64 x9] 68)).drew.cell? ⟨w.heap.size, 5, none⟩ = some (.int .i64 x5) ∧ (w.alloc (.cells #[.int .i64 0, .int .i64 x1, .int .i64 x2, .int .i64 x3, .int .i64 x4, .int .i64 x5, .int .i64 x6, .int .i64 x7, .int .i64 x8, .int .i64 x9] 68)).drew.cell? ⟨w.heap.size, 6, none⟩ = some (.int .i64 x6) ∧ (w.alloc (.cells #[.int .i64 0, .int .i64 x1, .int .i64 x2, .int .i64 x3, .int .i64 x4, .int .i64 x5, .int .i64 x6, .int .i64 x7, .int .i64 x8, .int .i64 x9] 68)).drew.cell? ⟨w.heap.size, 7, none⟩ = some (.int .i64 x7) ∧ (w.alloc (.cells #[.int .i64 0, .int .i64 x1, .int .i64 x2, .int .i64 x3, .int .i64 x4, .int .i64 x5, .int .i64 x6, .int .i64 x7, .int .i64 x8, .int .i64 x9] 68)).drew.cell? ⟨w.heap.size, 8, none⟩ = some (.int .i64 x8) ∧ (w.alloc (.cells #[.int .i64 0, .int .i64 x1, .int .i64 x2, .int .i64 x3, .int .i64 x4, .int .i64 x5, .int .i64 x6, .int .i64 x7, .int .i64 x8, .int .i64 x9] 68)).drew.cell? ⟨w.heap.size, 9, none⟩ = some (.int .i64 x9) := ⟨((Sam3.refl F A S w).alloc _).drew, by go_simp, by go_simp, by go_simp, by go_simp, by go_simp, by go_simp, by go_simp, by go_simp, by go_simp, by go_simp, by go_simp, by go_simp, by go_simp, by go_simp⟩
  have HS0 := Lib.hid hS0
  have nfx : F ≠ w.heap.size := by omega
  clear hS0
  go_region_held3 (fun w' => Sam3 F A S w w' ∧ w'.frozen? ⟨F, 0, none⟩ = false ∧ w'.cell? ⟨F, 0, none⟩ = some (.bool true) ∧ w'.cell? ⟨A, 0, none⟩ = some (.int .i64 0) ∧ w'.cell? ⟨T, 0, none⟩ = some (.int .i64 t) ∧ w'.cell? ⟨w.heap.size, 0, none⟩ = some (.int .i64 0) ∧ w'.cell? ⟨w.heap.size, 1, none⟩ = some (.int .i64 x1) ∧ w'.cell? ⟨w.heap.size, 2, none⟩ = some (.int .i64 x2) ∧ w'.cell? ⟨w.heap.size, 3, none⟩ = some (.int .i64 x3) ∧ w'.cell? ⟨w.heap.size, 4, none⟩ = some (.int .i64 x4) ∧ w'.cell? ⟨w.heap.size, 5, none⟩ = some (.int .i64 x5) ∧ w'.cell? ⟨w.heap.size, 6, none⟩ = some (.int .i64 x6) ∧ w'.cell? ⟨w.heap.size, 7, none⟩ = some (.int .i64 x7) ∧ w'.cell? ⟨w.heap.size, 8, none⟩ = some (.int .i64 x8) ∧ w'.cell? ⟨w.heap.size, 9, none⟩ = some (.int .i64 x9))
    (first | exact keepY hb2 (by assumption) | exact HS0.out | exact keepZ nfa (Ne.symm ntf) nfx (by assumption))
    (first
      | (go_at_call 61; refine (HR.out _).mono ?_; rintro e w2 ⟨rfl, hb2⟩))
  rename_i hh
  obtain ⟨h0, _⟩ := hh
  have H0 := Lib.hid h0
  have s1 : w2.cell? ⟨F, 0, none⟩ = some (.bool true) := (hb2.cell (p := ⟨F, 0, none⟩) (by simp; omega)).trans (by go_simp)
  have s2 : w2.cell? ⟨A, 0, none⟩ = some (.int .i64 0) := (hb2.cell (p := ⟨A, 0, none⟩) (by simp; omega)).trans (by go_simp)
  have s3 : w2.cell? ⟨T, 0, none⟩ = some (.int .i64 t) := (hb2.cell (p := ⟨T, 0, none⟩) (by simp; omega)).trans (by go_simp)
  have s4 : w2.cell? ⟨S, 0, none⟩ = some (.int .i64 c) := (hb2.cell (p := ⟨S, 0, none⟩) (by simp; omega)).trans (by go_simp)
  have s5 : w2.cell? ⟨M, 0, none⟩ = some (.int .u8 m) := (hb2.cell (p := ⟨M, 0, none⟩) (by simp; omega)).trans (by go_simp)
  have r1 : w2.frozen? ⟨F, 0, none⟩ = false := (hb2.frozen (p := ⟨F, 0, none⟩) (by simp; omega)).trans (by go_simp)
  have r2 : w2.frozen? ⟨A, 0, none⟩ = false := (hb2.frozen (p := ⟨A, 0, none⟩) (by simp; omega)).trans (by go_simp)
  have r3 : w2.frozen? ⟨S, 0, none⟩ = false := (hb2.frozen (p := ⟨S, 0, none⟩) (by simp; omega)).trans (by go_simp)
  have v1 : F < w2.heap.size := World.block_lt_of_cell? _ _ s1
  have v2 : A < w2.heap.size := World.block_lt_of_cell? _ _ s2
  have v4 : S < w2.heap.size := World.block_lt_of_cell? _ _ s4
  have HEQ := Lib.hid heq
  have HR0 := Lib.hid HS0
  clear h0 hb2 c1 c2 c3 c4 c5 f1 f2 f3 b1 b2 b3 b4 b5 heq HS0 HR
  go_wp2
  go_ret
  refine ⟨rfl, (H0.out.set (.inr (.inl rfl)) 0 _).set (.inr (.inr rfl)) 0 _, ?_⟩
  exact ⟨by go_simp, by go_simp, by go_simp, by go_simp, by go_simp, by go_simp, by go_simp, by go_simp⟩

set_option maxRecDepth 100000 in
set_option maxHeartbeats 4000000 in
theorem yield_hi (F A T S M : Nat) (t c m : Int) (w : World) (hat : 146096 ≤ t) (hc0 : 0 ≤ c) (hc1 : c ≤ 1000) (hm0 : 0 ≤ m) (hm1 : m ≤ 255) (hap : Apart F A T S M) (hy : YS w F A T S M 146096 t c m) :
    Calls Try.prog 63 #[shV 146096, .pointer (some ⟨F, 0, none⟩), .pointer (some ⟨A, 0, none⟩), .pointer (some ⟨T, 0, none⟩), .pointer (some ⟨S, 0, none⟩), .pointer (some ⟨M, 0, none⟩)] w (YPost F A T S M 146096 t c m w) := by
  have hb1 : 146096 ≤ 146096 := by omega
  have hb0 : 0 ≤ 146096 := by omega
  have hf := shV_form 146096
  have hr := fun W => rshape_any 146096 W (by omega) (by omega)
  obtain ⟨x0, hx0⟩ : ∃ x, x = 146096 := ⟨_, rfl⟩
  obtain ⟨x1, hx1⟩ : ∃ x, x = dY 146096 := ⟨_, rfl⟩
  obtain ⟨x2, hx2⟩ : ∃ x, x = dM 146096 := ⟨_, rfl⟩
  obtain ⟨x3, hx3⟩ : ∃ x, x = dD 146096 := ⟨_, rfl⟩
  obtain ⟨x4, hx4⟩ : ∃ x, x = dim (dY 146096) (dM 146096) - dD 146096 + 1 := ⟨_, rfl⟩
  obtain ⟨x5, hx5⟩ : ∃ x, x = wd 146096 := ⟨_, rfl⟩
  obtain ⟨x6, hx6⟩ : ∃ x, x = wi (dD 146096) (dim (dY 146096) (dM 146096)) := ⟨_, rfl⟩
  obtain ⟨x7, hx7⟩ : ∃ x, x = wo (dD 146096) (dim (dY 146096) (dM 146096)) := ⟨_, rfl⟩
  obtain ⟨x8, hx8⟩ : ∃ x, x = wi (cum (dY 146096) (dM 146096) + dD 146096) (365 + lp (dY 146096)) := ⟨_, rfl⟩
  obtain ⟨x9, hx9⟩ : ∃ x, x = wo (cum (dY 146096) (dM 146096) + dD 146096) (365 + lp (dY 146096)) := ⟨_, rfl⟩
  rw [← hx9, ← hx8, ← hx7, ← hx6, ← hx5, ← hx4, ← hx3, ← hx2, ← hx1] at hf
  have hx0' := hx0
  obtain ⟨z, hz⟩ : ∃ z, z = shV 146096 := ⟨_, rfl⟩
  simp only [← hz] at hr hf
  rw [← hz, hf]
  simp only [hf] at hr
  have HR := Lib.hid hr
  obtain ⟨nfa, nfs, nas, ntf, nta, nts, nmf, nma, nms⟩ := hap
  obtain ⟨c1, c2, c3, c4, c5, f1, f2, f3⟩ := hy
  have b1 := World.block_lt_of_cell? _ _ c1
  have b2 := World.block_lt_of_cell? _ _ c2
  have b3 := World.block_lt_of_cell? _ _ c3
  have b4 := World.block_lt_of_cell? _ _ c4
  have b5 := World.block_lt_of_cell? _ _ c5
  have heq := eq_shape 146096 x1 x2 x3 x4 x5 x6 x7 x8 x9
  clear hf hr hz hx0 hx1 hx2 hx3 hx4 hx5 hx6 hx7 hx8 hx9 hx0'
  go_enter Try.func63, Try.ntmps63
  go_wp2_with fail
  have hS0 : Sam3 F A S w (w.alloc (.cells #[.int .i64 146096, .int .i64 x1, .int .i64 x2, .int .i64 x3, .int .i64 x4, .int .i64 x5, .int .i64 x6, .int .i64 x7, .int .i64 x8, .int .i64 x9] 68)).drew ∧ (w.alloc (.cells #[.int .i64 146096, .int .i64 x1, .int .i64 x2, .int .i64 x3, .int .i64 x4, .int .i64 x5, .int .i64 x6, .int .i64 x7, .int .i64 x8, .int .i64 x9] 68)).drew.frozen? ⟨F, 0, none⟩ = false ∧ (w.alloc (.cells #[.int .i64 146096, .int .i64 x1, .int .i64 x2, .int .i64 x3, .int .i64 x4, .int .i64 x5, .int .i64 x6, .int .i64 x7, .int .i64 x8, .int .i64 x9] 68)).drew.cell? ⟨F, 0, none⟩ = some (.bool true) ∧ (w.alloc (.cells #[.int .i64 146096, .int .i64 x1, .int .i64 x2, .int .i64 x3, .int .i64 x4, .int .i64 x5, .int .i64 x6, .int .i64 x7, .int .i64 x8, .int .i64 x9] 68)).drew.cell? ⟨A, 0, none⟩ = some (.int .i64 146096) ∧ (w.alloc (.cells #[.int .i64 146096, .int .i64 x1, .int .i64 x2, .int .i64 x3, .int .i64 x4, .int .i64 x5, .int .i64 x6, .int .i64 x7, .int .i64 x8, .int .i64 x9] 68)).drew.cell? ⟨T, 0, none⟩ = some (.int .i64 t) ∧ (w.alloc (.cells #[.int .i64 146096, .int .i64 x1, .int .i64 x2, .int .i64 x3, .int .i64 x4, .int .i64 x5, .int .i64 x6, .int .i64 x7, .int .i64 x8, .int .i64 x9] 68)).drew.cell? ⟨w.heap.size, 0, none⟩ = some (.int .i64 146096) ∧ (w.alloc (.cells #[.int .i64 146096, .int .i64 x1, .int .i64 x2, .int .i64 x3, .int .i64 x4, .int .i64 x5, .int .i64 x6, .int .i64 x7, .int .i64 x8, .int .i64 x9] 68)).drew.cell? ⟨w.heap.size, 1, none⟩ = some (.int .i64 x1) ∧ (w.alloc (.cells #[.int .i64 146096, .int .i64 x1, .int .i64 x2, .int .i64 x3, .int .i64 x4, .int .i64 x5, .int .i64 x6, .int .i64 x7, .int .i64 x8, .int .i64 x9] 68)).drew.cell? ⟨w.heap.size, 2, none⟩ = some (.int .i64 x2) ∧ (w.alloc (.cells #[.int .i64 146096, .int .i64 x1, .int .i64 x2, .int .i64 x3, .int .i64 x4, .int .i64 x5, .int .i64 x6, .int .i64 x7, .int .i64 x8, .int .i64 x9] 68)).drew.cell? ⟨w.heap.size, 3, none⟩ = some (.int .i64 x3) ∧ (w.alloc (.cells #[.int .i64 146096, .int .i64 x1, .int .i64 x2, .int .i64 x3, .int .i64 x4, .int .i64 x5, .int .i64 x6, .int .i64 x7, .int .i64 x8, .int .i64 x9] 68)).drew.cell? ⟨w.heap.size, 4, none⟩ = some (.int .i64 x4) ∧ (w.alloc (.cells #[.int .i64 146096, .int .i64 x1, .int .i64 x2, .int .i64 x3, .int .i64 x4, .int .i64 x5, .int .i64 x6, .int .i64 x7, .int .i64 x8, .int .i64 x9] 68)).drew.cell? ⟨w.heap.size, 5, none⟩ = some (.int .i64 x5) ∧ (w.alloc (.cells #[.int .i64 146096, .int .i64 x1, .int .i64 x2, .int .i64 x3, .int .i64 x4, .int .i64 x5, .int .i64 x6, .int .i64 x7, .int .i64 x8, .int .i64 x9] 68)).drew.cell? ⟨w.heap.size, 6, none⟩ = some (.int .i64 x6) ∧ (w.alloc (.cells #[.int .i64 146096, .int .i64 x1, .int .i64 x2, .int .i64 x3, .int .i64 x4, .int .i64 x5, .int .i64 x6, .int .i64 x7, .int .i64 x8, .int .i64 x9] 68)).drew.cell? ⟨w.heap.size, 7, none⟩ = some (.int .i64 x7) ∧ (w.alloc (.cells #[.int .i64 146096, .int .i64 x1, .int .i64 x2, .int .i64 x3, .int .i64 x4, .int .i64 x5, .int .i64 x6, .int .i64 x7, .int .i64 x8, .int .i64 x9] 68)).drew.cell? ⟨w.heap.size, 8, none⟩ = some (.int .i64 x8) ∧ (w.alloc (.cells #[.int .i64 146096, .int .i64 x1, .int .i64 x2, .int .i64 x3, .int .i64 x4, .int .i64 x5, .int .i64 x6, .int .i64 x7, .int .i64 x8, .int .i64 x9] 68)).drew.cell? ⟨w.heap.size, 9, none⟩ = some (.int .i64 x9) := ⟨((Sam3.refl F A S w).alloc _).drew, by go_simp, by go_simp, by go_simp, by go_simp, by go_simp, by go_simp, by go_simp, by go_simp, by go_simp, by go_simp, by go_simp, by go_simp, by go_simp, by go_simp⟩
  have HS0 := Lib.hid hS0
  have nfx : F ≠ w.heap.size := by omega
  clear hS0
  go_region_held3 (fun w' => Sam3 F A S w w' ∧ w'.frozen? ⟨F, 0, none⟩ = false ∧ w'.cell? ⟨F, 0, none⟩ = some (.bool true) ∧ w'.cell? ⟨A, 0, none⟩ = some (.int .i64 146096) ∧ w'.cell? ⟨T, 0, none⟩ = some (.int .i64 t) ∧ w'.cell? ⟨w.heap.size, 0, none⟩ = some (.int .i64 146096) ∧ w'.cell? ⟨w.heap.size, 1, none⟩ = some (.int .i64 x1) ∧ w'.cell? ⟨w.heap.size, 2, none⟩ = some (.int .i64 x2) ∧ w'.cell? ⟨w.heap.size, 3, none⟩ = some (.int .i64 x3) ∧ w'.cell? ⟨w.heap.size, 4, none⟩ = some (.int .i64 x4) ∧ w'.cell? ⟨w.heap.size, 5, none⟩ = some (.int .i64 x5) ∧ w'.cell? ⟨w.heap.size, 6, none⟩ = some (.int .i64 x6) ∧ w'.cell? ⟨w.heap.size, 7, none⟩ = some (.int .i64 x7) ∧ w'.cell? ⟨w.heap.size, 8, none⟩ = some (.int .i64 x8) ∧ w'.cell? ⟨w.heap.size, 9, none⟩ = some (.int .i64 x9))
    (first | exact keepY hb2 (by assumption) | exact HS0.out | exact keepZ nfa (Ne.symm ntf) nfx (by assumption))
    (first
      | (go_at_call 61; refine (HR.out _).mono ?_; rintro e w2 ⟨rfl, hb2⟩))
  rename_i hh
  obtain ⟨h0, _⟩ := hh
  have H0 := Lib.hid h0
  have s1 : w2.cell? ⟨F, 0, none⟩ = some (.bool true) := (hb2.cell (p := ⟨F, 0, none⟩) (by simp; omega)).trans (by go_simp)
  have s2 : w2.cell? ⟨A, 0, none⟩ = some (.int .i64 146096) := (hb2.cell (p := ⟨A, 0, none⟩) (by simp; omega)).trans (by go_simp)
  have s3 : w2.cell? ⟨T, 0, none⟩ = some (.int .i64 t) := (hb2.cell (p := ⟨T, 0, none⟩) (by simp; omega)).trans (by go_simp)
  have s4 : w2.cell? ⟨S, 0, none⟩ = some (.int .i64 c) := (hb2.cell (p := ⟨S, 0, none⟩) (by simp; omega)).trans (by go_simp)
  have s5 : w2.cell? ⟨M, 0, none⟩ = some (.int .u8 m) := (hb2.cell (p := ⟨M, 0, none⟩) (by simp; omega)).trans (by go_simp)
  have r1 : w2.frozen? ⟨F, 0, none⟩ = false := (hb2.frozen (p := ⟨F, 0, none⟩) (by simp; omega)).trans (by go_simp)
  have r2 : w2.frozen? ⟨A, 0, none⟩ = false := (hb2.frozen (p := ⟨A, 0, none⟩) (by simp; omega)).trans (by go_simp)
  have r3 : w2.frozen? ⟨S, 0, none⟩ = false := (hb2.frozen (p := ⟨S, 0, none⟩) (by simp; omega)).trans (by go_simp)
  have v1 : F < w2.heap.size := World.block_lt_of_cell? _ _ s1
  have v2 : A < w2.heap.size := World.block_lt_of_cell? _ _ s2
  have v4 : S < w2.heap.size := World.block_lt_of_cell? _ _ s4
  have HEQ := Lib.hid heq
  have HR0 := Lib.hid HS0
  clear h0 hb2 c1 c2 c3 c4 c5 f1 f2 f3 b1 b2 b3 b4 b5 heq HS0 HR
  go_wp2
  go_ret
  refine ⟨rfl, (H0.out.set (.inr (.inl rfl)) 0 _).set (.inr (.inr rfl)) 0 _, ?_⟩
  exact ⟨by go_simp, by go_simp, by go_simp, by go_simp, by go_simp, by go_simp, by go_simp, by go_simp⟩

theorem yield_any (F A T S M : Nat) (a t c m : Int) (w : World) (ha0 : 0 ≤ a) (ha1 : a ≤ 146096) (hat : a ≤ t) (hc0 : 0 ≤ c) (hc1 : c ≤ 1000) (hm0 : 0 ≤ m) (hm1 : m ≤ 255) (hap : Apart F A T S M) (hy : YS w F A T S M a t c m) :
    Calls Try.prog 63 #[shV a, .pointer (some ⟨F, 0, none⟩), .pointer (some ⟨A, 0, none⟩), .pointer (some ⟨T, 0, none⟩), .pointer (some ⟨S, 0, none⟩), .pointer (some ⟨M, 0, none⟩)] w (YPost F A T S M a t c m w) := by
  by_cases h0 : a = 0
  · subst h0
    exact yield_lo F A T S M t c m w hat hc0 hc1 hm0 hm1 hap hy
  · by_cases h1 : a = 146096
    · subst h1
      exact yield_hi F A T S M t c m w hat hc0 hc1 hm0 hm1 hap hy
    · exact yield_mid F A T S M a t c m w (by omega) (by omega) hat hc0 hc1 hm0 hm1 hap hy
end Go.Proofs.Ytnoomlakgfdaeaa
