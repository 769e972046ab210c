/- Contracts for chapter 28: are lists of items the same (the reference's Same, slices.Equal)? -/
import Derived.Test.YticloblhdjnjkaaCalI
import Derived.Laws.StructEq
namespace Go.Proofs.Yticloblhdjnjkaa
open Go.RowKit

def itEq (a b : It) : Bool := (a.k == b.k && (a.f == b.f && (a.t == b.t && a.s == b.s)))
theorem itEq_iff (a b : It) : itEq a b = true ↔ a = b := by
  obtain ⟨a0, a1, a2, a3⟩ := a
  obtain ⟨b0, b1, b2, b3⟩ := b
  unfold itEq
  simp only [Bool.and_eq_true, beq_iff_eq, It.mk.injEq]
def sameL (xs ys : List It) : Bool := xs.length == ys.length && (List.range xs.length).all fun j => itEq (xs.getD j ⟨0, 0, 0, 0⟩) (ys.getD j ⟨0, 0, 0, 0⟩)
theorem same_len {xs ys : List It} (h : xs.length ≠ ys.length) : sameL xs ys = false := by
  unfold sameL
  rw [beq_eq_false_iff_ne.2 h]
  rfl
theorem same_all {xs ys : List It} (h : xs.length = ys.length) (ha : ∀ j, j < xs.length → itEq (xs.getD j ⟨0, 0, 0, 0⟩) (ys.getD j ⟨0, 0, 0, 0⟩) = true) : sameL xs ys = true := by
  unfold sameL
  rw [beq_iff_eq.2 h, Bool.true_and, List.all_eq_true]
  intro j hj
  exact ha j (by simpa using hj)
theorem same_not {xs ys : List It} {j : Nat} (hj : j < xs.length) (ha : itEq (xs.getD j ⟨0, 0, 0, 0⟩) (ys.getD j ⟨0, 0, 0, 0⟩) = false) : sameL xs ys = false := by
  cases h : sameL xs ys with
  | false => rfl
  | true =>
    unfold sameL at h
    simp only [Bool.and_eq_true, List.all_eq_true] at h
    have := h.2 j (by simpa using hj)
    rw [ha] at this
    cases this
theorem same_refl (xs : List It) : sameL xs xs = true := same_all rfl fun j _ => (itEq_iff _ _).2 rfl

set_option maxHeartbeats 1000000 in
theorem neq_items (x0 x1 x2 x3 y0 y1 y2 y3 : Int) (w : World) : (binOp .neq 77 (.agg #[.int .i64 x0, .int .i64 x1, .int .i64 x2, .int .i64 x3]) (.agg #[.int .i64 y0, .int .i64 y1, .int .i64 y2, .int .i64 y3])).run Try.prog w = .ok (.bool (!itEq ⟨x0, x1, x2, x3⟩ ⟨y0, y1, y2, y3⟩)) w := by
  have u3 := Try.underlying3
  have a3 := Try.isAgg3
  have z3 := Try.sizeOf3
  have hS : Try.prog.underlying 77 = some (.struct (Try.prog.fieldsOf 77)) := by kernel_rfl
  have hp : Try.prog.stoodInHeld 77 = false := by kernel_rfl
  rw [run_neq_struct, show (10000 : Nat) = 9999 + 1 from rfl, run_equalIn_agg w 9999 77 _ _ hS hp]
  simp only [Program.fieldsOf, Try.underlying77]
  unfold itEq
  dsimp only
  go_simp
  by_cases h0 : x0 = y0 <;> by_cases h1 : x1 = y1 <;> by_cases h2 : x2 = y2 <;> by_cases h3 : x3 = y3 <;> simp [h0, h1, h2, h3]

set_option maxRecDepth 100000 in
set_option maxHeartbeats 4000000 in
theorem rsame_any (l m : Sl) (w : World) (h1 : l.ok w) (h2 : m.ok w) : Calls Try.prog 39 #[l.v, m.v] w (Kept (.bool (sameL l.xs m.xs)) w) := by
  obtain ⟨A, c, xs⟩ := l
  obtain ⟨A', c', ys⟩ := m
  obtain ⟨hi, hm⟩ := h1
  obtain ⟨hi', hm'⟩ := h2
  unfold Sl.v
  dsimp only at hi hm hi' hm' ⊢
  obtain ⟨R, hR⟩ : ∃ R, R = sameL xs ys := ⟨_, rfl⟩
  have f1 := fun (h : xs.length ≠ ys.length) => hR.trans (same_len h)
  have f2 := fun (h : xs.length = ys.length) ha => hR.trans (same_all h ha)
  have f3 := fun (j : Nat) (h : j < xs.length) ha => hR.trans (same_not h ha)
  rw [← hR]
  obtain ⟨n, hn⟩ : ∃ n, n = xs.length := ⟨_, rfl⟩
  obtain ⟨n', hn'⟩ : ∃ n, n = ys.length := ⟨_, rfl⟩
  rw [← hn] at hm
  rw [← hn'] at hm'
  simp only [← hn, ← hn'] at f1 f2 f3
  rw [← hn, ← hn']
  have HN := Lib.hid hn
  have HN' := Lib.hid hn'
  have HI := Lib.hid hi
  have HI' := Lib.hid hi'
  have F1 := Lib.hid f1
  have F2 := Lib.hid f2
  have F3 := Lib.hid f3
  clear hR f1 f2 f3 hn hn' hi hi'
  by_cases hne : n = n'
  · subst hne
    go_enter Try.func39, Try.ntmps39
    go_wp2_with fail
    go_loopw [5] (fun i wr => ∃ k : Nat, k ≤ n ∧ i = .int .i64 k ∧ Hid (∀ j, j < k → itEq (xs.getD j ⟨0, 0, 0, 0⟩) (ys.getD j ⟨0, 0, 0, 0⟩) = true) ∧ Hid (Below w.heap.size w wr)) (fun i _ => n - (intOf i).toNat)
    case atStart => exact ⟨0, by omega, rfl, Lib.hid (fun j hj => absurd hj (by omega)), Lib.hid (Below.refl _ _)⟩
    case round =>
      obtain ⟨k, hk, rfl, HP, HB⟩ := hrel
      by_cases hlt : k < n
      · obtain ⟨B, off, rfl, g0, g1, g2, g3⟩ := (HI.out.below HB.out) k (by rw [← HN.out]; exact hlt)
        obtain ⟨B', off', rfl, k0, k1, k2, k3⟩ := (HI'.out.below HB.out) k (by rw [← HN'.out]; exact hlt)
        have f3 := F3.out k hlt
        have on := fun (h : itEq (xs.getD k ⟨0, 0, 0, 0⟩) (ys.getD k ⟨0, 0, 0, 0⟩) = true) (j : Nat) (hj : j < k + 1) => (show itEq (xs.getD j ⟨0, 0, 0, 0⟩) (ys.getD j ⟨0, 0, 0, 0⟩) = true from by
          by_cases e : j = k
          · rw [e]; exact h
          · exact HP.out j (by omega))
        obtain ⟨x, hx⟩ : ∃ x, x = xs.getD k ⟨0, 0, 0, 0⟩ := ⟨_, rfl⟩
        obtain ⟨y, hy⟩ : ∃ y, y = ys.getD k ⟨0, 0, 0, 0⟩ := ⟨_, rfl⟩
        rw [← hx] at g0 g1 g2 g3
        rw [← hy] at k0 k1 k2 k3
        rw [← hx, ← hy] at f3 on
        have FF := Lib.hid f3
        have HO := Lib.hid on
        clear hx hy f3 on
        have bl := World.block_lt_of_cell? _ _ g0
        have bl' := World.block_lt_of_cell? _ _ k0
        obtain ⟨xk, xa, xt, xs'⟩ := x
        obtain ⟨yk, ya, yt, ys'⟩ := y
        dsimp only at g0 g1 g2 g3 k0 k1 k2 k3
        obtain ⟨v, hv⟩ : ∃ v, v = itEq ⟨xk, xa, xt, xs'⟩ ⟨yk, ya, yt, ys'⟩ := ⟨_, rfl⟩
        have hne := neq_items xk xa xt xs' yk ya yt ys'
        rw [← hv] at FF HO
        simp only [← hv] at hne
        clear hv
        cases v
        · have E := Lib.hid (FF.out rfl)
          go_wp2_with fail
          go_quiet (fail)
          go_wp2
          go_ret
          exact ⟨ret_val (congrArg Value.bool E.out.symm), below_drewN HB.out _⟩
        · have HO' := Lib.hid (HO.out rfl)
          go_wp2_with fail
          go_quiet (fail)
          have HB' := Lib.hid (below_drewN HB.out nq)
          go_wp2
          go_roundw
          case rel => exact ⟨k + 1, by omega, by go_num, HO', HB'⟩
          case measure => simp [intOf]; omega
      · obtain rfl : k = n := by omega
        have E := Lib.hid (F2.out trivial HP.out)
        go_wp2
        go_ret
        exact ⟨ret_val (congrArg Value.bool E.out.symm), HB.out⟩
  · have E := Lib.hid (F1.out hne)
    have g : ((n : Int) != n') = true := by rw [bne_iff_ne]; omega
    go_enter Try.func39, Try.ntmps39
    go_wp2
    go_ret
    exact ⟨ret_val (congrArg Value.bool E.out.symm), Below.refl _ _⟩

set_option maxRecDepth 100000 in
set_option maxHeartbeats 4000000 in
theorem equal_any (l m : Sl) (w : World) (h1 : l.ok w) (h2 : m.ok w) : Calls Try.prog 58 #[l.v, m.v] w (Kept (.bool (sameL l.xs m.xs)) w) := by
  obtain ⟨A, c, xs⟩ := l
  obtain ⟨A', c', ys⟩ := m
  obtain ⟨hi, hm⟩ := h1
  obtain ⟨hi', hm'⟩ := h2
  unfold Sl.v
  dsimp only at hi hm hi' hm' ⊢
  obtain ⟨R, hR⟩ : ∃ R, R = sameL xs ys := ⟨_, rfl⟩
  have f1 := fun (h : xs.length ≠ ys.length) => hR.trans (same_len h)
  have f2 := fun (h : xs.length = ys.length) ha => hR.trans (same_all h ha)
  have f3 := fun (j : Nat) (h : j < xs.length) ha => hR.trans (same_not h ha)
  rw [← hR]
  obtain ⟨n, hn⟩ : ∃ n, n = xs.length := ⟨_, rfl⟩
  obtain ⟨n', hn'⟩ : ∃ n, n = ys.length := ⟨_, rfl⟩
  rw [← hn] at hm
  rw [← hn'] at hm'
  simp only [← hn, ← hn'] at f1 f2 f3
  rw [← hn, ← hn']
  have HN := Lib.hid hn
  have HN' := Lib.hid hn'
  have HI := Lib.hid hi
  have HI' := Lib.hid hi'
  have F1 := Lib.hid f1
  have F2 := Lib.hid f2
  have F3 := Lib.hid f3
  clear hR f1 f2 f3 hn hn' hi hi'
  by_cases hne : n = n'
  · subst hne
    go_enter Try.func58, Try.ntmps58
    go_wp2_with fail
    go_loopw [13] (fun i wr => ∃ k : Nat, k ≤ n ∧ i = .int .i64 k ∧ Hid (∀ j, j < k → itEq (xs.getD j ⟨0, 0, 0, 0⟩) (ys.getD j ⟨0, 0, 0, 0⟩) = true) ∧ Hid (Below w.heap.size w wr)) (fun i _ => n - (intOf i).toNat)
    case atStart => exact ⟨0, by omega, rfl, Lib.hid (fun j hj => absurd hj (by omega)), Lib.hid (Below.refl _ _)⟩
    case round =>
      obtain ⟨k, hk, rfl, HP, HB⟩ := hrel
      by_cases hlt : k < n
      · obtain ⟨B, off, rfl, g0, g1, g2, g3⟩ := (HI.out.below HB.out) k (by rw [← HN.out]; exact hlt)
        obtain ⟨B', off', rfl, k0, k1, k2, k3⟩ := (HI'.out.below HB.out) k (by rw [← HN'.out]; exact hlt)
        have f3 := F3.out k hlt
        have on := fun (h : itEq (xs.getD k ⟨0, 0, 0, 0⟩) (ys.getD k ⟨0, 0, 0, 0⟩) = true) (j : Nat) (hj : j < k + 1) => (show itEq (xs.getD j ⟨0, 0, 0, 0⟩) (ys.getD j ⟨0, 0, 0, 0⟩) = true from by
          by_cases e : j = k
          · rw [e]; exact h
          · exact HP.out j (by omega))
        obtain ⟨x, hx⟩ : ∃ x, x = xs.getD k ⟨0, 0, 0, 0⟩ := ⟨_, rfl⟩
        obtain ⟨y, hy⟩ : ∃ y, y = ys.getD k ⟨0, 0, 0, 0⟩ := ⟨_, rfl⟩
        rw [← hx] at g0 g1 g2 g3
        rw [← hy] at k0 k1 k2 k3
        rw [← hx, ← hy] at f3 on
        have FF := Lib.hid f3
        have HO := Lib.hid on
        clear hx hy f3 on
        have bl := World.block_lt_of_cell? _ _ g0
        have bl' := World.block_lt_of_cell? _ _ k0
        obtain ⟨xk, xa, xt, xs'⟩ := x
        obtain ⟨yk, ya, yt, ys'⟩ := y
        dsimp only at g0 g1 g2 g3 k0 k1 k2 k3
        obtain ⟨v, hv⟩ : ∃ v, v = itEq ⟨xk, xa, xt, xs'⟩ ⟨yk, ya, yt, ys'⟩ := ⟨_, rfl⟩
        have hne := neq_items xk xa xt xs' yk ya yt ys'
        rw [← hv] at FF HO
        simp only [← hv] at hne
        clear hv
        cases v
        · have E := Lib.hid (FF.out rfl)
          go_wp2_with fail
          go_quiet (fail)
          go_wp2
          go_ret
          exact ⟨ret_val (congrArg Value.bool E.out.symm), below_drewN HB.out _⟩
        · have HO' := Lib.hid (HO.out rfl)
          go_wp2_with fail
          go_quiet (fail)
          have HB' := Lib.hid (below_drewN HB.out nq)
          go_wp2
          go_roundw
          case rel => exact ⟨k + 1, by omega, by go_num, HO', HB'⟩
          case measure => simp [intOf]; omega
      · obtain rfl : k = n := by omega
        have E := Lib.hid (F2.out trivial HP.out)
        go_wp2
        go_ret
        exact ⟨ret_val (congrArg Value.bool E.out.symm), HB.out⟩
  · have E := Lib.hid (F1.out hne)
    have g : ((n : Int) != n') = true := by rw [bne_iff_ne]; omega
    go_enter Try.func58, Try.ntmps58
    go_wp2
    go_ret
    exact ⟨ret_val (congrArg Value.bool E.out.symm), Below.refl _ _⟩
end Go.Proofs.Yticloblhdjnjkaa
