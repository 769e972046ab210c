/- Contracts: math/bits.Mul64 and num.Times: a product, or that it is no int64. -/
import Derived.Test.YticloblhdjnjkaaParts
import Derived.Lib.Mul64
import Derived.Laws.Bits64b
namespace Go.Proofs.Yticloblhdjnjkaa
open Go.RowKit

theorem mu_mask (a : Nat) (ha : a < 18446744073709551616) : bits .and .u64 (a : Int) 4294967295 = ((a % 4294967296 : Nat) : Int) := by
  have h := bits_and_u64_nat a 4294967295 ha (by omega)
  have e : a &&& 4294967295 = a % 4294967296 := Nat.and_two_pow_sub_one_eq_mod a 32
  rw [e] at h
  exact h
theorem mu_div (a : Nat) : (a : Int) / 4294967296 = ((a / 4294967296 : Nat) : Int) := by omega
theorem mu_mul (a b : Nat) : (a : Int) * (b : Int) = ((a * b : Nat) : Int) := (Int.natCast_mul a b).symm
theorem mu_add (a b : Nat) : (a : Int) + (b : Int) = ((a + b : Nat) : Int) := (Int.natCast_add a b).symm
theorem mu_wrap (a : Nat) (ha : a < 18446744073709551616) : IntKind.u64.wrap (a : Int) = (a : Int) := by rw [IntKind.wrap_u64]; omega
theorem mu_wrapm (a : Nat) : IntKind.u64.wrap (a : Int) = ((a % 18446744073709551616 : Nat) : Int) := by rw [IntKind.wrap_u64]; omega

set_option maxHeartbeats 1000000 in
theorem mul64_any (x y : Nat) (hx : x < 18446744073709551616) (hy : y < 18446744073709551616) (w : World) :
    Calls Try.prog 52 #[.int .u64 x, .int .u64 y] w fun e w' => e = .returned (.tuple #[.int .u64 ((x * y / 18446744073709551616 : Nat) : Int), .int .u64 ((x * y % 18446744073709551616 : Nat) : Int)]) ∧ w = w' := by
  obtain ⟨bd, bt, bw, hhi⟩ := Lib.mul64_hi x y hx hy
  have ba := Lib.half_mul_le (a := x / 4294967296) (b := y / 4294967296) (by omega) (by omega)
  have bb := Lib.half_mul_le (a := x / 4294967296) (b := y % 4294967296) (by omega) (by omega)
  have bc := Lib.half_mul_le (a := x % 4294967296) (b := y / 4294967296) (by omega) (by omega)
  have ba' : x / 4294967296 * (y / 4294967296) < 18446744073709551616 := by omega
  have bb' : x / 4294967296 * (y % 4294967296) < 18446744073709551616 := by omega
  have bc' : x % 4294967296 * (y / 4294967296) < 18446744073709551616 := by omega
  have bh1 : x / 4294967296 * (y / 4294967296) + (x / 4294967296 * (y % 4294967296) + x % 4294967296 * (y % 4294967296) / 4294967296) / 4294967296 < 18446744073709551616 := by omega
  have bh : x / 4294967296 * (y / 4294967296) + (x / 4294967296 * (y % 4294967296) + x % 4294967296 * (y % 4294967296) / 4294967296) / 4294967296 + ((x / 4294967296 * (y % 4294967296) + x % 4294967296 * (y % 4294967296) / 4294967296) % 4294967296 + x % 4294967296 * (y / 4294967296)) / 4294967296 < 18446744073709551616 := by omega
  go_enter Try.func52, Try.ntmps52
  go_wp2
  simp only [mu_mask x hx, mu_mask y hy, mu_div, mu_mul, mu_add, mu_wrap _ bd, mu_wrap _ bb', mu_wrap _ bt, mu_mask _ bt, mu_wrap _ bc', mu_wrap _ bw, mu_wrap _ ba', mu_wrap _ bh1, mu_wrap _ bh, mu_wrapm (x * y)]
  rw [hhi]
  go_ret2
  exact ⟨rfl, rfl⟩

theorem prod_diff {a b : Int} (h : (a < 0 ∧ ¬ b < 0) ∨ (¬ a < 0 ∧ b < 0)) : a * b = -((a.natAbs * b.natAbs : Nat) : Int) := by
  rw [Int.natCast_mul]
  rcases h with ⟨h1, h2⟩ | ⟨h1, h2⟩
  · rw [show (a.natAbs : Int) = -a by omega, show (b.natAbs : Int) = b by omega]; rw [Int.neg_mul, Int.neg_neg]
  · rw [show (a.natAbs : Int) = a by omega, show (b.natAbs : Int) = -b by omega]; rw [Int.mul_neg, Int.neg_neg]
theorem prod_same {a b : Int} (h : (a < 0 ∧ b < 0) ∨ (¬ a < 0 ∧ ¬ b < 0)) : a * b = ((a.natAbs * b.natAbs : Nat) : Int) := by
  rw [Int.natCast_mul]
  rcases h with ⟨h1, h2⟩ | ⟨h1, h2⟩
  · rw [show (a.natAbs : Int) = -a by omega, show (b.natAbs : Int) = -b by omega]; exact (Int.neg_mul_neg a b).symm
  · rw [show (a.natAbs : Int) = a by omega, show (b.natAbs : Int) = b by omega]

/-- what Times answers -/
def timesV (a b : Int) : Value :=
  if -9223372036854775808 ≤ a * b ∧ a * b ≤ 9223372036854775807 then .tuple #[.int .i64 (a * b), .bool true] else .tuple #[.int .i64 0, .bool false]
theorem timesV_yes {a b : Int} (h : -9223372036854775808 ≤ a * b ∧ a * b ≤ 9223372036854775807) : timesV a b = .tuple #[.int .i64 (a * b), .bool true] := by unfold timesV; rw [if_pos h]
theorem timesV_no {a b : Int} (h : ¬ (-9223372036854775808 ≤ a * b ∧ a * b ≤ 9223372036854775807)) : timesV a b = .tuple #[.int .i64 0, .bool false] := by unfold timesV; rw [if_neg h]
theorem ret_val {a b : Value} (h : a = b) : Ending.returned a = .returned b := by rw [h]

theorem ret_pair {k : IntKind} {a b : Int} {c : Bool} (h : a = b) : Ending.returned (.tuple #[.int k a, .bool c]) = .returned (.tuple #[.int k b, .bool c]) := by rw [h]
theorem conv_pos (L : Nat) (h : L < 9223372036854775808) : wrap64 (L : Int) = (L : Int) := by unfold wrap64; omega
theorem conv_neg (L : Nat) (h : L ≤ 9223372036854775808) : wrap64 (IntKind.u64.wrap (-(L : Int))) = -(L : Int) := by rw [IntKind.wrap_u64]; unfold wrap64; omega

set_option maxHeartbeats 1000000 in
theorem times_any (a b : Int) (w : World) (a0 : -9223372036854775808 ≤ a) (a1 : a ≤ 9223372036854775807) (b0 : -9223372036854775808 ≤ b) (b1 : b ≤ 9223372036854775807) :
    Calls Try.prog 34 #[.int .i64 a, .int .i64 b] w fun e w' => e = .returned (timesV a b) ∧ w = w' := by
  have pd := @prod_diff a b
  have ps := @prod_same a b
  obtain ⟨H, hH⟩ : ∃ H : Nat, H = a.natAbs * b.natAbs / 18446744073709551616 := ⟨_, rfl⟩
  obtain ⟨L, hL⟩ : ∃ L : Nat, L = a.natAbs * b.natAbs % 18446744073709551616 := ⟨_, rfl⟩
  have HH := Lib.hid hH
  have HL := Lib.hid hL
  obtain ⟨N, hN⟩ : ∃ N : Nat, N = a.natAbs * b.natAbs := ⟨_, rfl⟩
  obtain ⟨Z, hZ⟩ : ∃ Z : Int, Z = a * b := ⟨_, rfl⟩
  rw [← hN] at hH hL pd ps
  rw [← hZ] at pd ps
  have TY := fun h => Lib.hid (@timesV_yes a b h)
  have TN := fun h => Lib.hid (@timesV_no a b h)
  rw [← hZ] at TY TN
  clear hN hZ
  have lb : L < 18446744073709551616 := by omega
  have cs : ((H : Int) != 0) = true ∧ H ≠ 0 ∨ ((H : Int) != 0) = false ∧ H = 0 ∧ decide ((9223372036854775808 : Int) < (L : Int)) = true ∧ 9223372036854775808 < L ∨ ((H : Int) != 0) = false ∧ H = 0 ∧ decide ((9223372036854775808 : Int) < (L : Int)) = false ∧ ((L : Int) == 9223372036854775808) = true ∧ L = 9223372036854775808 ∨
      ((H : Int) != 0) = false ∧ H = 0 ∧ decide ((9223372036854775808 : Int) < (L : Int)) = false ∧ ((L : Int) == 9223372036854775808) = false ∧ L < 9223372036854775808 := by
    simp only [bne_iff_ne, ne_eq, bne_eq_false_iff_eq, beq_iff_eq, beq_eq_false_iff_ne, decide_eq_true_eq, decide_eq_false_iff_not]
    omega
  by_cases sA : a < 0 <;> by_cases sB : b < 0
  all_goals
    have hz := by first | exact pd (.inl ⟨sA, sB⟩) | exact pd (.inr ⟨sA, sB⟩) | exact ps (.inl ⟨sA, sB⟩) | exact ps (.inr ⟨sA, sB⟩)
    have vA := by first | exact decide_eq_false sA | exact decide_eq_true sA
    have vB := by first | exact decide_eq_false sB | exact decide_eq_true sB
    clear pd ps
    rcases cs with ⟨d1, e1⟩ | ⟨d1, e1, d2, e2⟩ | ⟨d1, e1, d2, d3, e2⟩ | ⟨d1, e1, d2, d3, e2⟩
    all_goals
      have ans := by
        first
        | exact TN (by omega)
        | exact (Lib.hid ⟨(TY (by omega)).out, (by omega), (by omega)⟩ : Hid (timesV a b = .tuple #[.int .i64 Z, .bool true] ∧ Z = (L : Int) ∧ L < 9223372036854775808))
        | exact (Lib.hid ⟨(TY (by omega)).out, (by omega), (by omega)⟩ : Hid (timesV a b = .tuple #[.int .i64 Z, .bool true] ∧ Z = -(L : Int) ∧ L ≤ 9223372036854775808))
      clear TY TN hH hL e1 hz
      try clear e2
      clear sA sB
      go_enter Try.func34, Try.ntmps34
      go_wp2_with fail
      refine (size_any _ _ a0 a1).mono ?_
      rintro e w' ⟨rfl, rfl⟩
      go_wp2_with fail
      refine (size_any _ _ b0 b1).mono ?_
      rintro e w' ⟨rfl, rfl⟩
      go_wp2_with fail
      refine (mul64_any _ _ (by omega) (by omega) _).mono ?_
      rintro e w' ⟨rfl, rfl⟩
      rw [← HH.out, ← HL.out]
      go_wp2
      go_ret2
      first
      | exact ⟨ret_val ans.out.symm, rfl⟩
      | exact ⟨(ret_pair (conv_pos L ans.out.2.2)).trans (ret_val (by rw [ans.out.1, ans.out.2.1])), rfl⟩
      | exact ⟨(ret_pair (conv_neg L ans.out.2.2)).trans (ret_val (by rw [ans.out.1, ans.out.2.1])), rfl⟩
end Go.Proofs.Yticloblhdjnjkaa
