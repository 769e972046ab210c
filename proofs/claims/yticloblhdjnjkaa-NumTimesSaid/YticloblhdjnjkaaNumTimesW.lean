/- The walk of ferialaw01.NumTimes: it returns true. -/
import Derived.Test.YticloblhdjnjkaaTimes
namespace Go.Proofs.Yticloblhdjnjkaa
open Go.RowKit

theorem fits_iff (x y m : Nat) (hy : 0 < y) : x ≤ m / y ↔ x * y ≤ m := Nat.le_div_iff_mul_le hy

theorem times_case (a b : Int) (a0 : -9223372036854775808 ≤ a) (a1 : a ≤ 9223372036854775807) (b0 : -9223372036854775808 ≤ b) (b1 : b ≤ 9223372036854775807) (ha : a ≠ 0) (hb : b ≠ 0) (m : Nat)
    (hm : ((a < 0 ∧ ¬ b < 0) ∨ (¬ a < 0 ∧ b < 0)) ∧ m = 9223372036854775808 ∨ ((a < 0 ∧ b < 0) ∨ (¬ a < 0 ∧ ¬ b < 0)) ∧ m = 9223372036854775807) :
    (¬ a.natAbs ≤ m / b.natAbs ∧ timesV a b = .tuple #[.int .i64 0, .bool false]) ∨
    (a.natAbs ≤ m / b.natAbs ∧ ∃ Z : Int, timesV a b = .tuple #[.int .i64 Z, .bool true] ∧ Z.natAbs = a.natAbs * b.natAbs ∧ Z.natAbs ≤ 9223372036854775808 ∧ -9223372036854775808 ≤ Z ∧ Z ≤ 9223372036854775807 ∧
      ((((a < 0 ∧ ¬ b < 0) ∨ (¬ a < 0 ∧ b < 0)) ∧ Z < 0) ∨ (((a < 0 ∧ b < 0) ∨ (¬ a < 0 ∧ ¬ b < 0)) ∧ ¬ Z < 0))) := by
  have hN : 0 < a.natAbs * b.natAbs := Nat.mul_pos (by omega) (by omega)
  have f := fits_iff a.natAbs b.natAbs m (by omega)
  rcases hm with ⟨s, rfl⟩ | ⟨s, rfl⟩
  · have hz := prod_diff s
    by_cases c : a.natAbs * b.natAbs ≤ 9223372036854775808
    · exact .inr ⟨f.2 c, a * b, timesV_yes (by omega), Int.natAbs_mul a b, by omega, by omega, by omega, .inl ⟨s, by omega⟩⟩
    · exact .inl ⟨fun h => c (f.1 h), timesV_no (by omega)⟩
  · have hz := prod_same s
    by_cases c : a.natAbs * b.natAbs ≤ 9223372036854775807
    · exact .inr ⟨f.2 c, a * b, timesV_yes (by omega), Int.natAbs_mul a b, by omega, by omega, by omega, .inr ⟨s, by omega⟩⟩
    · exact .inl ⟨fun h => c (f.1 h), timesV_no (by omega)⟩

theorem fits_int (x y : Nat) (m : Nat) : ((x : Int) ≤ (m : Int) / (y : Int)) ↔ x ≤ m / y := by
  rw [← Int.natCast_ediv]; omega
theorem mul_wrapped {x y z : Nat} (h : z = x * y) (hz : z ≤ 9223372036854775808) : IntKind.u64.wrap ((x : Int) * (y : Int)) = (z : Int) := by
  rw [← Int.natCast_mul, ← h, IntKind.wrap_u64]; omega

theorem timesV_zero {a b : Int} (h : a = 0 ∨ b = 0) : timesV a b = .tuple #[.int .i64 0, .bool true] := by
  have e : a * b = 0 := by rcases h with rfl | rfl <;> simp
  rw [timesV_yes (by omega), e]

set_option maxHeartbeats 2000000 in
theorem NumTimes_walk (a b : Int) (w : World) (ha : (Lit.int .i64 a).wf = true) (hb : (Lit.int .i64 b).wf = true) :
    Calls Try.prog 9 #[.int .i64 a, .int .i64 b] w (Kept (.bool true) w) := by
  obtain ⟨a0, a1⟩ := i64_bd ha
  obtain ⟨b0, b1⟩ := i64_bd hb
  clear ha hb
  by_cases hz : a = 0 ∨ b = 0
  · have T := Lib.hid (timesV_zero hz)
    have cs : (a == 0) = true ∨ (a == 0) = false ∧ (b == 0) = true := by simp only [beq_iff_eq, beq_eq_false_iff_ne]; omega
    clear hz
    rcases cs with c | ⟨c, d⟩
    all_goals
      go_enter Try.func9, Try.ntmps9
      go_wp2_with fail
      refine (times_any _ _ _ a0 a1 b0 b1).mono ?_
      rintro e w' ⟨rfl, rfl⟩
      rw [T.out]
      go_wp2_with fail
      refine (num_lives _).mono ?_
      rintro e w' ⟨rfl, hw⟩
      go_wp2
      go_ret
      exact ⟨rfl, hw⟩
  · have c1 : (a == 0) = false := by simp only [beq_eq_false_iff_ne]; omega
    have c2 : (b == 0) = false := by simp only [beq_eq_false_iff_ne]; omega
    have hm1 := fun m => times_case a b a0 a1 b0 b1 (by omega) (by omega) m
    have xb : (0 : Int) ≤ a.natAbs ∧ (a.natAbs : Int) ≤ 9223372036854775808 := by omega
    have yb : (1 : Int) ≤ b.natAbs ∧ (b.natAbs : Int) ≤ 9223372036854775808 := by omega
    clear hz
    by_cases sA : a < 0 <;> by_cases sB : b < 0
    all_goals
      have vA := by first | exact decide_eq_false sA | exact decide_eq_true sA
      have vB := by first | exact decide_eq_false sB | exact decide_eq_true sB
      have cs := by first | exact hm1 9223372036854775808 (by omega) | exact hm1 9223372036854775807 (by omega)
      clear hm1
      rcases cs with ⟨f1, T⟩ | ⟨f1, Z, T, zn, zb, z0, z1, sg⟩
    all_goals
      have T1 := Lib.hid T
      clear T
      try (have vZ := by first | exact decide_eq_false (show ¬ Z < 0 by omega) | exact decide_eq_true (show Z < 0 by omega))
      try clear sg
      have F1 := by
        first
        | exact (decide_eq_false (fun h => f1 ((fits_int a.natAbs b.natAbs 9223372036854775808).1 h)) : decide ((a.natAbs : Int) ≤ 9223372036854775808 / (b.natAbs : Int)) = false)
        | exact (decide_eq_true ((fits_int a.natAbs b.natAbs 9223372036854775808).2 f1) : decide ((a.natAbs : Int) ≤ 9223372036854775808 / (b.natAbs : Int)) = true)
        | exact (decide_eq_false (fun h => f1 ((fits_int a.natAbs b.natAbs 9223372036854775807).1 h)) : decide ((a.natAbs : Int) ≤ 9223372036854775807 / (b.natAbs : Int)) = false)
        | exact (decide_eq_true ((fits_int a.natAbs b.natAbs 9223372036854775807).2 f1) : decide ((a.natAbs : Int) ≤ 9223372036854775807 / (b.natAbs : Int)) = true)
      try have zm := mul_wrapped zn zb
      try have zq : ((Z.natAbs : Int) == (Z.natAbs : Int)) = true := by simp
      try clear zn
      clear f1 sA sB
      go_enter Try.func9, Try.ntmps9
      go_wp2_with fail
      refine (times_any _ _ _ a0 a1 b0 b1).mono ?_
      rintro e w' ⟨rfl, rfl⟩
      rw [T1.out]
      go_wp2_with fail
      refine (Size_any _ _ a0 a1).mono ?_
      rintro e w' ⟨rfl, rfl⟩
      go_wp2_with fail
      refine (Size_any _ _ b0 b1).mono ?_
      rintro e w' ⟨rfl, rfl⟩
      go_wp2_with fail
      try
        refine (Size_any _ _ z0 z1).mono ?_
        rintro e w' ⟨rfl, rfl⟩
        go_wp2_with fail
      refine (num_lives _).mono ?_
      rintro e w' ⟨rfl, hw⟩
      go_wp2
      go_ret
      exact ⟨rfl, hw⟩
end Go.Proofs.Yticloblhdjnjkaa
