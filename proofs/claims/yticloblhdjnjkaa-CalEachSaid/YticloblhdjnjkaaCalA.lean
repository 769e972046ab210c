/- Contracts for chapter 28's small functions: bounds, how many items a field may have, a step, numbers of a field in order, an item that may be. -/
import Derived.Test.YticloblhdjnjkaaSpanC
namespace Go.Proofs.Yticloblhdjnjkaa
open Go.RowKit

/-- a field's bounds -/
def bLo (f : Int) : Int := if f = 0 then 1 else if f = 1 then 1970 else if f = 2 then 1 else if f = 3 then 1 else 0
def bHi (f : Int) : Int := if f = 0 then 7 else if f = 1 then 2369 else if f = 2 then 12 else if f = 3 then 31 else if f = 4 then 23 else if f = 5 then 59 else if f = 6 then 59 else 0
def mst (f : Int) : Int := if f = 1 then 400 else 64
theorem f_ways {f : Int} (h1 : 0 ≤ f) (h2 : f ≤ 6) : f = 0 ∨ f = 1 ∨ f = 2 ∨ f = 3 ∨ f = 4 ∨ f = 5 ∨ f = 6 := by omega
theorem b_bd (f : Int) : 0 ≤ bLo f ∧ bLo f ≤ 1970 ∧ 0 ≤ bHi f ∧ bHi f ≤ 2369 := by unfold bLo bHi; (repeat (first | omega | split))
theorem b_ord {f : Int} (h1 : 0 ≤ f) (h2 : f ≤ 6) : bLo f ≤ bHi f := by rcases f_ways h1 h2 with rfl | rfl | rfl | rfl | rfl | rfl | rfl <;> decide
theorem b_none {f : Int} (h : f < 0 ∨ 6 < f) : bLo f = 0 ∧ bHi f = 0 := by
  unfold bLo bHi
  rw [if_neg (by omega), if_neg (by omega), if_neg (by omega), if_neg (by omega), if_neg (by omega), if_neg (by omega), if_neg (by omega), if_neg (by omega), if_neg (by omega), if_neg (by omega), if_neg (by omega)]
  exact ⟨rfl, rfl⟩

theorem rmost_any (f : Int) (w : World) : Calls Try.prog 55 #[.int .i64 f] w fun e w' => e = .returned (.int .i64 (mst f)) ∧ w = w' := by
  unfold mst
  by_cases c : f = 1
  · subst c
    rw [if_pos rfl]
    go_enter Try.func55, Try.ntmps55
    go_wp2
    go_ret
    exact ⟨rfl, rfl⟩
  · rw [if_neg c]
    have c' : (f == 1) = false := beq_eq_false_iff_ne.2 c
    clear c
    go_enter Try.func55, Try.ntmps55
    go_wp2
    go_ret
    exact ⟨rfl, rfl⟩
theorem most_any (f : Int) (w : World) : Calls Try.prog 60 #[.int .i64 f] w fun e w' => e = .returned (.int .i64 (mst f)) ∧ w = w' := by
  unfold mst
  by_cases c : f = 1
  · subst c
    rw [if_pos rfl]
    go_enter Try.func60, Try.ntmps60
    go_wp2
    go_ret
    exact ⟨rfl, rfl⟩
  · rw [if_neg c]
    have c' : (f == 1) = false := beq_eq_false_iff_ne.2 c
    clear c
    go_enter Try.func60, Try.ntmps60
    go_wp2
    go_ret
    exact ⟨rfl, rfl⟩

set_option maxHeartbeats 1000000 in
theorem rbounds_any (f : Int) (w : World) : Calls Try.prog 42 #[.int .i64 f] w fun e w' => e = .returned (.tuple #[.int .i64 (bLo f), .int .i64 (bHi f)]) ∧ w = w' := by
  by_cases h : f < 0 ∨ 6 < f
  · rw [(b_none h).1, (b_none h).2]
    have h0 : (f == 0) = false := beq_eq_false_iff_ne.2 (by omega)
    have h1 : (f == 1) = false := beq_eq_false_iff_ne.2 (by omega)
    have h2 : (f == 2) = false := beq_eq_false_iff_ne.2 (by omega)
    have h3 : (f == 3) = false := beq_eq_false_iff_ne.2 (by omega)
    have h4 : (f == 4) = false := beq_eq_false_iff_ne.2 (by omega)
    have h5 : (f == 5) = false := beq_eq_false_iff_ne.2 (by omega)
    have h6 : (f == 6) = false := beq_eq_false_iff_ne.2 (by omega)
    clear h
    go_enter Try.func42, Try.ntmps42
    go_wp2
    go_ret2
    exact ⟨rfl, rfl⟩
  · rcases f_ways (f := f) (by omega) (by omega) with rfl | rfl | rfl | rfl | rfl | rfl | rfl
    all_goals
      clear h
      go_enter Try.func42, Try.ntmps42
      go_wp2
      go_ret2
      exact ⟨rfl, rfl⟩

set_option maxRecDepth 100000 in
set_option maxHeartbeats 2000000 in
theorem bounds_any (f : Int) (w : World) : Calls Try.prog 41 #[.int .i64 f] w (Kept (.tuple #[.int .i64 (bLo f), .int .i64 (bHi f)]) w) := by
  by_cases h : f < 0 ∨ 6 < f
  · rw [(b_none h).1, (b_none h).2]
    by_cases c : f < 0
    · have g1 : decide (f < 0) = true := decide_eq_true c
      clear h
      go_enter Try.func41, Try.ntmps41
      go_wp2
      go_ret2
      exact ⟨rfl, Below.refl _ _⟩
    · have g1 : decide (f < 0) = false := decide_eq_false c
      have g2 : decide (7 ≤ f) = true := decide_eq_true (by omega)
      clear h
      go_enter Try.func41, Try.ntmps41
      go_wp2
      go_ret2
      exact ⟨rfl, Below.refl _ _⟩
  · rcases f_ways (f := f) (by omega) (by omega) with rfl | rfl | rfl | rfl | rfl | rfl | rfl
    · clear h
      have hi : ∀ w, (Instr.index 85 (.agg #[.int .i64 1, .int .i64 7, .int .i64 1970, .int .i64 2369, .int .i64 1, .int .i64 12, .int .i64 1, .int .i64 31, .int .i64 0, .int .i64 23, .int .i64 0, .int .i64 59, .int .i64 0, .int .i64 59]) (.int .i64 0)).run Try.prog w = .ok (.agg #[.int .i64 1, .int .i64 7]) w := fun _ => by kernel_rfl
      go_enter Try.func41, Try.ntmps41
      go_wp2
      go_quiet (fail)
      go_wp2
      go_ret2
      exact ⟨rfl, below_drewN ((Below.refl _ _).alloc (Nat.le_refl _) _) _⟩
    · clear h
      have hi : ∀ w, (Instr.index 85 (.agg #[.int .i64 1, .int .i64 7, .int .i64 1970, .int .i64 2369, .int .i64 1, .int .i64 12, .int .i64 1, .int .i64 31, .int .i64 0, .int .i64 23, .int .i64 0, .int .i64 59, .int .i64 0, .int .i64 59]) (.int .i64 1)).run Try.prog w = .ok (.agg #[.int .i64 1970, .int .i64 2369]) w := fun _ => by kernel_rfl
      go_enter Try.func41, Try.ntmps41
      go_wp2
      go_quiet (fail)
      go_wp2
      go_ret2
      exact ⟨rfl, below_drewN ((Below.refl _ _).alloc (Nat.le_refl _) _) _⟩
    · clear h
      have hi : ∀ w, (Instr.index 85 (.agg #[.int .i64 1, .int .i64 7, .int .i64 1970, .int .i64 2369, .int .i64 1, .int .i64 12, .int .i64 1, .int .i64 31, .int .i64 0, .int .i64 23, .int .i64 0, .int .i64 59, .int .i64 0, .int .i64 59]) (.int .i64 2)).run Try.prog w = .ok (.agg #[.int .i64 1, .int .i64 12]) w := fun _ => by kernel_rfl
      go_enter Try.func41, Try.ntmps41
      go_wp2
      go_quiet (fail)
      go_wp2
      go_ret2
      exact ⟨rfl, below_drewN ((Below.refl _ _).alloc (Nat.le_refl _) _) _⟩
    · clear h
      have hi : ∀ w, (Instr.index 85 (.agg #[.int .i64 1, .int .i64 7, .int .i64 1970, .int .i64 2369, .int .i64 1, .int .i64 12, .int .i64 1, .int .i64 31, .int .i64 0, .int .i64 23, .int .i64 0, .int .i64 59, .int .i64 0, .int .i64 59]) (.int .i64 3)).run Try.prog w = .ok (.agg #[.int .i64 1, .int .i64 31]) w := fun _ => by kernel_rfl
      go_enter Try.func41, Try.ntmps41
      go_wp2
      go_quiet (fail)
      go_wp2
      go_ret2
      exact ⟨rfl, below_drewN ((Below.refl _ _).alloc (Nat.le_refl _) _) _⟩
    · clear h
      have hi : ∀ w, (Instr.index 85 (.agg #[.int .i64 1, .int .i64 7, .int .i64 1970, .int .i64 2369, .int .i64 1, .int .i64 12, .int .i64 1, .int .i64 31, .int .i64 0, .int .i64 23, .int .i64 0, .int .i64 59, .int .i64 0, .int .i64 59]) (.int .i64 4)).run Try.prog w = .ok (.agg #[.int .i64 0, .int .i64 23]) w := fun _ => by kernel_rfl
      go_enter Try.func41, Try.ntmps41
      go_wp2
      go_quiet (fail)
      go_wp2
      go_ret2
      exact ⟨rfl, below_drewN ((Below.refl _ _).alloc (Nat.le_refl _) _) _⟩
    · clear h
      have hi : ∀ w, (Instr.index 85 (.agg #[.int .i64 1, .int .i64 7, .int .i64 1970, .int .i64 2369, .int .i64 1, .int .i64 12, .int .i64 1, .int .i64 31, .int .i64 0, .int .i64 23, .int .i64 0, .int .i64 59, .int .i64 0, .int .i64 59]) (.int .i64 5)).run Try.prog w = .ok (.agg #[.int .i64 0, .int .i64 59]) w := fun _ => by kernel_rfl
      go_enter Try.func41, Try.ntmps41
      go_wp2
      go_quiet (fail)
      go_wp2
      go_ret2
      exact ⟨rfl, below_drewN ((Below.refl _ _).alloc (Nat.le_refl _) _) _⟩
    · clear h
      have hi : ∀ w, (Instr.index 85 (.agg #[.int .i64 1, .int .i64 7, .int .i64 1970, .int .i64 2369, .int .i64 1, .int .i64 12, .int .i64 1, .int .i64 31, .int .i64 0, .int .i64 23, .int .i64 0, .int .i64 59, .int .i64 0, .int .i64 59]) (.int .i64 6)).run Try.prog w = .ok (.agg #[.int .i64 0, .int .i64 59]) w := fun _ => by kernel_rfl
      go_enter Try.func41, Try.ntmps41
      go_wp2
      go_quiet (fail)
      go_wp2
      go_ret2
      exact ⟨rfl, below_drewN ((Below.refl _ _).alloc (Nat.le_refl _) _) _⟩

end Go.Proofs.Yticloblhdjnjkaa
