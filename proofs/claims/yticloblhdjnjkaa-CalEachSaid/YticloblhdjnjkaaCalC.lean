/- Contracts for chapter 28: an item that may be. -/
import Derived.Test.YticloblhdjnjkaaCalB
namespace Go.Proofs.Yticloblhdjnjkaa
open Go.RowKit

def It.v (i : It) : Value := .agg #[.int .i64 i.k, .int .i64 i.f, .int .i64 i.t, .int .i64 i.s]

theorem itB_0 {i : It} {lo hi : Int} (h : i.k = 0) : itB i lo hi = ((i.f == 0 && i.t == 0) && stB i.s) := by unfold itB; rw [if_pos h]
theorem itB_1 {i : It} {lo hi : Int} (h : i.k = 1) : itB i lo hi = ((ofB lo hi i.f && i.t == 0) && i.s == 0) := by unfold itB; rw [if_neg (by omega), if_pos h]
theorem itB_2 {i : It} {lo hi : Int} (h : i.k = 2) : itB i lo hi = (((ofB lo hi i.f && decide (i.t ≤ hi)) && decide (i.f ≤ i.t)) && stB i.s) := by unfold itB; rw [if_neg (by omega), if_neg (by omega), if_pos h]
theorem itB_3 {i : It} {lo hi : Int} (h : i.k = 3) : itB i lo hi = ((ofB lo hi i.f && i.t == 0) && stB i.s) := by unfold itB; rw [if_neg (by omega), if_neg (by omega), if_neg (by omega), if_pos h]
theorem itB_4 {i : It} {lo hi : Int} (h0 : i.k ≠ 0) (h1 : i.k ≠ 1) (h2 : i.k ≠ 2) (h3 : i.k ≠ 3) : itB i lo hi = false := by unfold itB; rw [if_neg h0, if_neg h1, if_neg h2, if_neg h3]

set_option maxHeartbeats 4000000 in
theorem imay_any (k f t s lo hi : Int) (w : World) (h0 : 0 ≤ lo) (h1 : lo ≤ hi) (h2 : hi ≤ 9999) :
    Calls Try.prog 67 #[.agg #[.int .i64 k, .int .i64 f, .int .i64 t, .int .i64 s], .int .i64 lo, .int .i64 hi] w (Kept (.bool (itB ⟨k, f, t, s⟩ lo hi)) w) := by
  have g0 : decide (lo < 0) = false := decide_eq_false (by omega)
  have g1 : decide (hi < lo) = false := decide_eq_false (by omega)
  have g2 : decide (9999 < hi) = false := decide_eq_false (by omega)
  clear h0 h1 h2
  by_cases k0 : k = 0
  · rw [itB_0 k0]
    subst k0
    dsimp only
    cases c1 : (f == 0) <;> cases c2 : (t == 0)
    all_goals
      go_enter Try.func67, Try.ntmps67
      first
        | (go_wp2
           go_ret
           exact ⟨rfl, (Below.refl _ _).alloc (Nat.le_refl _) _⟩)
        | (go_wp2_with fail
           refine (step_any _ _).mono ?_
           rintro e w' ⟨rfl, rfl⟩
           go_wp2
           go_ret
           exact ⟨rfl, (Below.refl _ _).alloc (Nat.le_refl _) _⟩)
  by_cases k1 : k = 1
  · rw [itB_1 k1]
    subst k1
    dsimp only
    clear k0
    obtain ⟨b, hb⟩ : ∃ b, b = ofB lo hi f := ⟨_, rfl⟩
    rw [← hb]
    have HO := Lib.hid hb
    clear hb
    cases b <;> cases c2 : (t == 0)
    all_goals
      go_enter Try.func67, Try.ntmps67
      go_wp2_with fail
      refine (of_one _ _ f _ _ (by go_simp)).mono ?_
      rintro e w' ⟨rfl, rfl⟩
      rw [← HO.out]
      go_wp2
      go_ret
      exact ⟨rfl, ((Below.refl _ _).alloc (Nat.le_refl _) _).alloc (by simp) _⟩
  by_cases k2 : k = 2
  · rw [itB_2 k2]
    subst k2
    dsimp only
    clear k0 k1
    obtain ⟨b, hb⟩ : ∃ b, b = ((ofB lo hi f && decide (t ≤ hi)) && decide (f ≤ t)) := ⟨_, rfl⟩
    rw [← hb]
    have HO := Lib.hid hb
    clear hb
    cases b
    · go_enter Try.func67, Try.ntmps67
      go_wp2_with fail
      refine (of_two _ _ f t _ _ (by go_simp) (by go_simp)).mono ?_
      rintro e w' ⟨rfl, rfl⟩
      rw [← HO.out]
      go_wp2
      go_ret
      exact ⟨rfl, ((Below.refl _ _).alloc (Nat.le_refl _) _).alloc (by simp) _⟩
    · go_enter Try.func67, Try.ntmps67
      go_wp2_with fail
      refine (of_two _ _ f t _ _ (by go_simp) (by go_simp)).mono ?_
      rintro e w' ⟨rfl, rfl⟩
      rw [← HO.out]
      go_wp2_with fail
      refine (step_any _ _).mono ?_
      rintro e w' ⟨rfl, rfl⟩
      go_wp2
      go_ret
      exact ⟨rfl, ((Below.refl _ _).alloc (Nat.le_refl _) _).alloc (by simp) _⟩
  by_cases k3 : k = 3
  · rw [itB_3 k3]
    subst k3
    dsimp only
    clear k0 k1 k2
    obtain ⟨b, hb⟩ : ∃ b, b = ofB lo hi f := ⟨_, rfl⟩
    rw [← hb]
    have HO := Lib.hid hb
    clear hb
    cases b <;> cases c2 : (t == 0)
    all_goals
      go_enter Try.func67, Try.ntmps67
      go_wp2_with fail
      refine (of_one _ _ f _ _ (by go_simp)).mono ?_
      rintro e w' ⟨rfl, rfl⟩
      rw [← HO.out]
      first
        | (go_wp2
           go_ret
           exact ⟨rfl, ((Below.refl _ _).alloc (Nat.le_refl _) _).alloc (by simp) _⟩)
        | (go_wp2_with fail
           refine (step_any _ _).mono ?_
           rintro e w' ⟨rfl, rfl⟩
           go_wp2
           go_ret
           exact ⟨rfl, ((Below.refl _ _).alloc (Nat.le_refl _) _).alloc (by simp) _⟩)
  rw [itB_4 k0 k1 k2 k3]
  have x0 : (k == 0) = false := beq_eq_false_iff_ne.2 k0
  have x1 : (k == 1) = false := beq_eq_false_iff_ne.2 k1
  have x2 : (k == 2) = false := beq_eq_false_iff_ne.2 k2
  have x3 : (k == 3) = false := beq_eq_false_iff_ne.2 k3
  clear k0 k1 k2 k3
  go_enter Try.func67, Try.ntmps67
  go_wp2
  go_ret
  exact ⟨rfl, (Below.refl _ _).alloc (Nat.le_refl _) _⟩

set_option maxHeartbeats 4000000 in
theorem rimay_any (k f t s lo hi : Int) (w : World) (h0 : 0 ≤ lo) (h1 : lo ≤ hi) (h2 : hi ≤ 9999) :
    Calls Try.prog 56 #[.agg #[.int .i64 k, .int .i64 f, .int .i64 t, .int .i64 s], .int .i64 lo, .int .i64 hi] w (Kept (.bool (itB ⟨k, f, t, s⟩ lo hi)) w) := by
  have g0 : decide (lo < 0) = false := decide_eq_false (by omega)
  have g1 : decide (hi < lo) = false := decide_eq_false (by omega)
  have g2 : decide (9999 < hi) = false := decide_eq_false (by omega)
  clear h0 h1 h2
  by_cases k0 : k = 0
  · rw [itB_0 k0]
    subst k0
    dsimp only
    unfold stB
    go_enter Try.func56, Try.ntmps56
    go_wp2
    all_goals
      go_ret
      exact ⟨ret_val (congrArg Value.bool (by first | (simp [*]; done) | (simp [*]; omega))), (Below.refl _ _).alloc (Nat.le_refl _) _⟩
  by_cases k1 : k = 1
  · rw [itB_1 k1]
    subst k1
    dsimp only
    unfold ofB
    go_enter Try.func56, Try.ntmps56
    go_wp2
    all_goals
      go_ret
      exact ⟨ret_val (congrArg Value.bool (by first | (simp [*]; done) | (simp [*]; omega))), (Below.refl _ _).alloc (Nat.le_refl _) _⟩
  by_cases k2 : k = 2
  · rw [itB_2 k2]
    subst k2
    dsimp only
    unfold ofB stB
    go_enter Try.func56, Try.ntmps56
    go_wp2
    all_goals
      go_ret
      exact ⟨ret_val (congrArg Value.bool (by first | (simp [*]; done) | (simp [*]; omega))), (Below.refl _ _).alloc (Nat.le_refl _) _⟩
  by_cases k3 : k = 3
  · rw [itB_3 k3]
    subst k3
    dsimp only
    unfold ofB stB
    go_enter Try.func56, Try.ntmps56
    go_wp2
    all_goals
      go_ret
      exact ⟨ret_val (congrArg Value.bool (by first | (simp [*]; done) | (simp [*]; omega))), (Below.refl _ _).alloc (Nat.le_refl _) _⟩
  rw [itB_4 k0 k1 k2 k3]
  have x0 : (k == 0) = false := beq_eq_false_iff_ne.2 k0
  have x1 : (k == 1) = false := beq_eq_false_iff_ne.2 k1
  have x2 : (k == 2) = false := beq_eq_false_iff_ne.2 k2
  have x3 : (k == 3) = false := beq_eq_false_iff_ne.2 k3
  clear k0 k1 k2 k3
  go_enter Try.func56, Try.ntmps56
  go_wp2
  all_goals
    go_ret
    exact ⟨rfl, (Below.refl _ _).alloc (Nat.le_refl _) _⟩
end Go.Proofs.Yticloblhdjnjkaa
