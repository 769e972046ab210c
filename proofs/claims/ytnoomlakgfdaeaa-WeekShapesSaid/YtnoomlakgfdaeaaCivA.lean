/- Contracts of package civil's small functions and of the reference's: leap years, months, days that there are. -/
import Derived.Test.YtnoomlakgfdaeaaBase
import Derived.Test.YtnoomlakgfdaeaaCivD
namespace Go.Proofs.Ytnoomlakgfdaeaa
open Go.RowKit

theorem tm0 (y k : Int) : y.tmod k = 0 ↔ y % k = 0 := by
  rw [← Int.dvd_iff_tmod_eq_zero, ← Int.dvd_iff_emod_eq_zero]

theorem leap_ways (y : Int) : ((y.tmod 4 == 0) = false ∧ (y.tmod 400 == 0) = false ∧ lpB y = false) ∨ ((y.tmod 4 == 0) = true ∧ (y.tmod 100 != 0) = true ∧ (y.tmod 400 == 0) = false ∧ lpB y = true) ∨
    ((y.tmod 4 == 0) = true ∧ (y.tmod 100 != 0) = false ∧ (y.tmod 400 == 0) = true ∧ lpB y = true) ∨ ((y.tmod 4 == 0) = true ∧ (y.tmod 100 != 0) = false ∧ (y.tmod 400 == 0) = false ∧ lpB y = false) := by
  unfold lpB
  simp only [beq_iff_eq, beq_eq_false_iff_ne, bne_iff_ne, bne_eq_false_iff_eq, decide_eq_true_eq, decide_eq_false_iff_not, ne_eq, tm0]
  omega

theorem leap_any (y : Int) (w : World) : Calls Try.prog 30 #[.int .i64 y] w fun e w' => e = .returned (.bool (lpB y)) ∧ w = w' := by
  rcases leap_ways y with ⟨c1, c3, c⟩ | ⟨c1, c2, c3, c⟩ | ⟨c1, c2, c3, c⟩ | ⟨c1, c2, c3, c⟩
  all_goals
    rw [c]
    clear c
    go_enter Try.func30, Try.ntmps30
    go_wp2
    go_ret
    exact ⟨rfl, rfl⟩
theorem rleap_any (y : Int) (w : World) : Calls Try.prog 31 #[.int .i64 y] w fun e w' => e = .returned (.bool (lpB y)) ∧ w = w' := by
  rcases leap_ways y with ⟨c1, c3, c⟩ | ⟨c1, c2, c3, c⟩ | ⟨c1, c2, c3, c⟩ | ⟨c1, c2, c3, c⟩
  all_goals
    rw [c]
    clear c
    go_enter Try.func31, Try.ntmps31
    go_wp2
    go_ret
    exact ⟨rfl, rfl⟩

theorem dim_none {y m : Int} (h : m < 1 ∨ 12 < m) : dim y m = 0 := by have := dim_ways y m; omega
theorem length_none (y m : Int) (w : World) (h : m < 1 ∨ 12 < m) : Calls Try.prog 32 #[.int .i64 y, .int .i64 m] w (Kept (.int .i64 (dim y m)) w) := by
  rw [dim_none h]
  rcases h with h | h
  · go_enter Try.func32, Try.ntmps32
    go_wp2
    go_ret
    exact ⟨rfl, Below.refl _ _⟩
  · have h' : ¬ m < 1 := by omega
    go_enter Try.func32, Try.ntmps32
    go_wp2
    go_ret
    exact ⟨rfl, Below.refl _ _⟩
theorem length_two (y : Int) (w : World) : Calls Try.prog 32 #[.int .i64 y, .int .i64 2] w (Kept (.int .i64 (dim y 2)) w) := by
  cases hb : lpB y
  all_goals
    have e : dim y 2 = 28 + lp y := rfl
    rw [e]
    clear e
    first | rw [lp_no hb] | rw [lp_yes hb]
    have HB := Lib.hid hb
    clear hb
    go_enter Try.func32, Try.ntmps32
    go_wp2_with (go_at_call 30; refine (leap_any _ _).mono ?_; rintro e w1 ⟨rfl, rfl⟩; rw [HB.out])
    go_ret
    exact ⟨rfl, (Below.refl _ _).alloc (Nat.le_refl _) _⟩
set_option maxHeartbeats 2000000 in
theorem length_any (y m : Int) (w : World) : Calls Try.prog 32 #[.int .i64 y, .int .i64 m] w (Kept (.int .i64 (dim y m)) w) := by
  by_cases h : m < 1 ∨ 12 < m
  · exact length_none y m w h
  rcases m_ways (m := m) (by omega) (by omega) with rfl | rfl | rfl | rfl | rfl | rfl | rfl | rfl | rfl | rfl | rfl | rfl
  · rw [show dim y 1 = 31 from rfl]
    clear h
    go_enter Try.func32, Try.ntmps32
    go_wp2
    go_ret
    exact ⟨rfl, (Below.refl _ _).alloc (Nat.le_refl _) _⟩
  · exact length_two y w
  · rw [show dim y 3 = 31 from rfl]
    clear h
    go_enter Try.func32, Try.ntmps32
    go_wp2
    go_ret
    exact ⟨rfl, (Below.refl _ _).alloc (Nat.le_refl _) _⟩
  · rw [show dim y 4 = 30 from rfl]
    clear h
    go_enter Try.func32, Try.ntmps32
    go_wp2
    go_ret
    exact ⟨rfl, (Below.refl _ _).alloc (Nat.le_refl _) _⟩
  · rw [show dim y 5 = 31 from rfl]
    clear h
    go_enter Try.func32, Try.ntmps32
    go_wp2
    go_ret
    exact ⟨rfl, (Below.refl _ _).alloc (Nat.le_refl _) _⟩
  · rw [show dim y 6 = 30 from rfl]
    clear h
    go_enter Try.func32, Try.ntmps32
    go_wp2
    go_ret
    exact ⟨rfl, (Below.refl _ _).alloc (Nat.le_refl _) _⟩
  · rw [show dim y 7 = 31 from rfl]
    clear h
    go_enter Try.func32, Try.ntmps32
    go_wp2
    go_ret
    exact ⟨rfl, (Below.refl _ _).alloc (Nat.le_refl _) _⟩
  · rw [show dim y 8 = 31 from rfl]
    clear h
    go_enter Try.func32, Try.ntmps32
    go_wp2
    go_ret
    exact ⟨rfl, (Below.refl _ _).alloc (Nat.le_refl _) _⟩
  · rw [show dim y 9 = 30 from rfl]
    clear h
    go_enter Try.func32, Try.ntmps32
    go_wp2
    go_ret
    exact ⟨rfl, (Below.refl _ _).alloc (Nat.le_refl _) _⟩
  · rw [show dim y 10 = 31 from rfl]
    clear h
    go_enter Try.func32, Try.ntmps32
    go_wp2
    go_ret
    exact ⟨rfl, (Below.refl _ _).alloc (Nat.le_refl _) _⟩
  · rw [show dim y 11 = 30 from rfl]
    clear h
    go_enter Try.func32, Try.ntmps32
    go_wp2
    go_ret
    exact ⟨rfl, (Below.refl _ _).alloc (Nat.le_refl _) _⟩
  · rw [show dim y 12 = 31 from rfl]
    clear h
    go_enter Try.func32, Try.ntmps32
    go_wp2
    go_ret
    exact ⟨rfl, (Below.refl _ _).alloc (Nat.le_refl _) _⟩
theorem rlength_two (y : Int) (w : World) : Calls Try.prog 33 #[.int .i64 y, .int .i64 2] w fun e w' => e = .returned (.int .i64 (dim y 2)) ∧ w = w' := by
  cases hb : lpB y
  all_goals
    have e : dim y 2 = 28 + lp y := rfl
    rw [e]
    clear e
    first | rw [lp_no hb] | rw [lp_yes hb]
    have HB := Lib.hid hb
    clear hb
    go_enter Try.func33, Try.ntmps33
    go_wp2_with (go_at_call 31; refine (rleap_any _ _).mono ?_; rintro e w1 ⟨rfl, rfl⟩; rw [HB.out])
    go_ret
    exact ⟨rfl, rfl⟩
theorem rlength_none (y m : Int) (w : World) (h : m < 1 ∨ 12 < m) : Calls Try.prog 33 #[.int .i64 y, .int .i64 m] w fun e w' => e = .returned (.int .i64 (dim y m)) ∧ w = w' := by
  rw [dim_none h]
  have h1 : (m == 1) = false := beq_eq_false_iff_ne.2 (by omega)
  have h2 : (m == 2) = false := beq_eq_false_iff_ne.2 (by omega)
  have h3 : (m == 3) = false := beq_eq_false_iff_ne.2 (by omega)
  have h4 : (m == 4) = false := beq_eq_false_iff_ne.2 (by omega)
  have h5 : (m == 5) = false := beq_eq_false_iff_ne.2 (by omega)
  have h6 : (m == 6) = false := beq_eq_false_iff_ne.2 (by omega)
  have h7 : (m == 7) = false := beq_eq_false_iff_ne.2 (by omega)
  have h8 : (m == 8) = false := beq_eq_false_iff_ne.2 (by omega)
  have h9 : (m == 9) = false := beq_eq_false_iff_ne.2 (by omega)
  have h10 : (m == 10) = false := beq_eq_false_iff_ne.2 (by omega)
  have h11 : (m == 11) = false := beq_eq_false_iff_ne.2 (by omega)
  have h12 : (m == 12) = false := beq_eq_false_iff_ne.2 (by omega)
  clear h
  go_enter Try.func33, Try.ntmps33
  go_wp2
  go_ret
  exact ⟨rfl, rfl⟩
set_option maxHeartbeats 2000000 in
theorem rlength_any (y m : Int) (w : World) : Calls Try.prog 33 #[.int .i64 y, .int .i64 m] w fun e w' => e = .returned (.int .i64 (dim y m)) ∧ w = w' := by
  by_cases h : m < 1 ∨ 12 < m
  · exact rlength_none y m w h
  rcases m_ways (m := m) (by omega) (by omega) with rfl | rfl | rfl | rfl | rfl | rfl | rfl | rfl | rfl | rfl | rfl | rfl
  · rw [show dim y 1 = 31 from rfl]
    clear h
    go_enter Try.func33, Try.ntmps33
    go_wp2
    go_ret
    exact ⟨rfl, rfl⟩
  · exact rlength_two y w
  · rw [show dim y 3 = 31 from rfl]
    clear h
    go_enter Try.func33, Try.ntmps33
    go_wp2
    go_ret
    exact ⟨rfl, rfl⟩
  · rw [show dim y 4 = 30 from rfl]
    clear h
    go_enter Try.func33, Try.ntmps33
    go_wp2
    go_ret
    exact ⟨rfl, rfl⟩
  · rw [show dim y 5 = 31 from rfl]
    clear h
    go_enter Try.func33, Try.ntmps33
    go_wp2
    go_ret
    exact ⟨rfl, rfl⟩
  · rw [show dim y 6 = 30 from rfl]
    clear h
    go_enter Try.func33, Try.ntmps33
    go_wp2
    go_ret
    exact ⟨rfl, rfl⟩
  · rw [show dim y 7 = 31 from rfl]
    clear h
    go_enter Try.func33, Try.ntmps33
    go_wp2
    go_ret
    exact ⟨rfl, rfl⟩
  · rw [show dim y 8 = 31 from rfl]
    clear h
    go_enter Try.func33, Try.ntmps33
    go_wp2
    go_ret
    exact ⟨rfl, rfl⟩
  · rw [show dim y 9 = 30 from rfl]
    clear h
    go_enter Try.func33, Try.ntmps33
    go_wp2
    go_ret
    exact ⟨rfl, rfl⟩
  · rw [show dim y 10 = 31 from rfl]
    clear h
    go_enter Try.func33, Try.ntmps33
    go_wp2
    go_ret
    exact ⟨rfl, rfl⟩
  · rw [show dim y 11 = 30 from rfl]
    clear h
    go_enter Try.func33, Try.ntmps33
    go_wp2
    go_ret
    exact ⟨rfl, rfl⟩
  · rw [show dim y 12 = 31 from rfl]
    clear h
    go_enter Try.func33, Try.ntmps33
    go_wp2
    go_ret
    exact ⟨rfl, rfl⟩

/-- is there such a day? -/
def mayB (y m d : Int) : Bool := decide (-1000000000 ≤ y ∧ y ≤ 1000000000 ∧ 1 ≤ d ∧ d ≤ dim y m)
theorem may_ways (y m d : Int) : (decide (-1000000000 ≤ y) = false ∧ mayB y m d = false) ∨ (decide (-1000000000 ≤ y) = true ∧ decide (y ≤ 1000000000) = false ∧ mayB y m d = false) ∨
    (decide (-1000000000 ≤ y) = true ∧ decide (y ≤ 1000000000) = true ∧ decide (1 ≤ d) = false ∧ mayB y m d = false) ∨
    (decide (-1000000000 ≤ y) = true ∧ decide (y ≤ 1000000000) = true ∧ decide (1 ≤ d) = true ∧ decide (d ≤ dim y m) = mayB y m d) := by
  unfold mayB
  by_cases h1 : -1000000000 ≤ y <;> by_cases h2 : y ≤ 1000000000 <;> by_cases h3 : 1 ≤ d <;> simp [h1, h2, h3]
theorem may_any (y m d : Int) (w : World) : Calls Try.prog 80 #[.int .i64 y, .int .i64 m, .int .i64 d] w (Kept (.bool (mayB y m d)) w) := by
  rcases may_ways y m d with ⟨c1, c⟩ | ⟨c1, c2, c⟩ | ⟨c1, c2, c3, c⟩ | ⟨c1, c2, c3, c⟩
  · rw [c]
    clear c
    go_enter Try.func80, Try.ntmps80
    go_wp2
    go_ret
    exact ⟨rfl, Below.refl _ _⟩
  · rw [c]
    clear c
    go_enter Try.func80, Try.ntmps80
    go_wp2
    go_ret
    exact ⟨rfl, Below.refl _ _⟩
  · rw [c]
    clear c
    go_enter Try.func80, Try.ntmps80
    go_wp2
    go_ret
    exact ⟨rfl, Below.refl _ _⟩
  · rw [← c]
    clear c
    obtain ⟨D, hD⟩ : ∃ D, D = dim y m := ⟨_, rfl⟩
    rw [← hD]
    have HD := Lib.hid hD
    clear hD
    go_enter Try.func80, Try.ntmps80
    go_wp2_with fail
    refine (length_any _ _ _).mono ?_
    rintro e w1 ⟨rfl, hb⟩
    rw [← HD.out]
    have HB := Lib.hid hb
    clear hb
    go_wp2
    go_ret
    exact ⟨rfl, HB.out⟩
end Go.Proofs.Ytnoomlakgfdaeaa
