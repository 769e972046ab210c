/- Contracts of package unit's Size, ofDay, Which, Phase and of the reference's May, Size, Which, On; the chapter's examples (lives). -/
import Derived.Test.YtnoomlakgfdaeaaWeekB
import Derived.Test.YtnoomlakgfdaeaaMomA
namespace Go.Proofs.Ytnoomlakgfdaeaa
open Go.RowKit

/-- how many seconds a unit below a day has -/
def uSz (u : Int) : Int := if u = 0 then 1 else if u = 1 then 60 else if u = 2 then 3600 else 0
/-- which unit an instant lies in -/
def uWh (u t : Int) : Int := if u = 0 then t else if u = 1 then t / 60 else if u = 2 then t / 3600 else if u = 3 then t / 86400 else if u = 4 then wk (t / 86400) else if u = 5 then 12 * dY (t / 86400) + dM (t / 86400) - 1 else dY (t / 86400)
def uB (u : Int) : Bool := decide (0 ≤ u ∧ u ≤ 6)
theorem u_ways {u : Int} (h1 : 0 ≤ u) (h2 : u ≤ 6) : u = 0 ∨ u = 1 ∨ u = 2 ∨ u = 3 ∨ u = 4 ∨ u = 5 ∨ u = 6 := by omega
theorem uSz_ways (u : Int) : (u = 0 ∧ uSz u = 1) ∨ (u = 1 ∧ uSz u = 60) ∨ (u = 2 ∧ uSz u = 3600) ∨ ((u < 0 ∨ 3 ≤ u) ∧ uSz u = 0) := by
  unfold uSz
  (repeat (first | omega | split))

set_option maxHeartbeats 1000000 in
theorem size_any (u : Int) (w : World) : Calls Try.prog 42 #[.int .i64 u] w (Kept (.int .i64 (uSz u)) w) := by
  rcases uSz_ways u with ⟨c, e⟩ | ⟨c, e⟩ | ⟨c, e⟩ | ⟨c, e⟩
  iterate 3
    · rw [e]
      clear e
      subst c
      go_enter Try.func42, Try.ntmps42
      go_wp2
      go_ret
      exact ⟨rfl, (Below.refl _ _).alloc (Nat.le_refl _) _⟩
  · rw [e]
    clear e
    by_cases c1 : u < 0
    · have g1 : decide (u < 0) = true := decide_eq_true c1
      clear c
      go_enter Try.func42, Try.ntmps42
      go_wp2
      go_ret
      exact ⟨rfl, (Below.refl _ _).alloc (Nat.le_refl _) _⟩
    · have g1 : decide (u < 0) = false := decide_eq_false c1
      have g2 : decide (3 ≤ u) = true := decide_eq_true (by omega)
      clear c
      go_enter Try.func42, Try.ntmps42
      go_wp2
      go_ret
      exact ⟨rfl, (Below.refl _ _).alloc (Nat.le_refl _) _⟩

theorem rsize_any (u : Int) (w : World) : Calls Try.prog 43 #[.int .i64 u] w fun e w' => e = .returned (.int .i64 (uSz u)) ∧ w = w' := by
  rcases uSz_ways u with ⟨c, e⟩ | ⟨c, e⟩ | ⟨c, e⟩ | ⟨c, e⟩
  iterate 3
    · rw [e]
      clear e
      subst c
      go_enter Try.func43, Try.ntmps43
      go_wp2
      go_ret
      exact ⟨rfl, rfl⟩
  · rw [e]
    have g0 : (u == 0) = false := beq_eq_false_iff_ne.2 (by omega)
    have g1 : (u == 1) = false := beq_eq_false_iff_ne.2 (by omega)
    have g2 : (u == 2) = false := beq_eq_false_iff_ne.2 (by omega)
    clear c e
    go_enter Try.func43, Try.ntmps43
    go_wp2
    go_ret
    exact ⟨rfl, rfl⟩

theorem rumay_any (u : Int) (w : World) : Calls Try.prog 39 #[.int .i64 u] w fun e w' => e = .returned (.bool (uB u)) ∧ w = w' := by
  have cs : (decide (0 ≤ u) = false ∧ uB u = false) ∨ (decide (0 ≤ u) = true ∧ decide (u ≤ 6) = false ∧ uB u = false) ∨ (decide (0 ≤ u) = true ∧ decide (u ≤ 6) = true ∧ uB u = true) := by
    unfold uB
    simp only [decide_eq_true_eq, decide_eq_false_iff_not]
    omega
  rcases cs with ⟨c1, c⟩ | ⟨c1, c2, c⟩ | ⟨c1, c2, c⟩
  all_goals
    rw [c]
    clear c
    go_enter Try.func39, Try.ntmps39
    go_wp2
    go_ret
    exact ⟨rfl, rfl⟩

set_option maxHeartbeats 2000000 in
theorem rwhichu_any (u t : Int) (w : World) (hu : uB u = true) (ht : inW t = true) : Calls Try.prog 41 #[.int .i64 u, .int .i64 t] w fun e w' => e = .returned (.int .i64 (uWh u t)) ∧ w = w' := by
  obtain ⟨u0, u1⟩ := of_decide_eq_true hu
  obtain ⟨t0, t1⟩ := of_decide_eq_true ht
  clear hu ht
  have HM := Lib.hid (dateV_yes (may_near (t / 86400) (by omega) (by omega)))
  obtain ⟨y1, y2, m1, m2, d1, d2, d3⟩ := near_bd (t / 86400) (by omega) (by omega)
  clear d3
  have hk : ∀ x, uWh 4 x = wk (x / 86400) := fun _ => rfl
  have h5 : uWh 5 t = 12 * dY (t / 86400) + dM (t / 86400) - 1 := rfl
  have h6 : uWh 6 t = dY (t / 86400) := rfl
  obtain ⟨D, hD⟩ : ∃ D, D = t / 86400 := ⟨_, rfl⟩
  have d0 : 0 ≤ D ∧ D ≤ 146096 := by omega
  have h4 : uWh 4 t = wk D := by rw [hD]; rfl
  have h3 : uWh 3 t = D := by rw [hD]; rfl
  rw [← hD] at h5 h6 HM y1 y2 m1 m2 d1 d2
  obtain ⟨y, hy⟩ : ∃ y, y = dY D := ⟨_, rfl⟩
  obtain ⟨m, hm⟩ : ∃ m, m = dM D := ⟨_, rfl⟩
  rw [← hy] at h5 h6 HM y1 y2
  rw [← hm] at h5 HM m1 m2
  have HD := Lib.hid hD
  have H3 := Lib.hid h3
  have H4 := Lib.hid h4
  have H5 := Lib.hid h5
  have H6 := Lib.hid h6
  clear hD h3 h4 h5 h6 hk hy hm
  rcases u_ways u0 u1 with rfl | rfl | rfl | rfl | rfl | rfl | rfl
  · go_enter Try.func41, Try.ntmps41
    go_wp2
    go_ret
    exact ⟨rfl, rfl⟩
  · go_enter Try.func41, Try.ntmps41
    go_wp2
    go_ret
    exact ⟨rfl, rfl⟩
  · go_enter Try.func41, Try.ntmps41
    go_wp2
    go_ret
    exact ⟨rfl, rfl⟩
  · go_enter Try.func41, Try.ntmps41
    go_wp2
    go_ret
    exact ⟨rfl, rfl⟩
  · rw [H4.out]
    go_enter Try.func41, Try.ntmps41
    go_wp2_with fail
    rw [← HD.out]
    refine (rwnum_any _ _ (by omega) (by omega)).mono ?_
    rintro e w' ⟨rfl, rfl⟩
    go_wp2
    go_ret
    exact ⟨rfl, rfl⟩
  · rw [H5.out]
    go_enter Try.func41, Try.ntmps41
    go_wp2_with fail
    rw [← HD.out]
    refine (rdate_any _ _ (by omega) (by omega)).mono ?_
    rintro e w' ⟨rfl, rfl⟩
    rw [HM.out]
    go_wp2
    go_ret
    exact ⟨rfl, rfl⟩
  · rw [H6.out]
    go_enter Try.func41, Try.ntmps41
    go_wp2_with fail
    rw [← HD.out]
    refine (rdate_any _ _ (by omega) (by omega)).mono ?_
    rintro e w' ⟨rfl, rfl⟩
    rw [HM.out]
    go_wp2
    go_ret
    exact ⟨rfl, rfl⟩
end Go.Proofs.Ytnoomlakgfdaeaa
