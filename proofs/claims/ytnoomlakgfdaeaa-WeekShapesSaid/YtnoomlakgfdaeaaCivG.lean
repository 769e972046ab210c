/- Plain: the next day; 400 years on. The walks of ferialaw05.CivilBack, CivilEra. -/
import Derived.Test.YtnoomlakgfdaeaaCivF
namespace Go.Proofs.Ytnoomlakgfdaeaa
open Go.RowKit

theorem next_ways (n : Int) : (dD n < dim (dY n) (dM n) ∧ dY (n + 1) = dY n ∧ dM (n + 1) = dM n ∧ dD (n + 1) = dD n + 1) ∨ (dD n = dim (dY n) (dM n) ∧ dM n < 12 ∧ dY (n + 1) = dY n ∧ dM (n + 1) = dM n + 1 ∧ dD (n + 1) = 1) ∨
    (dD n = dim (dY n) (dM n) ∧ dM n = 12 ∧ dY (n + 1) = dY n + 1 ∧ dM (n + 1) = 1 ∧ dD (n + 1) = 1) := by
  obtain ⟨⟨m1, m2, d1, d2⟩, h⟩ := date_ok n
  have hn : num (dY n) (dM n) (dD n) = eY (dY n - 1) - 719162 + cum (dY n) (dM n) + dD n - 1 := rfl
  have cs := cum_succ (dY n) (dM n) m1 m2
  by_cases c : dD n < dim (dY n) (dM n)
  · obtain ⟨e1, e2, e3⟩ := date_is (n := n + 1) (y := dY n) (m := dM n) (d := dD n + 1) ⟨m1, m2, by omega, by omega⟩ (by unfold num; omega)
    exact .inl ⟨c, e1.symm, e2.symm, e3.symm⟩
  · by_cases c2 : dM n < 12
    · have dp := dim_pos (y := dY n) (m := dM n + 1) (by omega) (by omega)
      obtain ⟨e1, e2, e3⟩ := date_is (n := n + 1) (y := dY n) (m := dM n + 1) (d := 1) ⟨by omega, by omega, by omega, by omega⟩ (by unfold num; omega)
      exact .inr (.inl ⟨by omega, c2, e1.symm, e2.symm, e3.symm⟩)
    · have c3 : dM n = 12 := by omega
      rw [c3] at cs
      rw [show (12 : Int) + 1 = 13 from rfl, cum_all] at cs
      have es := eY_succ (dY n)
      have dp := dim_pos (y := dY n + 1) (m := 1) (by omega) (by omega)
      have c1 := cum_one (dY n + 1)
      obtain ⟨e1, e2, e3⟩ := date_is (n := n + 1) (y := dY n + 1) (m := 1) (d := 1) ⟨by omega, by omega, by omega, by omega⟩ (by
        unfold num
        rw [show dY n + 1 - 1 = dY n by omega, c1]
        rw [c3] at hn
        rw [c3] at c
        have := dim_bd (dY n) 12
        rw [c3] at d2 h
        omega)
      exact .inr (.inr ⟨by omega, c3, e1.symm, e2.symm, e3.symm⟩)

theorem lp_era (y k : Int) : lp (y + 400 * k) = lp y := by
  have h1 := lp_iff (y + 400 * k)
  have h2 := lp_iff y
  omega
theorem dim_era (y k m : Int) : dim (y + 400 * k) m = dim y m := by unfold dim; rw [lp_era]
theorem cum_era (y k m : Int) : cum (y + 400 * k) m = cum y m := by unfold cum; rw [lp_era]
theorem era_on (n k : Int) : dY (n + 146097 * k) = dY n + 400 * k ∧ dM (n + 146097 * k) = dM n ∧ dD (n + 146097 * k) = dD n := by
  obtain ⟨⟨m1, m2, d1, d2⟩, h⟩ := date_ok n
  obtain ⟨e1, e2, e3⟩ := date_is (n := n + 146097 * k) (y := dY n + 400 * k) (m := dM n) (d := dD n) ⟨m1, m2, d1, by rw [dim_era]; exact d2⟩ (by
    have h' : eY (dY n - 1) - 719162 + cum (dY n) (dM n) + dD n - 1 = n := h
    unfold num
    rw [cum_era, show dY n + 400 * k - 1 = dY n - 1 + 400 * k by omega, eY_era]
    omega)
  exact ⟨e1.symm, e2.symm, e3.symm⟩

theorem may_near (n : Int) (h1 : -360000000000 ≤ n) (h2 : n ≤ 360000000000) : mayB (dY n) (dM n) (dD n) = true := by
  have hb := dY_bd n
  exact may_mk (date_ok n).1 (by omega) (by omega)

theorem near_bd (n : Int) (h1 : -360000000000 ≤ n) (h2 : n ≤ 360000000000) : -1000000000 ≤ dY n ∧ dY n ≤ 1000000000 ∧ 1 ≤ dM n ∧ dM n ≤ 12 ∧ 1 ≤ dD n ∧ dD n ≤ 31 ∧ dD n ≤ dim (dY n) (dM n) := by
  have hb := dY_bd n
  obtain ⟨⟨m1, m2, d1, d2⟩, h⟩ := date_ok n
  have db := dim_bd (dY n) (dM n)
  exact ⟨by omega, by omega, m1, m2, d1, by omega, d2⟩

set_option maxHeartbeats 2000000 in
theorem CivilBack_near (n : Int) (w : World) (n1 : -300000000000 ≤ n) (n2 : n ≤ 300000000000) :
    Calls Try.prog 6 #[.int .i64 n] w (Kept (.bool true) w) := by
  have g1 : decide (300000000000 < n) = false := decide_eq_false (by omega)
  have g2 : decide (n < -300000000000) = false := decide_eq_false (by omega)
  have H0 := Lib.hid (may_near n (by omega) (by omega))
  have H1 := Lib.hid (may_near (n + 1) (by omega) (by omega))
  have HN := Lib.hid (date_ok n).2
  have nw := next_ways n
  obtain ⟨y1, y2, m1, m2, d1, d2, d3⟩ := near_bd n (by omega) (by omega)
  obtain ⟨y, hy⟩ : ∃ y, y = dY n := ⟨_, rfl⟩
  obtain ⟨m, hm⟩ : ∃ m, m = dM n := ⟨_, rfl⟩
  obtain ⟨d, hd⟩ : ∃ d, d = dD n := ⟨_, rfl⟩
  obtain ⟨D, hD⟩ : ∃ D, D = dim y m := ⟨_, rfl⟩
  rw [← hy, ← hm, ← hd] at HN H0
  rw [← hy, ← hm, ← hd, ← hD] at nw
  rw [← hy] at y1 y2
  rw [← hm] at m1 m2
  rw [← hd] at d1 d2
  rw [← hy, ← hm, ← hd, ← hD] at d3
  have HY := Lib.hid hy
  have HM := Lib.hid hm
  have HD := Lib.hid hd
  have HL := Lib.hid hD
  clear hy hm hd hD
  rcases nw with ⟨c, a1, a2, a3⟩ | ⟨c, c2, a1, a2, a3⟩ | ⟨c, c2, a1, a2, a3⟩
  all_goals
    have A1 := Lib.hid a1
    have A2 := Lib.hid a2
    have A3 := Lib.hid a3
    have c' : (D ≤ d ∨ d < D) := by omega
    clear a1 a2 a3
    try (have c2' : 12 ≤ m := by omega
         clear c2)
    try (have c'' : D ≤ d := by omega
         clear c)
    clear c'
    go_enter Try.func6, Try.ntmps6
    go_wp2_with fail
    refine (date_yes n _ (by rw [← HY.out, ← HM.out, ← HD.out]; exact H0.out)).mono ?_
    rintro e w1 ⟨rfl, hb⟩
    rw [← HY.out, ← HM.out, ← HD.out]
    have HB1 := Lib.hid hb
    clear hb
    go_wp2_with fail
    refine (date_yes (n + 1) _ H1.out).mono ?_
    rintro e w2 ⟨rfl, hb⟩
    rw [A1.out, A2.out, A3.out]
    have HB2 := Lib.hid (below_on HB1.out hb)
    clear hb
    go_wp2_with fail
    refine (number_yes _ _ _ _ H0.out).mono ?_
    rintro e w3 ⟨rfl, hb⟩
    rw [HN.out]
    have HB3 := Lib.hid (below_on HB2.out hb)
    clear hb
    go_wp2_with fail
    refine (length_any _ _ _).mono ?_
    rintro e w4 ⟨rfl, hb⟩
    rw [← HL.out]
    have HB4 := Lib.hid (below_on HB3.out hb)
    clear hb
    go_wp2_with fail
    refine (civil_lives _).mono ?_
    rintro e w5 ⟨rfl, hb⟩
    have HB5 := Lib.hid (below_on HB4.out hb)
    clear hb
    go_wp2
    go_ret
    exact ⟨rfl, HB5.out⟩

theorem CivilBack_walk (n : Int) (w : World) (hn : (Lit.int .i64 n).wf = true) :
    Calls Try.prog 6 #[.int .i64 n] w (Kept (.bool true) w) := by
  clear hn
  by_cases c1 : 300000000000 < n
  · have g1 : decide (300000000000 < n) = true := decide_eq_true c1
    go_enter Try.func6, Try.ntmps6
    go_wp2_with fail
    refine (civil_lives _).mono ?_
    rintro e w5 ⟨rfl, hb⟩
    have HB5 := Lib.hid hb
    clear hb
    go_wp2
    go_ret
    exact ⟨rfl, HB5.out⟩
  · by_cases c2 : n < -300000000000
    · have g1 : decide (300000000000 < n) = false := decide_eq_false c1
      have g2 : decide (n < -300000000000) = true := decide_eq_true c2
      go_enter Try.func6, Try.ntmps6
      go_wp2_with fail
      refine (civil_lives _).mono ?_
      rintro e w5 ⟨rfl, hb⟩
      have HB5 := Lib.hid hb
      clear hb
      go_wp2
      go_ret
      exact ⟨rfl, HB5.out⟩
    · exact CivilBack_near n w (by omega) (by omega)
end Go.Proofs.Ytnoomlakgfdaeaa
