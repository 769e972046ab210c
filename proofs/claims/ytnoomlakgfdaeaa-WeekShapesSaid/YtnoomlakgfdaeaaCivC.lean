/- Contracts of package civil's Date, Cycle. -/
import Derived.Test.YtnoomlakgfdaeaaCivB
namespace Go.Proofs.Ytnoomlakgfdaeaa
open Go.RowKit

theorem dY_bd (n : Int) : 365 * dY n - 719162 + dY n / 4 - dY n / 100 + dY n / 400 - 366 ≤ n ∧ n ≤ 365 * dY n - 719162 + dY n / 4 - dY n / 100 + dY n / 400 := by
  obtain ⟨⟨m1, m2, d1, d2⟩, h⟩ := date_ok n
  have s := eY_succ (dY n)
  have l := lp_01 (dY n)
  have c := cum_mono (dY n) (dM n) 13 m1 (by omega) (by omega)
  rw [cum_all] at c
  have b := (cum_bd (dY n) (dM n)).1
  unfold num at h
  obtain ⟨X, hX⟩ : ∃ X, X = eY (dY n) := ⟨_, rfl⟩
  rw [← hX] at s
  unfold eY at hX
  omega
theorem eY_lo {y : Int} (h : 1000000000 < y) : 365242000000 < 365 * y + y / 4 - y / 100 + y / 400 := by omega

/-- the parts of the program's reckoning -/
theorem date_parts (n : Int) : ∃ a l k Y : Int, (dO n - dO n / 1460 + dO n / 36524 - dO n / 146096) / 365 = a ∧ dO n - (a * 365 + a / 4 - a / 100) = l ∧ (5 * l + 2) / 153 = k ∧ l - (153 * k + 2) / 5 + 1 = dD n ∧ (k + 2) % 12 + 1 = dM n ∧ dE n * 400 + a = Y ∧
    0 ≤ dO n ∧ dO n ≤ 146096 ∧ 0 ≤ a ∧ a ≤ 399 ∧ 0 ≤ l ∧ l ≤ 365 ∧ 0 ≤ k ∧ k ≤ 11 ∧ 1 ≤ dD n ∧ dD n ≤ 31 ∧ 1 ≤ dM n ∧ dM n ≤ 12 ∧ dY n = Y + (if dM n ≤ 2 then 1 else 0) := by
  have o0 : 0 ≤ dO n ∧ dO n < 146097 := by unfold dO; omega
  obtain ⟨y0, l0, l1⟩ := yrs_ways (dO n) o0.1 o0.2
  obtain ⟨⟨m1, m2, d1, d2⟩, h⟩ := date_ok n
  have hm := mmo_bd (o := dO n) ⟨l0, by omega⟩
  have db := dim_bd (dY n) (dM n)
  exact ⟨yrs (dO n), lft (dO n), mmo (dO n), dE n * 400 + yrs (dO n), rfl, rfl, rfl, rfl, rfl, rfl, o0.1, by omega, y0.1, y0.2, l0, by omega, hm.1, hm.2, d1, by omega, m1, m2, rfl⟩

/-- what a number's date answers -/
def dateV (n : Int) : Value := if mayB (dY n) (dM n) (dD n) then .tuple #[.int .i64 (dY n), .int .i64 (dM n), .int .i64 (dD n), .bool true] else .tuple #[.int .i64 0, .int .i64 0, .int .i64 0, .bool false]
theorem dateV_yes {n : Int} (h : mayB (dY n) (dM n) (dD n) = true) : dateV n = .tuple #[.int .i64 (dY n), .int .i64 (dM n), .int .i64 (dD n), .bool true] := by unfold dateV; rw [if_pos h]
theorem dateV_no {n : Int} (h : mayB (dY n) (dM n) (dD n) = false) : dateV n = .tuple #[.int .i64 0, .int .i64 0, .int .i64 0, .bool false] := by unfold dateV; rw [if_neg (by simp [h])]

theorem floor365 (n : Int) (w : World) (a0 : -9223372036854775808 ≤ n) (a1 : n ≤ 9223372036854775807) :
    Calls Try.prog 81 #[.int .i64 n, .int .i64 365] w fun e w' => e = .returned (.int .i64 (n / 365)) ∧ w = w' := by
  have h := floor_any n 365 w a0 a1 (by omega) (by omega)
  rw [flo_pos (by omega)] at h
  exact h

set_option maxHeartbeats 2000000 in
theorem date_yes (n : Int) (w : World) (h : mayB (dY n) (dM n) (dD n) = true) : Calls Try.prog 48 #[.int .i64 n] w (Kept (.tuple #[.int .i64 (dY n), .int .i64 (dM n), .int .i64 (dD n), .bool true]) w) := by
  have hb := dY_bd n
  obtain ⟨ok, y1, y2⟩ := may_ok h
  clear ok
  have n1 : -400000000000 ≤ n ∧ n ≤ 400000000000 := by omega
  clear hb
  obtain ⟨a, l, k, Y, h1, h2, h3, h4, h5, h6, o1, o2, a1, a2, l1, l2, k1, k2, d1, d2, m1, m2, hY⟩ := date_parts n
  have hO : mo (n + 719468) 146097 = dO n := mo_pos (by omega)
  have hE : flo (n + 719468) 146097 = dE n := flo_pos (by omega)
  have e1 : -3000000 ≤ dE n ∧ dE n ≤ 3000000 := by unfold dE; omega
  have H := Lib.hid h
  clear h
  obtain ⟨o, ho⟩ : ∃ o, o = dO n := ⟨_, rfl⟩
  obtain ⟨E, hE'⟩ : ∃ E, E = dE n := ⟨_, rfl⟩
  obtain ⟨y, hy⟩ : ∃ y, y = dY n := ⟨_, rfl⟩
  obtain ⟨m, hm⟩ : ∃ m, m = dM n := ⟨_, rfl⟩
  obtain ⟨d, hd⟩ : ∃ d, d = dD n := ⟨_, rfl⟩
  rw [← ho] at h1 h2 o1 o2 hO
  rw [← hE'] at h6 hE e1
  rw [← hy, ← hm, ← hd] at H
  rw [← hy, ← hm] at hY
  rw [← hy] at y1 y2
  rw [← hm] at h5 m1 m2
  rw [← hd] at h4 d1 d2
  rw [← hy, ← hm, ← hd]
  clear ho hE' hy hm hd
  have HO := Lib.hid hO
  have HE := Lib.hid hE
  clear hO hE
  have q0 : -2000000000 ≤ n / 365 ∧ n / 365 ≤ 2000000000 := by omega
  by_cases c : m ≤ 2
  all_goals
    first | rw [if_pos c] at hY | rw [if_neg c, Int.add_zero] at hY
    subst hY
    go_enter Try.func48, Try.ntmps48
    go_wp2_with fail
    refine (floor365 _ _ (by omega) (by omega)).mono ?_
    rintro e w' ⟨rfl, rfl⟩
    go_wp2_with fail
    refine (floor365 _ _ (by omega) (by omega)).mono ?_
    rintro e w' ⟨rfl, rfl⟩
    go_wp2_with fail
    refine (floor_any _ _ _ (by omega) (by omega) (by omega) (by omega)).mono ?_
    rintro e w' ⟨rfl, rfl⟩
    rw [HE.out]
    go_wp2_with fail
    refine (mod_any _ _ _ (by omega) (by omega) (by omega) (by omega)).mono ?_
    rintro e w' ⟨rfl, rfl⟩
    rw [HO.out]
    go_wp2_with fail
    refine (may_any _ _ _ _).mono ?_
    rintro e w1 ⟨rfl, hb⟩
    rw [H.out]
    have HB := Lib.hid hb
    clear hb h1 h2 h3 h4 h5 h6
    go_wp2
    exact bodyPost_ret (by simp [results, Try.results48, go_sem]) rfl ⟨rfl, HB.out⟩

set_option maxHeartbeats 2000000 in
theorem date_no (n : Int) (w : World) (h : mayB (dY n) (dM n) (dD n) = false) (q0 : -2000000000 ≤ n / 365 ∧ n / 365 ≤ 2000000000) : Calls Try.prog 48 #[.int .i64 n] w (Kept (.tuple #[.int .i64 0, .int .i64 0, .int .i64 0, .bool false]) w) := by
  have n1 : -800000000000 ≤ n ∧ n ≤ 800000000000 := by omega
  obtain ⟨a, l, k, Y, h1, h2, h3, h4, h5, h6, o1, o2, a1, a2, l1, l2, k1, k2, d1, d2, m1, m2, hY⟩ := date_parts n
  have hO : mo (n + 719468) 146097 = dO n := mo_pos (by omega)
  have hE : flo (n + 719468) 146097 = dE n := flo_pos (by omega)
  have e1 : -6000000 ≤ dE n ∧ dE n ≤ 6000000 := by unfold dE; omega
  have H := Lib.hid h
  clear h
  obtain ⟨o, ho⟩ : ∃ o, o = dO n := ⟨_, rfl⟩
  obtain ⟨E, hE'⟩ : ∃ E, E = dE n := ⟨_, rfl⟩
  obtain ⟨y, hy⟩ : ∃ y, y = dY n := ⟨_, rfl⟩
  obtain ⟨m, hm⟩ : ∃ m, m = dM n := ⟨_, rfl⟩
  obtain ⟨d, hd⟩ : ∃ d, d = dD n := ⟨_, rfl⟩
  rw [← ho] at h1 h2 o1 o2 hO
  rw [← hE'] at h6 hE e1
  rw [← hy, ← hm, ← hd] at H
  rw [← hy, ← hm] at hY
  rw [← hm] at h5 m1 m2
  rw [← hd] at h4 d1 d2
  clear ho hE' hy hm hd
  have HO := Lib.hid hO
  have HE := Lib.hid hE
  clear hO hE
  by_cases c : m ≤ 2
  all_goals
    first | rw [if_pos c] at hY | rw [if_neg c, Int.add_zero] at hY
    subst hY
    go_enter Try.func48, Try.ntmps48
    go_wp2_with fail
    refine (floor365 _ _ (by omega) (by omega)).mono ?_
    rintro e w' ⟨rfl, rfl⟩
    go_wp2_with fail
    refine (floor365 _ _ (by omega) (by omega)).mono ?_
    rintro e w' ⟨rfl, rfl⟩
    go_wp2_with fail
    refine (floor_any _ _ _ (by omega) (by omega) (by omega) (by omega)).mono ?_
    rintro e w' ⟨rfl, rfl⟩
    rw [HE.out]
    go_wp2_with fail
    refine (mod_any _ _ _ (by omega) (by omega) (by omega) (by omega)).mono ?_
    rintro e w' ⟨rfl, rfl⟩
    rw [HO.out]
    go_wp2_with fail
    refine (may_any _ _ _ _).mono ?_
    rintro e w1 ⟨rfl, hb⟩
    rw [H.out]
    have HB := Lib.hid hb
    clear hb h1 h2 h3 h4 h5 h6
    go_wp2
    exact bodyPost_ret (by simp [results, Try.results48, go_sem]) rfl ⟨rfl, HB.out⟩

theorem date_far (n : Int) (w : World) (a0 : -9223372036854775808 ≤ n) (a1 : n ≤ 9223372036854775807) (h : ¬ (-2000000000 ≤ n / 365 ∧ n / 365 ≤ 2000000000)) : Calls Try.prog 48 #[.int .i64 n] w (Kept (.tuple #[.int .i64 0, .int .i64 0, .int .i64 0, .bool false]) w) := by
  obtain ⟨Q, hQ⟩ : ∃ Q, Q = n / 365 := ⟨_, rfl⟩
  rw [← hQ] at h
  have HQ := Lib.hid hQ
  clear hQ
  by_cases c : Q < -2000000000
  · have e1 : decide (Q < -2000000000) = true := decide_eq_true c
    clear h
    go_enter Try.func48, Try.ntmps48
    go_wp2_with fail
    refine (floor365 _ _ a0 a1).mono ?_
    rintro e w' ⟨rfl, rfl⟩
    rw [← HQ.out]
    go_wp2
    exact bodyPost_ret (by simp [results, Try.results48, go_sem]) rfl ⟨rfl, Below.refl _ _⟩
  · have e1 : decide (Q < -2000000000) = false := decide_eq_false c
    have e2 : decide (2000000000 < Q) = true := decide_eq_true (by omega)
    clear h
    go_enter Try.func48, Try.ntmps48
    go_wp2_with fail
    refine (floor365 _ _ a0 a1).mono ?_
    rintro e w' ⟨rfl, rfl⟩
    rw [← HQ.out]
    go_wp2_with fail
    refine (floor365 _ _ a0 a1).mono ?_
    rintro e w' ⟨rfl, rfl⟩
    rw [← HQ.out]
    go_wp2
    exact bodyPost_ret (by simp [results, Try.results48, go_sem]) rfl ⟨rfl, Below.refl _ _⟩

theorem date_any (n : Int) (w : World) (a0 : -9223372036854775808 ≤ n) (a1 : n ≤ 9223372036854775807) : Calls Try.prog 48 #[.int .i64 n] w (Kept (dateV n) w) := by
  cases h : mayB (dY n) (dM n) (dD n)
  · rw [dateV_no h]
    by_cases q : -2000000000 ≤ n / 365 ∧ n / 365 ≤ 2000000000
    · exact date_no n w h q
    · exact date_far n w a0 a1 q
  · rw [dateV_yes h]
    exact date_yes n w h
end Go.Proofs.Ytnoomlakgfdaeaa
