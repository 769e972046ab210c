/- Contracts: the reference's Date, civil.Cycle, the chapter's examples (lives); the walks of CivilNumbers, CivilDates. -/
import Derived.Test.YtnoomlakgfdaeaaCivC
namespace Go.Proofs.Ytnoomlakgfdaeaa
open Go.RowKit

theorem cycle_any (n : Int) (w : World) (a0 : -9223372036854775808 ≤ n) (a1 : n ≤ 9223372036854775807) :
    Calls Try.prog 50 #[.int .i64 n] w fun e w' => e = .returned (.tuple #[.int .i64 (flo n 146097), .int .i64 (mo n 146097)]) ∧ w = w' := by
  go_enter Try.func50, Try.ntmps50
  go_wp2_with fail
  refine (floor_any _ _ _ a0 a1 (by omega) (by omega)).mono ?_
  rintro e w' ⟨rfl, rfl⟩
  go_wp2_with fail
  refine (mod_any _ _ _ a0 a1 (by omega) (by omega)).mono ?_
  rintro e w' ⟨rfl, rfl⟩
  go_wp2
  go_ret2
  exact ⟨rfl, rfl⟩

theorem civil_lives (w : World) : Calls Try.prog 35 #[] w (Kept (.bool true) w) := by
  go_enter Try.func35, Try.ntmps35
  go_wp2_with fail
  refine (number_yes _ _ _ _ (by decide)).mono ?_
  rintro e w1 ⟨rfl, hb1⟩
  rw [show num 1970 1 1 = 0 by decide]
  have HB1 := Lib.hid hb1
  clear hb1
  go_wp2_with fail
  refine (number_yes _ _ _ _ (by decide)).mono ?_
  rintro e w2 ⟨rfl, hb2⟩
  rw [show num 2000 2 29 = 11016 by decide]
  have HB2 := Lib.hid (below_on HB1.out hb2)
  clear hb2
  go_wp2_with fail
  refine (ordinal_yes _ _ _ _ (by decide)).mono ?_
  rintro e w3 ⟨rfl, hb3⟩
  rw [show cum 2000 2 + 29 = 60 by decide]
  have HB3 := Lib.hid (below_on HB2.out hb3)
  clear hb3
  go_wp2
  go_ret
  exact ⟨rfl, HB3.out⟩

theorem rdate_far (n : Int) (w : World) (h : 400000000000 < n ∨ n < -400000000000) : Calls Try.prog 49 #[.int .i64 n] w fun e w' => e = .returned (.tuple #[.int .i64 0, .int .i64 0, .int .i64 0, .bool false]) ∧ w = w' := by
  by_cases c : 400000000000 < n
  · have e1 : decide (400000000000 < n) = true := decide_eq_true c
    clear h
    go_enter Try.func49, Try.ntmps49
    go_wp2
    exact bodyPost_ret (by simp [results, Try.results49, go_sem]) rfl ⟨rfl, rfl⟩
  · have e1 : decide (400000000000 < n) = false := decide_eq_false c
    have e2 : decide (n < -400000000000) = true := decide_eq_true (by omega)
    clear h
    go_enter Try.func49, Try.ntmps49
    go_wp2
    exact bodyPost_ret (by simp [results, Try.results49, go_sem]) rfl ⟨rfl, rfl⟩

set_option maxHeartbeats 2000000 in
theorem rdate_near (n : Int) (w : World) (n1 : -400000000000 ≤ n) (n2 : n ≤ 400000000000) : Calls Try.prog 49 #[.int .i64 n] w fun e w' => e = .returned (dateV n) ∧ w = w' := by
  have e1 : decide (400000000000 < n) = false := decide_eq_false (by omega)
  have e2 : decide (n < -400000000000) = false := decide_eq_false (by omega)
  obtain ⟨E, hE⟩ : ∃ E, E = flo n 146097 := ⟨_, rfl⟩
  have hE' := hE
  rw [flo_pos (by omega)] at hE'
  have e0 : -3000000 ≤ E ∧ E ≤ 3000000 := by omega
  have l0 : 0 ≤ n - 146097 * E ∧ n - 146097 * E < 146097 := by omega
  have hs : eY (1970 + 400 * E - 1) = 719162 + 146097 * E := by
    rw [show 1970 + 400 * E - 1 = 1969 + 400 * E by omega, eY_era]
    have : eY 1969 = 719162 := by decide
    omega
  have HE := Lib.hid hE
  have HS := Lib.hid hs
  clear hE hE' hs
  go_enter Try.func49, Try.ntmps49
  go_wp2_with fail
  refine (rfloor_any _ _ _ (by omega) (by omega) (by omega) (by omega)).mono ?_
  rintro e w' ⟨rfl, rfl⟩
  rw [← HE.out]
  go_wp2_with fail
  go_loop [7, 8] (fun t i => ∃ k : Int, 1970 + 400 * E ≤ k ∧ eY (k - 1) ≤ n + 719162 ∧ i = .int .i64 k ∧ t = .int .i64 (n + 719162 - eY (k - 1))) (fun t _ => (intOf t).toNat)
  case atStart => exact ⟨_, by omega, by rw [HS.out]; omega, rfl, by rw [HS.out]; go_num⟩
  case round =>
    obtain ⟨k, k1, k2, rfl, rfl⟩ := hrel
    have q1 := eY_mono (a := 1970 + 400 * E - 1) (b := k - 1) (by omega)
    rw [HS.out] at q1
    have k3 : k ≤ 1970 + 400 * E + 399 := by
      apply Classical.byContradiction
      intro hn
      have q2 := eY_mono (a := 1970 + 400 * E - 1 + 400 * 1) (b := k - 1) (by omega)
      rw [eY_era, HS.out] at q2
      omega
    have lb := lp_01 k
    obtain ⟨T, hT⟩ : ∃ T, T = n + 719162 - eY (k - 1) := ⟨_, rfl⟩
    rw [← hT]
    have t0 : 0 ≤ T ∧ T ≤ 146097 := by omega
    by_cases hlt : 365 + lp k ≤ T
    · have CS := Lib.hid (eY_succ k)
      have HT := Lib.hid hT
      clear hT
      go_wp2_with fail
      refine (year_any _ _).mono ?_
      rintro e w' ⟨rfl, rfl⟩
      go_wp2_with fail
      refine (year_any _ _).mono ?_
      rintro e w' ⟨rfl, rfl⟩
      go_wp2
      go_round
      case rel => exact ⟨k + 1, by omega, by rw [show k + 1 - 1 = k by omega, CS.out]; have := HT.out; omega, rfl, by rw [show k + 1 - 1 = k by omega, CS.out, HT.out]; go_num⟩
      case measure => simp [intOf]; omega
    · clear q1 k2
      have HT := Lib.hid hT
      clear hT
      go_wp2_with fail
      refine (year_any _ _).mono ?_
      rintro e w' ⟨rfl, rfl⟩
      have hB : decide (365 + lp k ≤ T) = false := decide_eq_false (by omega)
      have T1 : T < 365 + lp k := by omega
      clear hlt
      go_wp2_with fail
      clear hB
      go_loop [7, 9] (fun t i => ∃ m : Int, 1 ≤ m ∧ m ≤ 12 ∧ cum k m ≤ T ∧ i = .int .i64 m ∧ t = .int .i64 (T - cum k m)) (fun _ i => (13 - intOf i).toNat)
      case atStart => exact ⟨1, by omega, by omega, by rw [cum_one]; omega, rfl, by rw [cum_one]; go_num⟩
      case round =>
        obtain ⟨m, m1, m2, m3, rfl, rfl⟩ := hrel
        have cb := cum_bd k m
        have db := dim_bd k m
        have ca := cum_mono k m 13 m1 (by omega) (by omega)
        rw [cum_all] at ca
        have cl : dim k m ≤ T - cum k m → m ≤ 11 := by
          intro hd
          apply Classical.byContradiction
          intro hn
          obtain rfl : m = 12 := by omega
          have := cum_succ k 12 (by omega) (by omega)
          rw [show (12 : Int) + 1 = 13 from rfl, cum_all] at this
          omega
        obtain ⟨U, hU⟩ : ∃ U, U = T - cum k m := ⟨_, rfl⟩
        obtain ⟨D, hD⟩ : ∃ D, D = dim k m := ⟨_, rfl⟩
        rw [← hU]
        rw [← hU] at cl
        rw [← hD] at cl db ca
        have u0 : 0 ≤ U ∧ U ≤ 400 := by omega
        have CS := Lib.hid (cum_succ k m m1 m2)
        have HU := Lib.hid hU
        have HD := Lib.hid hD
        clear hU hD
        by_cases hlt : D ≤ U
        · have m11 := cl hlt
          clear cl
          go_wp2_with fail
          refine (rlength_any _ _ _).mono ?_
          rintro e w' ⟨rfl, rfl⟩
          rw [← HD.out]
          go_wp2_with fail
          refine (rlength_any _ _ _).mono ?_
          rintro e w' ⟨rfl, rfl⟩
          rw [← HD.out]
          go_wp2
          go_round
          case rel => exact ⟨m + 1, by omega, by omega, by rw [CS.out, ← HD.out]; have := HU.out; omega, rfl, by rw [CS.out, ← HD.out, HU.out]; go_num⟩
          case measure => simp [intOf]; omega
        · clear cl
          have hok : okD k m (U + 1) := ⟨m1, m2, by omega, by rw [← HD.out]; omega⟩
          have hnum : num k m (U + 1) = n := by unfold num; rw [HU.out, HT.out]; omega
          obtain ⟨y1, y2, y3⟩ := date_is hok hnum
          by_cases c1 : k < -1000000000
          · have HV : Hid (dateV n = .tuple #[.int .i64 0, .int .i64 0, .int .i64 0, .bool false]) := Lib.hid (dateV_no (by unfold mayB; exact decide_eq_false (by omega)))
            have c1' : decide (k < -1000000000) = true := decide_eq_true c1
            clear y1 y2 y3 hok hnum
            go_wp2_with fail
            refine (rlength_any _ _ _).mono ?_
            rintro e w' ⟨rfl, rfl⟩
            rw [← HD.out]
            go_wp2
            exact bodyPost_ret (by simp [results, Try.results49, go_sem]) rfl ⟨ret_val HV.out.symm, rfl⟩
          · have c1' : decide (k < -1000000000) = false := decide_eq_false c1
            by_cases c2 : 1000000000 < k
            · have HV : Hid (dateV n = .tuple #[.int .i64 0, .int .i64 0, .int .i64 0, .bool false]) := Lib.hid (dateV_no (by unfold mayB; exact decide_eq_false (by omega)))
              have c2' : decide (1000000000 < k) = true := decide_eq_true c2
              clear y1 y2 y3 hok hnum
              go_wp2_with fail
              refine (rlength_any _ _ _).mono ?_
              rintro e w' ⟨rfl, rfl⟩
              rw [← HD.out]
              go_wp2
              exact bodyPost_ret (by simp [results, Try.results49, go_sem]) rfl ⟨ret_val HV.out.symm, rfl⟩
            · have HV : Hid (dateV n = .tuple #[.int .i64 k, .int .i64 m, .int .i64 (U + 1), .bool true]) := Lib.hid (by
                rw [dateV_yes (by rw [← y1, ← y2, ← y3]; exact may_mk hok (by omega) (by omega)), ← y1, ← y2, ← y3])
              have c2' : decide (1000000000 < k) = false := decide_eq_false c2
              clear y1 y2 y3 hok hnum
              go_wp2_with fail
              refine (rlength_any _ _ _).mono ?_
              rintro e w' ⟨rfl, rfl⟩
              rw [← HD.out]
              go_wp2
              exact bodyPost_ret (by simp [results, Try.results49, go_sem]) rfl ⟨ret_val HV.out.symm, rfl⟩

theorem rdate_any (n : Int) (w : World) (a0 : -9223372036854775808 ≤ n) (a1 : n ≤ 9223372036854775807) : Calls Try.prog 49 #[.int .i64 n] w fun e w' => e = .returned (dateV n) ∧ w = w' := by
  by_cases h : 400000000000 < n ∨ n < -400000000000
  · have hb := dY_bd n
    rw [dateV_no (by unfold mayB; exact decide_eq_false (by omega))]
    exact rdate_far n w h
  · exact rdate_near n w (by omega) (by omega)
end Go.Proofs.Ytnoomlakgfdaeaa
