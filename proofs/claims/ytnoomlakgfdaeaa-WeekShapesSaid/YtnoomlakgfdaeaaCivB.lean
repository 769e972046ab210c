/- Contracts of package civil's Ordinal, Number, and of the reference's May, Year, Ordinal, Number. -/
import Derived.Test.YtnoomlakgfdaeaaCivA
import Derived.WalkMore
namespace Go.Proofs.Ytnoomlakgfdaeaa
open Go.RowKit

theorem may_ok {y m d : Int} (h : mayB y m d = true) : okD y m d ∧ -1000000000 ≤ y ∧ y ≤ 1000000000 := by
  unfold mayB at h
  obtain ⟨h1, h2, h3, h4⟩ := of_decide_eq_true h
  have := dim_m (y := y) (m := m) (by omega)
  exact ⟨⟨this.1, this.2, h3, h4⟩, h1, h2⟩
theorem may_mk {y m d : Int} (h : okD y m d) (h1 : -1000000000 ≤ y) (h2 : y ≤ 1000000000) : mayB y m d = true := by
  unfold mayB
  exact decide_eq_true ⟨h1, h2, h.2.2.1, h.2.2.2⟩

theorem rmay_ways (y m d : Int) : (decide (-1000000000 ≤ y) = false ∧ mayB y m d = false) ∨ (decide (-1000000000 ≤ y) = true ∧ decide (y ≤ 1000000000) = false ∧ mayB y m d = false) ∨
    (decide (-1000000000 ≤ y) = true ∧ decide (y ≤ 1000000000) = true ∧ decide (1 ≤ m) = false ∧ mayB y m d = false) ∨
    (decide (-1000000000 ≤ y) = true ∧ decide (y ≤ 1000000000) = true ∧ decide (1 ≤ m) = true ∧ decide (m ≤ 12) = false ∧ mayB y m d = false) ∨
    (decide (-1000000000 ≤ y) = true ∧ decide (y ≤ 1000000000) = true ∧ decide (1 ≤ m) = true ∧ decide (m ≤ 12) = true ∧ decide (1 ≤ d) = false ∧ mayB y m d = false) ∨
    (decide (-1000000000 ≤ y) = true ∧ decide (y ≤ 1000000000) = true ∧ decide (1 ≤ m) = true ∧ decide (m ≤ 12) = true ∧ decide (1 ≤ d) = true ∧ decide (d ≤ dim y m) = mayB y m d) := by
  have hd := dim_ways y m
  unfold mayB
  by_cases h1 : -1000000000 ≤ y <;> by_cases h2 : y ≤ 1000000000 <;> by_cases h3 : 1 ≤ d <;> by_cases h4 : 1 ≤ m <;> by_cases h5 : m ≤ 12 <;> simp [h1, h2, h3, h4, h5] <;> omega
theorem rmay_any (y m d : Int) (w : World) : Calls Try.prog 34 #[.int .i64 y, .int .i64 m, .int .i64 d] w fun e w' => e = .returned (.bool (mayB y m d)) ∧ w = w' := by
  rcases rmay_ways y m d with ⟨c1, c⟩ | ⟨c1, c2, c⟩ | ⟨c1, c2, c3, c⟩ | ⟨c1, c2, c3, c4, c⟩ | ⟨c1, c2, c3, c4, c5, c⟩ | ⟨c1, c2, c3, c4, c5, c⟩
  iterate 5
    · rw [c]
      clear c
      go_enter Try.func34, Try.ntmps34
      go_wp2
      go_ret
      exact ⟨rfl, rfl⟩
  · rw [← c]
    clear c
    obtain ⟨D, hD⟩ : ∃ D, D = dim y m := ⟨_, rfl⟩
    rw [← hD]
    have HD := Lib.hid hD
    clear hD
    go_enter Try.func34, Try.ntmps34
    go_wp2_with fail
    refine (rlength_any _ _ _).mono ?_
    rintro e w1 ⟨rfl, rfl⟩
    rw [← HD.out]
    go_wp2
    go_ret
    exact ⟨rfl, rfl⟩

theorem year_any (y : Int) (w : World) : Calls Try.prog 83 #[.int .i64 y] w fun e w' => e = .returned (.int .i64 (365 + lp y)) ∧ w = w' := by
  cases hb : lpB y
  all_goals
    first | rw [lp_no hb] | rw [lp_yes hb]
    have HB := Lib.hid hb
    clear hb
    go_enter Try.func83, Try.ntmps83
    go_wp2_with (go_at_call 31; refine (rleap_any _ _).mono ?_; rintro e w1 ⟨rfl, rfl⟩; rw [HB.out])
    go_ret
    exact ⟨rfl, rfl⟩

set_option maxHeartbeats 1000000 in
theorem rordinal_any (y m d : Int) (w : World) (m1 : 1 ≤ m) (m2 : m ≤ 12) (d1 : 1 ≤ d) (d2 : d ≤ 31) : Calls Try.prog 37 #[.int .i64 y, .int .i64 m, .int .i64 d] w fun e w' => e = .returned (.int .i64 (cum y m + d)) ∧ w = w' := by
  go_enter Try.func37, Try.ntmps37
  go_wp2_with fail
  go_loop [7, 8] (fun n i => ∃ k : Int, 1 ≤ k ∧ k ≤ m ∧ i = .int .i64 k ∧ n = .int .i64 (cum y k + d)) (fun _ i => (13 - intOf i).toNat)
  case atStart => exact ⟨1, by omega, by omega, rfl, by rw [cum_one]; go_num⟩
  case round =>
    obtain ⟨k, k1, k2, rfl, rfl⟩ := hrel
    have cb := cum_bd y k
    have db := dim_bd y k
    by_cases hlt : k < m
    · have CS := Lib.hid (cum_succ y k k1 (by omega))
      go_wp2_with fail
      refine (rlength_any _ _ _).mono ?_
      rintro e w' ⟨rfl, rfl⟩
      go_wp2
      go_round
      case rel => exact ⟨k + 1, by omega, by omega, rfl, by rw [CS.out]; go_num⟩
      case measure => simp [intOf]; omega
    · obtain rfl : k = m := by omega
      go_wp2
      go_ret
      exact ⟨rfl, rfl⟩
set_option maxHeartbeats 1000000 in
theorem ordinal_yes (y m d : Int) (w : World) (h : mayB y m d = true) : Calls Try.prog 29 #[.int .i64 y, .int .i64 m, .int .i64 d] w (Kept (.tuple #[.int .i64 (cum y m + d), .bool true]) w) := by
  have HM := Lib.hid h
  obtain ⟨⟨m1, m2, d1, d2⟩, y1, y2⟩ := may_ok h
  clear h
  go_enter Try.func29, Try.ntmps29
  go_wp2_with fail
  go_step3
  go_wp2_with fail
  refine (may_any _ _ _ _).mono ?_
  rintro e w1 ⟨rfl, hb⟩
  rw [HM.out]
  have HB := Lib.hid hb
  clear hb
  go_wp2_with fail
  go_step3
  go_wp2_with fail
  go_loopw [8, 9] (fun n i wr => ∃ k : Int, 1 ≤ k ∧ k ≤ m ∧ i = .int .i64 k ∧ n = .int .i64 (cum y k + d) ∧ Hid (Below w.heap.size w wr)) (fun _ i _ => (13 - intOf i).toNat)
  case atStart => exact ⟨1, by omega, by omega, rfl, by rw [cum_one]; go_num, HB⟩
  case round =>
    obtain ⟨k, k1, k2, rfl, rfl, HW⟩ := hrel
    have cb := cum_bd y k
    have db := dim_bd y k
    have db2 := dim_bd y m
    by_cases hlt : k < m
    · have CS := Lib.hid (cum_succ y k k1 (by omega))
      have hne : (k == m) = false := beq_eq_false_iff_ne.2 (by omega)
      go_wp2_with fail
      refine (length_any _ _ _).mono ?_
      rintro e w' ⟨rfl, hb⟩
      have HW' := Lib.hid (below_on HW.out hb)
      clear hb
      go_wp2
      go_roundw
      case rel => exact ⟨k + 1, by omega, by omega, rfl, by rw [CS.out]; go_num, HW'⟩
      case measure => simp [intOf]; omega
    · obtain rfl : k = m := by omega
      go_wp2
      try rw [Exit.noGoto_ret]
      go_ret2
      exact ⟨rfl, HW.out⟩

theorem ordinal_no (y m d : Int) (w : World) (h : mayB y m d = false) : Calls Try.prog 29 #[.int .i64 y, .int .i64 m, .int .i64 d] w (Kept (.tuple #[.int .i64 0, .bool false]) w) := by
  have HM := Lib.hid h
  clear h
  go_enter Try.func29, Try.ntmps29
  go_wp2_with fail
  go_step3
  go_wp2_with fail
  refine (may_any _ _ _ _).mono ?_
  rintro e w1 ⟨rfl, hb⟩
  rw [HM.out]
  have HB := Lib.hid hb
  clear hb
  go_wp2
  try rw [Exit.noGoto_ret]
  go_ret2
  exact ⟨rfl, HB.out⟩

theorem number_no (y m d : Int) (w : World) (h : mayB y m d = false) : Calls Try.prog 28 #[.int .i64 y, .int .i64 m, .int .i64 d] w (Kept (.tuple #[.int .i64 0, .bool false]) w) := by
  have HM := Lib.hid h
  clear h
  go_enter Try.func28, Try.ntmps28
  go_wp2_with fail
  refine (may_any _ _ _ _).mono ?_
  rintro e w1 ⟨rfl, hb⟩
  rw [HM.out]
  have HB := Lib.hid hb
  clear hb
  go_wp2
  go_ret2
  exact ⟨rfl, HB.out⟩

set_option maxHeartbeats 1000000 in
theorem number_yes (y m d : Int) (w : World) (h : mayB y m d = true) : Calls Try.prog 28 #[.int .i64 y, .int .i64 m, .int .i64 d] w (Kept (.tuple #[.int .i64 (num y m d), .bool true]) w) := by
  have HM := Lib.hid h
  obtain ⟨⟨m1, m2, d1, d2⟩, y1, y2⟩ := may_ok h
  have db := dim_bd y m
  clear h
  by_cases h2 : m ≤ 2
  all_goals
    first
      | (have hp := num_prog y m d m1 m2 (y - 1) (if_pos h2).symm; obtain ⟨E, hE⟩ : ∃ E, E = flo (y - 1) 400 := ⟨_, rfl⟩; obtain ⟨F, hF⟩ : ∃ F, F = mo (y - 1) 400 := ⟨_, rfl⟩)
      | (have hp := num_prog y m d m1 m2 y (if_neg h2).symm; obtain ⟨E, hE⟩ : ∃ E, E = flo y 400 := ⟨_, rfl⟩; obtain ⟨F, hF⟩ : ∃ F, F = mo y 400 := ⟨_, rfl⟩)
    have hE' := hE
    have hF' := hF
    rw [flo_pos (by omega)] at hE'
    rw [mo_pos (by omega)] at hF'
    rw [← hE', ← hF'] at hp
    have e0 : -3000000 ≤ E ∧ E ≤ 3000000 := by omega
    have f0 : 0 ≤ F ∧ F ≤ 399 := by omega
    clear hE' hF'
    have HE := Lib.hid hE
    have HF := Lib.hid hF
    have HP := Lib.hid hp
    clear hE hF hp
    have g1 : 0 ≤ F / 4 ∧ F / 4 ≤ 99 := by omega
    have g2 : 0 ≤ F / 100 ∧ F / 100 ≤ 3 := by omega
    have g3 : 0 ≤ (m + 9) % 12 ∧ (m + 9) % 12 ≤ 11 := by omega
    have g4 : 0 ≤ (153 * ((m + 9) % 12) + 2) / 5 ∧ (153 * ((m + 9) % 12) + 2) / 5 ≤ 400 := by omega
    go_enter Try.func28, Try.ntmps28
    go_wp2_with fail
    refine (may_any _ _ _ _).mono ?_
    rintro e w1 ⟨rfl, hb⟩
    rw [HM.out]
    have HB := Lib.hid hb
    clear hb
    go_wp2_with fail
    refine (floor_any _ _ _ (by omega) (by omega) (by omega) (by omega)).mono ?_
    rintro e w' ⟨rfl, rfl⟩
    rw [← HE.out]
    go_wp2_with fail
    refine (mod_any _ _ _ (by omega) (by omega) (by omega) (by omega)).mono ?_
    rintro e w' ⟨rfl, rfl⟩
    rw [← HF.out]
    go_wp2
    go_ret2
    rw [← HP.out]
    exact ⟨rfl, HB.out⟩

set_option maxHeartbeats 1000000 in
theorem rnumber_any (y m d : Int) (w : World) (h : mayB y m d = true) : Calls Try.prog 36 #[.int .i64 y, .int .i64 m, .int .i64 d] w fun e w' => e = .returned (.int .i64 (num y m d)) ∧ w = w' := by
  obtain ⟨⟨m1, m2, d1, d2⟩, y1, y2⟩ := may_ok h
  have db := dim_bd y m
  have cb := cum_bd y m
  clear h
  obtain ⟨E, hE⟩ : ∃ E, E = flo (y - 1970) 400 := ⟨_, rfl⟩
  have hE' := hE
  rw [flo_pos (by omega)] at hE'
  have e0 : -3000000 ≤ E ∧ E ≤ 3000000 := by omega
  have e1 : 1970 + 400 * E ≤ y ∧ y ≤ 1970 + 400 * E + 399 := by omega
  have hs : eY (1970 + 400 * E - 1) = 719162 + 146097 * E := by
    rw [show 1970 + 400 * E - 1 = 1969 + 400 * E by omega, eY_era]
    have : eY 1969 = 719162 := by decide
    omega
  have HE := Lib.hid hE
  have HS := Lib.hid hs
  clear hE hE' hs
  go_enter Try.func36, Try.ntmps36
  go_wp2_with fail
  refine (rfloor_any _ _ _ (by omega) (by omega) (by omega) (by omega)).mono ?_
  rintro e w' ⟨rfl, rfl⟩
  rw [← HE.out]
  go_wp2_with fail
  go_loop [8, 9] (fun n i => ∃ k : Int, 1970 + 400 * E ≤ k ∧ k ≤ y ∧ i = .int .i64 k ∧ n = .int .i64 (eY (k - 1) - 719162)) (fun _ i => (y - intOf i).toNat)
  case atStart => exact ⟨_, by omega, by omega, rfl, by rw [HS.out]; go_num⟩
  case round =>
    obtain ⟨k, k1, k2, rfl, rfl⟩ := hrel
    have q1 := eY_mono (a := 1970 + 400 * E - 1) (b := k - 1) (by omega)
    have q2 := eY_mono (a := k - 1) (b := 1970 + 400 * E - 1 + 400 * 1) (by omega)
    rw [eY_era] at q2
    rw [HS.out] at q1 q2
    have lb := lp_01 k
    by_cases hlt : k < y
    · have CS := Lib.hid (eY_succ k)
      go_wp2_with fail
      refine (year_any _ _).mono ?_
      rintro e w' ⟨rfl, rfl⟩
      go_wp2
      go_round
      case rel => exact ⟨k + 1, by omega, by omega, rfl, by rw [show k + 1 - 1 = k by omega, CS.out]; go_num⟩
      case measure => simp [intOf]; omega
    · obtain rfl : k = y := by omega
      go_wp2_with fail
      refine (rordinal_any _ _ _ _ m1 m2 d1 (by omega)).mono ?_
      rintro e w' ⟨rfl, rfl⟩
      go_wp2
      go_ret
      exact ⟨ret_int (by unfold num; omega), rfl⟩
end Go.Proofs.Ytnoomlakgfdaeaa
