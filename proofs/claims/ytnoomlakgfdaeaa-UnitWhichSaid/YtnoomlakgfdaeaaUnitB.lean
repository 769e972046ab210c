/- Contracts of package unit's ofDay, Which, Phase, of the reference's On; the chapter's examples (lives). -/
import Derived.Test.YtnoomlakgfdaeaaUnitA
namespace Go.Proofs.Ytnoomlakgfdaeaa
open Go.RowKit


set_option maxHeartbeats 2000000 in
theorem ofday_3 (D y m a3 a4 a5 a6 a7 a8 a9 : Int) (w : World) (d0 : 0 ≤ D) (d1 : D ≤ 146096) (y0 : -1000000000 ≤ y) (y1 : y ≤ 1000000000) (m0 : 1 ≤ m) (m1 : m ≤ 12) :
    Calls Try.prog 84 #[.int .i64 3, .agg #[.int .i64 D, .int .i64 y, .int .i64 m, .int .i64 a3, .int .i64 a4, .int .i64 a5, .int .i64 a6, .int .i64 a7, .int .i64 a8, .int .i64 a9]] w (Kept (.int .i64 D) w) := by
  go_enter Try.func84, Try.ntmps84
  go_wp2
  go_ret
  exact ⟨rfl, (Below.refl _ _).alloc (Nat.le_refl _) _⟩

set_option maxHeartbeats 2000000 in
theorem ofday_4 (D y m a3 a4 a5 a6 a7 a8 a9 : Int) (w : World) (d0 : 0 ≤ D) (d1 : D ≤ 146096) (y0 : -1000000000 ≤ y) (y1 : y ≤ 1000000000) (m0 : 1 ≤ m) (m1 : m ≤ 12) :
    Calls Try.prog 84 #[.int .i64 4, .agg #[.int .i64 D, .int .i64 y, .int .i64 m, .int .i64 a3, .int .i64 a4, .int .i64 a5, .int .i64 a6, .int .i64 a7, .int .i64 a8, .int .i64 a9]] w (Kept (.int .i64 (wk D)) w) := by
  go_enter Try.func84, Try.ntmps84
  go_wp2_with fail
  refine (wnum_any _ _ (by omega) (by omega)).mono ?_
  rintro e w' ⟨rfl, rfl⟩
  go_wp2
  go_ret
  exact ⟨rfl, (Below.refl _ _).alloc (Nat.le_refl _) _⟩

set_option maxHeartbeats 2000000 in
theorem ofday_5 (D y m a3 a4 a5 a6 a7 a8 a9 : Int) (w : World) (d0 : 0 ≤ D) (d1 : D ≤ 146096) (y0 : -1000000000 ≤ y) (y1 : y ≤ 1000000000) (m0 : 1 ≤ m) (m1 : m ≤ 12) :
    Calls Try.prog 84 #[.int .i64 5, .agg #[.int .i64 D, .int .i64 y, .int .i64 m, .int .i64 a3, .int .i64 a4, .int .i64 a5, .int .i64 a6, .int .i64 a7, .int .i64 a8, .int .i64 a9]] w (Kept (.int .i64 (12 * y + m - 1)) w) := by
  go_enter Try.func84, Try.ntmps84
  go_wp2
  go_ret
  exact ⟨rfl, (Below.refl _ _).alloc (Nat.le_refl _) _⟩

set_option maxHeartbeats 2000000 in
theorem ofday_6 (D y m a3 a4 a5 a6 a7 a8 a9 : Int) (w : World) (d0 : 0 ≤ D) (d1 : D ≤ 146096) (y0 : -1000000000 ≤ y) (y1 : y ≤ 1000000000) (m0 : 1 ≤ m) (m1 : m ≤ 12) :
    Calls Try.prog 84 #[.int .i64 6, .agg #[.int .i64 D, .int .i64 y, .int .i64 m, .int .i64 a3, .int .i64 a4, .int .i64 a5, .int .i64 a6, .int .i64 a7, .int .i64 a8, .int .i64 a9]] w (Kept (.int .i64 y) w) := by
  go_enter Try.func84, Try.ntmps84
  go_wp2
  go_ret
  exact ⟨rfl, (Below.refl _ _).alloc (Nat.le_refl _) _⟩

theorem uwh_6 (t : Int) : uWh 6 t = dY (t / 86400) := rfl
theorem uwh_5 (t : Int) : uWh 5 t = 12 * dY (t / 86400) + dM (t / 86400) - 1 := rfl
theorem uwh_4 (t : Int) : uWh 4 t = wk (t / 86400) := rfl
theorem uwh_3 (t : Int) : uWh 3 t = t / 86400 := rfl

set_option maxHeartbeats 2000000 in
theorem uwhich_0 (t : Int) (w : World) (ht : inW t = true) : Calls Try.prog 38 #[.int .i64 0, .int .i64 t] w (Kept (.tuple #[.int .i64 t, .bool true]) w) := by
  obtain ⟨t0, t1⟩ := of_decide_eq_true ht
  have HT := Lib.hid ht
  have HZ : Hid (uSz 0 = 1) := Lib.hid rfl
  clear ht
  go_enter Try.func38, Try.ntmps38
  go_wp2_with fail
  refine (split_yes _ _ HT.out).mono ?_
  rintro e w' ⟨rfl, rfl⟩
  go_wp2_with fail
  refine (size_any _ _).mono ?_
  rintro e w1 ⟨rfl, hb⟩
  rw [HZ.out]
  have HB := Lib.hid hb
  clear hb
  go_wp2
  go_ret2
  exact ⟨rfl, HB.out⟩

set_option maxHeartbeats 2000000 in
theorem uwhich_1 (t : Int) (w : World) (ht : inW t = true) : Calls Try.prog 38 #[.int .i64 1, .int .i64 t] w (Kept (.tuple #[.int .i64 (t / 60), .bool true]) w) := by
  obtain ⟨t0, t1⟩ := of_decide_eq_true ht
  have HT := Lib.hid ht
  have HZ : Hid (uSz 1 = 60) := Lib.hid rfl
  clear ht
  go_enter Try.func38, Try.ntmps38
  go_wp2_with fail
  refine (split_yes _ _ HT.out).mono ?_
  rintro e w' ⟨rfl, rfl⟩
  go_wp2_with fail
  refine (size_any _ _).mono ?_
  rintro e w1 ⟨rfl, hb⟩
  rw [HZ.out]
  have HB := Lib.hid hb
  clear hb
  go_wp2
  go_ret2
  exact ⟨rfl, HB.out⟩

set_option maxHeartbeats 2000000 in
theorem uwhich_2 (t : Int) (w : World) (ht : inW t = true) : Calls Try.prog 38 #[.int .i64 2, .int .i64 t] w (Kept (.tuple #[.int .i64 (t / 3600), .bool true]) w) := by
  obtain ⟨t0, t1⟩ := of_decide_eq_true ht
  have HT := Lib.hid ht
  have HZ : Hid (uSz 2 = 3600) := Lib.hid rfl
  clear ht
  go_enter Try.func38, Try.ntmps38
  go_wp2_with fail
  refine (split_yes _ _ HT.out).mono ?_
  rintro e w' ⟨rfl, rfl⟩
  go_wp2_with fail
  refine (size_any _ _).mono ?_
  rintro e w1 ⟨rfl, hb⟩
  rw [HZ.out]
  have HB := Lib.hid hb
  clear hb
  go_wp2
  go_ret2
  exact ⟨rfl, HB.out⟩

set_option maxHeartbeats 4000000 in
theorem uwhich_3 (t : Int) (w : World) (ht : inW t = true) : Calls Try.prog 38 #[.int .i64 3, .int .i64 t] w (Kept (.tuple #[.int .i64 (t / 86400), .bool true]) w) := by
  obtain ⟨t0, t1⟩ := of_decide_eq_true ht
  have HT := Lib.hid ht
  have HZ : Hid (uSz 3 = 0) := Lib.hid rfl
  obtain ⟨D, hD⟩ : ∃ D, D = t / 86400 := ⟨_, rfl⟩
  have d0 : 0 ≤ D ∧ D ≤ 146096 := by omega
  rw [← hD]
  have HD := Lib.hid hD
  clear ht hD
  obtain ⟨y1, y2, m1, m2, _, _, _⟩ := near_bd D (by omega) (by omega)
  have hs := shV_form D
  obtain ⟨y, hy⟩ : ∃ y, y = dY D := ⟨_, rfl⟩
  obtain ⟨m, hm⟩ : ∃ m, m = dM D := ⟨_, rfl⟩
  rw [← hy] at hs y1 y2
  rw [← hm] at hs m1 m2
  obtain ⟨b3, h3⟩ : ∃ x, x = dD D := ⟨_, rfl⟩
  obtain ⟨b4, h4⟩ : ∃ x, x = dim y m - b3 + 1 := ⟨_, rfl⟩
  obtain ⟨b5, h5⟩ : ∃ x, x = wd D := ⟨_, rfl⟩
  obtain ⟨b6, h6⟩ : ∃ x, x = wi b3 (dim y m) := ⟨_, rfl⟩
  obtain ⟨b7, h7⟩ : ∃ x, x = wo b3 (dim y m) := ⟨_, rfl⟩
  obtain ⟨b8, h8⟩ : ∃ x, x = wi (cum y m + b3) (365 + lp y) := ⟨_, rfl⟩
  obtain ⟨b9, h9⟩ : ∃ x, x = wo (cum y m + b3) (365 + lp y) := ⟨_, rfl⟩
  rw [← h3, ← h4, ← h5, ← h6, ← h7, ← h8, ← h9] at hs
  skip
  have HS := Lib.hid hs
  clear hs hy hm h3 h4 h5 h6 h7 h8 h9
  go_enter Try.func38, Try.ntmps38
  go_wp2_with fail
  refine (split_yes _ _ HT.out).mono ?_
  rintro e w' ⟨rfl, rfl⟩
  rw [← HD.out]
  go_wp2_with fail
  refine (size_any _ _).mono ?_
  rintro e w1 ⟨rfl, hb⟩
  rw [HZ.out]
  have HB := Lib.hid hb
  clear hb
  go_wp2_with fail
  refine (shape_yes D _ (by omega) (by omega)).mono ?_
  rintro e w2 ⟨rfl, hb⟩
  rw [HS.out]
  have HB2 := Lib.hid (below_on HB.out hb)
  clear hb
  go_wp2_with fail
  refine (ofday_3 _ _ _ _ _ _ _ _ _ _ _ (by omega) (by omega) (by omega) (by omega) (by omega) (by omega)).mono ?_
  rintro e w3 ⟨rfl, hb⟩
  have HB3 := Lib.hid (below_on (HB2.out.alloc HB2.out.size _) hb)
  clear hb
  go_wp2
  go_ret2
  exact ⟨rfl, HB3.out⟩

set_option maxHeartbeats 4000000 in
theorem uwhich_4 (t : Int) (w : World) (ht : inW t = true) : Calls Try.prog 38 #[.int .i64 4, .int .i64 t] w (Kept (.tuple #[.int .i64 (wk (t / 86400)), .bool true]) w) := by
  obtain ⟨t0, t1⟩ := of_decide_eq_true ht
  have HT := Lib.hid ht
  have HZ : Hid (uSz 4 = 0) := Lib.hid rfl
  obtain ⟨D, hD⟩ : ∃ D, D = t / 86400 := ⟨_, rfl⟩
  have d0 : 0 ≤ D ∧ D ≤ 146096 := by omega
  rw [← hD]
  have HD := Lib.hid hD
  clear ht hD
  obtain ⟨y1, y2, m1, m2, _, _, _⟩ := near_bd D (by omega) (by omega)
  have hs := shV_form D
  obtain ⟨y, hy⟩ : ∃ y, y = dY D := ⟨_, rfl⟩
  obtain ⟨m, hm⟩ : ∃ m, m = dM D := ⟨_, rfl⟩
  rw [← hy] at hs y1 y2
  rw [← hm] at hs m1 m2
  obtain ⟨b3, h3⟩ : ∃ x, x = dD D := ⟨_, rfl⟩
  obtain ⟨b4, h4⟩ : ∃ x, x = dim y m - b3 + 1 := ⟨_, rfl⟩
  obtain ⟨b5, h5⟩ : ∃ x, x = wd D := ⟨_, rfl⟩
  obtain ⟨b6, h6⟩ : ∃ x, x = wi b3 (dim y m) := ⟨_, rfl⟩
  obtain ⟨b7, h7⟩ : ∃ x, x = wo b3 (dim y m) := ⟨_, rfl⟩
  obtain ⟨b8, h8⟩ : ∃ x, x = wi (cum y m + b3) (365 + lp y) := ⟨_, rfl⟩
  obtain ⟨b9, h9⟩ : ∃ x, x = wo (cum y m + b3) (365 + lp y) := ⟨_, rfl⟩
  rw [← h3, ← h4, ← h5, ← h6, ← h7, ← h8, ← h9] at hs
  skip
  have HS := Lib.hid hs
  clear hs hy hm h3 h4 h5 h6 h7 h8 h9
  go_enter Try.func38, Try.ntmps38
  go_wp2_with fail
  refine (split_yes _ _ HT.out).mono ?_
  rintro e w' ⟨rfl, rfl⟩
  rw [← HD.out]
  go_wp2_with fail
  refine (size_any _ _).mono ?_
  rintro e w1 ⟨rfl, hb⟩
  rw [HZ.out]
  have HB := Lib.hid hb
  clear hb
  go_wp2_with fail
  refine (shape_yes D _ (by omega) (by omega)).mono ?_
  rintro e w2 ⟨rfl, hb⟩
  rw [HS.out]
  have HB2 := Lib.hid (below_on HB.out hb)
  clear hb
  go_wp2_with fail
  refine (ofday_4 _ _ _ _ _ _ _ _ _ _ _ (by omega) (by omega) (by omega) (by omega) (by omega) (by omega)).mono ?_
  rintro e w3 ⟨rfl, hb⟩
  have HB3 := Lib.hid (below_on (HB2.out.alloc HB2.out.size _) hb)
  clear hb
  go_wp2
  go_ret2
  exact ⟨rfl, HB3.out⟩

set_option maxHeartbeats 4000000 in
theorem uwhich_5 (t : Int) (w : World) (ht : inW t = true) : Calls Try.prog 38 #[.int .i64 5, .int .i64 t] w (Kept (.tuple #[.int .i64 (12 * dY (t / 86400) + dM (t / 86400) - 1), .bool true]) w) := by
  obtain ⟨t0, t1⟩ := of_decide_eq_true ht
  have HT := Lib.hid ht
  have HZ : Hid (uSz 5 = 0) := Lib.hid rfl
  obtain ⟨D, hD⟩ : ∃ D, D = t / 86400 := ⟨_, rfl⟩
  have d0 : 0 ≤ D ∧ D ≤ 146096 := by omega
  rw [← hD]
  have HD := Lib.hid hD
  clear ht hD
  obtain ⟨y1, y2, m1, m2, _, _, _⟩ := near_bd D (by omega) (by omega)
  have hs := shV_form D
  obtain ⟨y, hy⟩ : ∃ y, y = dY D := ⟨_, rfl⟩
  obtain ⟨m, hm⟩ : ∃ m, m = dM D := ⟨_, rfl⟩
  rw [← hy] at hs y1 y2
  rw [← hm] at hs m1 m2
  obtain ⟨b3, h3⟩ : ∃ x, x = dD D := ⟨_, rfl⟩
  obtain ⟨b4, h4⟩ : ∃ x, x = dim y m - b3 + 1 := ⟨_, rfl⟩
  obtain ⟨b5, h5⟩ : ∃ x, x = wd D := ⟨_, rfl⟩
  obtain ⟨b6, h6⟩ : ∃ x, x = wi b3 (dim y m) := ⟨_, rfl⟩
  obtain ⟨b7, h7⟩ : ∃ x, x = wo b3 (dim y m) := ⟨_, rfl⟩
  obtain ⟨b8, h8⟩ : ∃ x, x = wi (cum y m + b3) (365 + lp y) := ⟨_, rfl⟩
  obtain ⟨b9, h9⟩ : ∃ x, x = wo (cum y m + b3) (365 + lp y) := ⟨_, rfl⟩
  rw [← h3, ← h4, ← h5, ← h6, ← h7, ← h8, ← h9] at hs
  rw [← hy, ← hm]
  have HS := Lib.hid hs
  clear hs hy hm h3 h4 h5 h6 h7 h8 h9
  go_enter Try.func38, Try.ntmps38
  go_wp2_with fail
  refine (split_yes _ _ HT.out).mono ?_
  rintro e w' ⟨rfl, rfl⟩
  rw [← HD.out]
  go_wp2_with fail
  refine (size_any _ _).mono ?_
  rintro e w1 ⟨rfl, hb⟩
  rw [HZ.out]
  have HB := Lib.hid hb
  clear hb
  go_wp2_with fail
  refine (shape_yes D _ (by omega) (by omega)).mono ?_
  rintro e w2 ⟨rfl, hb⟩
  rw [HS.out]
  have HB2 := Lib.hid (below_on HB.out hb)
  clear hb
  go_wp2_with fail
  refine (ofday_5 _ _ _ _ _ _ _ _ _ _ _ (by omega) (by omega) (by omega) (by omega) (by omega) (by omega)).mono ?_
  rintro e w3 ⟨rfl, hb⟩
  have HB3 := Lib.hid (below_on (HB2.out.alloc HB2.out.size _) hb)
  clear hb
  go_wp2
  go_ret2
  exact ⟨rfl, HB3.out⟩

set_option maxHeartbeats 4000000 in
theorem uwhich_6 (t : Int) (w : World) (ht : inW t = true) : Calls Try.prog 38 #[.int .i64 6, .int .i64 t] w (Kept (.tuple #[.int .i64 (dY (t / 86400)), .bool true]) w) := by
  obtain ⟨t0, t1⟩ := of_decide_eq_true ht
  have HT := Lib.hid ht
  have HZ : Hid (uSz 6 = 0) := Lib.hid rfl
  obtain ⟨D, hD⟩ : ∃ D, D = t / 86400 := ⟨_, rfl⟩
  have d0 : 0 ≤ D ∧ D ≤ 146096 := by omega
  rw [← hD]
  have HD := Lib.hid hD
  clear ht hD
  obtain ⟨y1, y2, m1, m2, _, _, _⟩ := near_bd D (by omega) (by omega)
  have hs := shV_form D
  obtain ⟨y, hy⟩ : ∃ y, y = dY D := ⟨_, rfl⟩
  obtain ⟨m, hm⟩ : ∃ m, m = dM D := ⟨_, rfl⟩
  rw [← hy] at hs y1 y2
  rw [← hm] at hs m1 m2
  obtain ⟨b3, h3⟩ : ∃ x, x = dD D := ⟨_, rfl⟩
  obtain ⟨b4, h4⟩ : ∃ x, x = dim y m - b3 + 1 := ⟨_, rfl⟩
  obtain ⟨b5, h5⟩ : ∃ x, x = wd D := ⟨_, rfl⟩
  obtain ⟨b6, h6⟩ : ∃ x, x = wi b3 (dim y m) := ⟨_, rfl⟩
  obtain ⟨b7, h7⟩ : ∃ x, x = wo b3 (dim y m) := ⟨_, rfl⟩
  obtain ⟨b8, h8⟩ : ∃ x, x = wi (cum y m + b3) (365 + lp y) := ⟨_, rfl⟩
  obtain ⟨b9, h9⟩ : ∃ x, x = wo (cum y m + b3) (365 + lp y) := ⟨_, rfl⟩
  rw [← h3, ← h4, ← h5, ← h6, ← h7, ← h8, ← h9] at hs
  rw [← hy]
  have HS := Lib.hid hs
  clear hs hy hm h3 h4 h5 h6 h7 h8 h9
  go_enter Try.func38, Try.ntmps38
  go_wp2_with fail
  refine (split_yes _ _ HT.out).mono ?_
  rintro e w' ⟨rfl, rfl⟩
  rw [← HD.out]
  go_wp2_with fail
  refine (size_any _ _).mono ?_
  rintro e w1 ⟨rfl, hb⟩
  rw [HZ.out]
  have HB := Lib.hid hb
  clear hb
  go_wp2_with fail
  refine (shape_yes D _ (by omega) (by omega)).mono ?_
  rintro e w2 ⟨rfl, hb⟩
  rw [HS.out]
  have HB2 := Lib.hid (below_on HB.out hb)
  clear hb
  go_wp2_with fail
  refine (ofday_6 _ _ _ _ _ _ _ _ _ _ _ (by omega) (by omega) (by omega) (by omega) (by omega) (by omega)).mono ?_
  rintro e w3 ⟨rfl, hb⟩
  have HB3 := Lib.hid (below_on (HB2.out.alloc HB2.out.size _) hb)
  clear hb
  go_wp2
  go_ret2
  exact ⟨rfl, HB3.out⟩

theorem uwhich_yes (u t : Int) (w : World) (hu : uB u = true) (ht : inW t = true) : Calls Try.prog 38 #[.int .i64 u, .int .i64 t] w (Kept (.tuple #[.int .i64 (uWh u t), .bool true]) w) := by
  obtain ⟨u0, u1⟩ := of_decide_eq_true hu
  rcases u_ways u0 u1 with rfl | rfl | rfl | rfl | rfl | rfl | rfl
  · exact uwhich_0 t w ht
  · exact uwhich_1 t w ht
  · exact uwhich_2 t w ht
  · exact uwhich_3 t w ht
  · exact uwhich_4 t w ht
  · exact uwhich_5 t w ht
  · exact uwhich_6 t w ht

theorem uwhich_no1 (u t : Int) (w : World) (ht : inW t = false) : Calls Try.prog 38 #[.int .i64 u, .int .i64 t] w (Kept (.tuple #[.int .i64 0, .bool false]) w) := by
  have HT := Lib.hid ht
  clear ht
  go_enter Try.func38, Try.ntmps38
  go_wp2_with fail
  refine (split_no _ _ HT.out).mono ?_
  rintro e w' ⟨rfl, rfl⟩
  go_wp2
  go_ret2
  exact ⟨rfl, Below.refl _ _⟩
theorem uwhich_no2 (u t : Int) (w : World) (ht : inW t = true) (hu : uB u = false) : Calls Try.prog 38 #[.int .i64 u, .int .i64 t] w (Kept (.tuple #[.int .i64 0, .bool false]) w) := by
  have HT := Lib.hid ht
  have hu' := of_decide_eq_false hu
  clear ht hu
  by_cases c : u < 0
  · have g1 : decide (u < 0) = true := decide_eq_true c
    clear hu'
    go_enter Try.func38, Try.ntmps38
    go_wp2_with fail
    refine (split_yes _ _ HT.out).mono ?_
    rintro e w' ⟨rfl, rfl⟩
    go_wp2
    go_ret2
    exact ⟨rfl, Below.refl _ _⟩
  · have g1 : decide (u < 0) = false := decide_eq_false c
    have g2 : decide (7 ≤ u) = true := decide_eq_true (by omega)
    clear hu'
    go_enter Try.func38, Try.ntmps38
    go_wp2_with fail
    refine (split_yes _ _ HT.out).mono ?_
    rintro e w' ⟨rfl, rfl⟩
    go_wp2
    go_ret2
    exact ⟨rfl, Below.refl _ _⟩

/-- which unit an instant lies in, or that there is none -/
def whB (u t : Int) : Bool := uB u && inW t
theorem uwhich_no (u t : Int) (w : World) (h : whB u t = false) : Calls Try.prog 38 #[.int .i64 u, .int .i64 t] w (Kept (.tuple #[.int .i64 0, .bool false]) w) := by
  cases ht : inW t
  · exact uwhich_no1 u t w ht
  · exact uwhich_no2 u t w ht (by unfold whB at h; rw [ht, Bool.and_true] at h; exact h)
end Go.Proofs.Ytnoomlakgfdaeaa
