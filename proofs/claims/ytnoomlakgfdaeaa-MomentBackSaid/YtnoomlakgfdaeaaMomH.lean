/- Contract of the reference's Of. -/
import Derived.Test.YtnoomlakgfdaeaaMomG
namespace Go.Proofs.Ytnoomlakgfdaeaa
open Go.RowKit

set_option maxHeartbeats 4000000 in
theorem rof_yes (y m d h mi s : Int) (w : World) (hm : mayB y m d = true) (y1 : 1970 ≤ y) (y2 : y ≤ 2369) (ht : todB h mi s = true) :
    Calls Try.prog 71 #[.agg #[.int .i64 y, .int .i64 m, .int .i64 d, .int .i64 h, .int .i64 mi, .int .i64 s]] w (Kept (.int .i64 (ofI y m d h mi s)) w) := by
  have hb := of_decide_eq_true ht
  have g1 : decide (y < 1970) = false := decide_eq_false (by omega)
  have g2 : decide (2369 < y) = false := decide_eq_false (by omega)
  have g3 : decide (h < 0) = false := decide_eq_false (by omega)
  have g4 : decide (23 < h) = false := decide_eq_false (by omega)
  have g5 : decide (mi < 0) = false := decide_eq_false (by omega)
  have g6 : decide (59 < mi) = false := decide_eq_false (by omega)
  have g7 : decide (s < 0) = false := decide_eq_false (by omega)
  have g8 : decide (59 < s) = false := decide_eq_false (by omega)
  have HM := Lib.hid hm
  have hw := (num_win (may_ok hm).1).2 ⟨y1, y2⟩
  obtain ⟨N, hN⟩ : ∃ N, N = num y m d := ⟨_, rfl⟩
  have HE : Hid (86400 * N + (3600 * h + 60 * mi + s) = ofI y m d h mi s) := Lib.hid (by unfold ofI; rw [hN]; omega)
  rw [← hN] at hw
  have hR : ∀ w, Calls Try.prog 36 #[.int .i64 y, .int .i64 m, .int .i64 d] w fun e w' => e = .returned (.int .i64 N) ∧ w' = w := fun w => (rnumber_any y m d w hm).mono fun _ _ ⟨he, hw⟩ => ⟨by rw [he, hN], hw.symm⟩
  have HR := Lib.hid hR
  clear hm hN ht hR
  go_enter Try.func71, Try.ntmps71
  go_wp2_with fail
  refine (rmay_any _ _ _ _).mono ?_
  rintro e w' ⟨rfl, rfl⟩
  rw [HM.out]
  go_wp2_with fail
  have e1 : IntKind.i64.wrap (3600 * h) = 3600 * h := IntWalk.i64_in _ (by omega)
  have e2 : IntKind.i64.wrap (60 * mi) = 60 * mi := IntWalk.i64_in _ (by omega)
  have e3 : IntKind.i64.wrap (3600 * h + 60 * mi) = 3600 * h + 60 * mi := IntWalk.i64_in _ (by omega)
  have e4 : IntKind.i64.wrap (3600 * h + 60 * mi + s) = 3600 * h + 60 * mi + s := IntWalk.i64_in _ (by omega)
  have e5 : IntKind.i64.wrap (86400 * N) = 86400 * N := IntWalk.i64_in _ (by omega)
  have e6 : IntKind.i64.wrap (86400 * N + (3600 * h + 60 * mi + s)) = 86400 * N + (3600 * h + 60 * mi + s) := IntWalk.i64_in _ (by omega)
  go_quiet ((go_at_call 36; exact Calls.quiet_of_same (HR.out _)))
  go_wp2
  go_ret
  exact ⟨ret_int HE.out, below_draws ((Below.refl _ _).alloc (Nat.le_refl _) _) _⟩

set_option maxHeartbeats 4000000 in
theorem rof_n1 (y m d h mi s : Int) (w : World) (g1 : decide (y < 1970) = true) :
    Calls Try.prog 71 #[.agg #[.int .i64 y, .int .i64 m, .int .i64 d, .int .i64 h, .int .i64 mi, .int .i64 s]] w (Kept (.int .i64 (-1)) w) := by
  go_enter Try.func71, Try.ntmps71
  go_wp2
  go_ret
  exact ⟨rfl, (Below.refl _ _).alloc (Nat.le_refl _) _⟩

set_option maxHeartbeats 4000000 in
theorem rof_n2 (y m d h mi s : Int) (w : World) (g1 : decide (y < 1970) = false) (g2 : decide (2369 < y) = true) :
    Calls Try.prog 71 #[.agg #[.int .i64 y, .int .i64 m, .int .i64 d, .int .i64 h, .int .i64 mi, .int .i64 s]] w (Kept (.int .i64 (-1)) w) := by
  go_enter Try.func71, Try.ntmps71
  go_wp2
  go_ret
  exact ⟨rfl, (Below.refl _ _).alloc (Nat.le_refl _) _⟩

set_option maxHeartbeats 4000000 in
theorem rof_n3 (y m d h mi s : Int) (w : World) (g1 : decide (y < 1970) = false) (g2 : decide (2369 < y) = false) (hm : mayB y m d = false) :
    Calls Try.prog 71 #[.agg #[.int .i64 y, .int .i64 m, .int .i64 d, .int .i64 h, .int .i64 mi, .int .i64 s]] w (Kept (.int .i64 (-1)) w) := by
  have HM := Lib.hid hm
  clear hm
  go_enter Try.func71, Try.ntmps71
  go_wp2_with fail
  refine (rmay_any _ _ _ _).mono ?_
  rintro e w' ⟨rfl, rfl⟩
  rw [HM.out]
  go_wp2
  go_ret
  exact ⟨rfl, (Below.refl _ _).alloc (Nat.le_refl _) _⟩

set_option maxHeartbeats 4000000 in
theorem rof_t0 (y m d h mi s : Int) (w : World) (g1 : decide (y < 1970) = false) (g2 : decide (2369 < y) = false) (hm : mayB y m d = true) (c0 : decide (h < 0) = true) :
    Calls Try.prog 71 #[.agg #[.int .i64 y, .int .i64 m, .int .i64 d, .int .i64 h, .int .i64 mi, .int .i64 s]] w (Kept (.int .i64 (-1)) w) := by
  have HM := Lib.hid hm
  clear hm
  go_enter Try.func71, Try.ntmps71
  go_wp2_with fail
  refine (rmay_any _ _ _ _).mono ?_
  rintro e w' ⟨rfl, rfl⟩
  rw [HM.out]
  go_wp2
  go_ret
  exact ⟨rfl, (Below.refl _ _).alloc (Nat.le_refl _) _⟩

set_option maxHeartbeats 4000000 in
theorem rof_t1 (y m d h mi s : Int) (w : World) (g1 : decide (y < 1970) = false) (g2 : decide (2369 < y) = false) (hm : mayB y m d = true) (c0 : decide (h < 0) = false) (c1 : decide (23 < h) = true) :
    Calls Try.prog 71 #[.agg #[.int .i64 y, .int .i64 m, .int .i64 d, .int .i64 h, .int .i64 mi, .int .i64 s]] w (Kept (.int .i64 (-1)) w) := by
  have HM := Lib.hid hm
  clear hm
  go_enter Try.func71, Try.ntmps71
  go_wp2_with fail
  refine (rmay_any _ _ _ _).mono ?_
  rintro e w' ⟨rfl, rfl⟩
  rw [HM.out]
  go_wp2
  go_ret
  exact ⟨rfl, (Below.refl _ _).alloc (Nat.le_refl _) _⟩

set_option maxHeartbeats 4000000 in
theorem rof_t2 (y m d h mi s : Int) (w : World) (g1 : decide (y < 1970) = false) (g2 : decide (2369 < y) = false) (hm : mayB y m d = true) (c0 : decide (h < 0) = false) (c1 : decide (23 < h) = false) (c2 : decide (mi < 0) = true) :
    Calls Try.prog 71 #[.agg #[.int .i64 y, .int .i64 m, .int .i64 d, .int .i64 h, .int .i64 mi, .int .i64 s]] w (Kept (.int .i64 (-1)) w) := by
  have HM := Lib.hid hm
  clear hm
  go_enter Try.func71, Try.ntmps71
  go_wp2_with fail
  refine (rmay_any _ _ _ _).mono ?_
  rintro e w' ⟨rfl, rfl⟩
  rw [HM.out]
  go_wp2
  go_ret
  exact ⟨rfl, (Below.refl _ _).alloc (Nat.le_refl _) _⟩

set_option maxHeartbeats 4000000 in
theorem rof_t3 (y m d h mi s : Int) (w : World) (g1 : decide (y < 1970) = false) (g2 : decide (2369 < y) = false) (hm : mayB y m d = true) (c0 : decide (h < 0) = false) (c1 : decide (23 < h) = false) (c2 : decide (mi < 0) = false) (c3 : decide (59 < mi) = true) :
    Calls Try.prog 71 #[.agg #[.int .i64 y, .int .i64 m, .int .i64 d, .int .i64 h, .int .i64 mi, .int .i64 s]] w (Kept (.int .i64 (-1)) w) := by
  have HM := Lib.hid hm
  clear hm
  go_enter Try.func71, Try.ntmps71
  go_wp2_with fail
  refine (rmay_any _ _ _ _).mono ?_
  rintro e w' ⟨rfl, rfl⟩
  rw [HM.out]
  go_wp2
  go_ret
  exact ⟨rfl, (Below.refl _ _).alloc (Nat.le_refl _) _⟩

set_option maxHeartbeats 4000000 in
theorem rof_t4 (y m d h mi s : Int) (w : World) (g1 : decide (y < 1970) = false) (g2 : decide (2369 < y) = false) (hm : mayB y m d = true) (c0 : decide (h < 0) = false) (c1 : decide (23 < h) = false) (c2 : decide (mi < 0) = false) (c3 : decide (59 < mi) = false) (c4 : decide (s < 0) = true) :
    Calls Try.prog 71 #[.agg #[.int .i64 y, .int .i64 m, .int .i64 d, .int .i64 h, .int .i64 mi, .int .i64 s]] w (Kept (.int .i64 (-1)) w) := by
  have HM := Lib.hid hm
  clear hm
  go_enter Try.func71, Try.ntmps71
  go_wp2_with fail
  refine (rmay_any _ _ _ _).mono ?_
  rintro e w' ⟨rfl, rfl⟩
  rw [HM.out]
  go_wp2
  go_ret
  exact ⟨rfl, (Below.refl _ _).alloc (Nat.le_refl _) _⟩

set_option maxHeartbeats 4000000 in
theorem rof_t5 (y m d h mi s : Int) (w : World) (g1 : decide (y < 1970) = false) (g2 : decide (2369 < y) = false) (hm : mayB y m d = true) (c0 : decide (h < 0) = false) (c1 : decide (23 < h) = false) (c2 : decide (mi < 0) = false) (c3 : decide (59 < mi) = false) (c4 : decide (s < 0) = false) (c5 : decide (59 < s) = true) :
    Calls Try.prog 71 #[.agg #[.int .i64 y, .int .i64 m, .int .i64 d, .int .i64 h, .int .i64 mi, .int .i64 s]] w (Kept (.int .i64 (-1)) w) := by
  have HM := Lib.hid hm
  clear hm
  go_enter Try.func71, Try.ntmps71
  go_wp2_with fail
  refine (rmay_any _ _ _ _).mono ?_
  rintro e w' ⟨rfl, rfl⟩
  rw [HM.out]
  go_wp2
  go_ret
  exact ⟨rfl, (Below.refl _ _).alloc (Nat.le_refl _) _⟩

/-- what the reference tells of parts -/
theorem rof_any (y m d h mi s : Int) (w : World) :
    Calls Try.prog 71 #[.agg #[.int .i64 y, .int .i64 m, .int .i64 d, .int .i64 h, .int .i64 mi, .int .i64 s]] w (Kept (.int .i64 (if ofB y m d h mi s then ofI y m d h mi s else -1)) w) := by
  by_cases a1 : y < 1970
  · have hB : ofB y m d h mi s = false := by
      cases hb : ofB y m d h mi s with
      | false => rfl
      | true =>
        unfold ofB at hb
        simp only [Bool.and_eq_true] at hb
        obtain ⟨q1, q2, q3⟩ := hb
        obtain ⟨q4, q5, _⟩ := of_decide_eq_true q3
        have := (num_win (may_ok q1).1).1 ⟨q4, q5⟩
        omega
    rw [hB]
    exact rof_n1 y m d h mi s w (decide_eq_true a1)
  by_cases a2 : 2369 < y
  · have hB : ofB y m d h mi s = false := by
      cases hb : ofB y m d h mi s with
      | false => rfl
      | true =>
        unfold ofB at hb
        simp only [Bool.and_eq_true] at hb
        obtain ⟨q1, q2, q3⟩ := hb
        obtain ⟨q4, q5, _⟩ := of_decide_eq_true q3
        have := (num_win (may_ok q1).1).1 ⟨q4, q5⟩
        omega
    rw [hB]
    exact rof_n2 y m d h mi s w (decide_eq_false a1) (decide_eq_true a2)
  cases hm : mayB y m d with
  | false =>
    have hB : ofB y m d h mi s = false := by unfold ofB; rw [hm]; rfl
    rw [hB]
    exact rof_n3 y m d h mi s w (decide_eq_false a1) (decide_eq_false a2) hm
  | true =>
    have no : todB h mi s = false → ofB y m d h mi s = false := fun ht => by unfold ofB; rw [ht, Bool.false_and, Bool.and_false]
    rcases tod_ways h mi s with ⟨c1, c⟩ | ⟨c1, c2, c⟩ | ⟨c1, c2, c3, c⟩ | ⟨c1, c2, c3, c4, c⟩ | ⟨c1, c2, c3, c4, c5, c⟩ | ⟨c1, c2, c3, c4, c5, c6, c⟩ | ⟨c1, c2, c3, c4, c5, c6, c⟩
    · rw [no c]
      exact rof_t0 y m d h mi s w (decide_eq_false a1) (decide_eq_false a2) hm c1
    · rw [no c]
      exact rof_t1 y m d h mi s w (decide_eq_false a1) (decide_eq_false a2) hm c1 c2
    · rw [no c]
      exact rof_t2 y m d h mi s w (decide_eq_false a1) (decide_eq_false a2) hm c1 c2 c3
    · rw [no c]
      exact rof_t3 y m d h mi s w (decide_eq_false a1) (decide_eq_false a2) hm c1 c2 c3 c4
    · rw [no c]
      exact rof_t4 y m d h mi s w (decide_eq_false a1) (decide_eq_false a2) hm c1 c2 c3 c4 c5
    · rw [no c]
      exact rof_t5 y m d h mi s w (decide_eq_false a1) (decide_eq_false a2) hm c1 c2 c3 c4 c5 c6
    · have hj : joB (num y m d) (h * 3600 + mi * 60 + s) = true := by
        have hw := (num_win (may_ok hm).1).2 ⟨by omega, by omega⟩
        have hb := of_decide_eq_true c
        exact decide_eq_true (by omega)
      have hB : ofB y m d h mi s = true := by unfold ofB; rw [hm, c, hj]; rfl
      rw [hB]
      exact rof_yes y m d h mi s w hm (by omega) (by omega) c
end Go.Proofs.Ytnoomlakgfdaeaa
