/- The walk of ferialaw10.UnitPhases. -/
import Derived.Test.YtnoomlakgfdaeaaUnitD
namespace Go.Proofs.Ytnoomlakgfdaeaa
open Go.RowKit

set_option maxHeartbeats 4000000 in
theorem phases_out (u step a d k : Int) (w : World) (h : phB u step a d = false) (way : (uSz u == 0) = true ∨ ((uSz u == 0) = false ∧ decide (step < 1) = true) ∨ ((uSz u == 0) = false ∧ decide (step < 1) = false ∧ inW a = false) ∨ ((uSz u == 0) = false ∧ decide (step < 1) = false ∧ inW a = true ∧ decide (d < 0) = true) ∨ ((uSz u == 0) = false ∧ decide (step < 1) = false ∧ inW a = true ∧ decide (d < 0) = false ∧ decide (146096 < d) = true)) :
    Calls Try.prog 17 #[.agg #[.int .i64 u, .int .i64 step, .int .i64 a], .int .i64 d, .int .u16 k] w (Kept (.bool true) w) := by
  have hp := fun W => phase_no u step a d W h
  obtain ⟨n, hn⟩ : ∃ n, n = uSz u := ⟨_, rfl⟩
  rw [← hn] at way
  have HP := Lib.hid hp
  have HN := Lib.hid hn
  clear hp hn h
  rcases way with x1 | ⟨x1, x2⟩ | ⟨x1, x2, x3⟩ | ⟨x1, x2, x3, x4⟩ | ⟨x1, x2, x3, x4, x5⟩
  · go_enter Try.func17, Try.ntmps17
    go_wp2_with fail
    refine (HP.out _).mono ?_
    rintro e w1 ⟨rfl, hb⟩
    have q0 : w1.cell? ⟨w.heap.size, 0, none⟩ = some (.int .i64 u) := ukept hb 0 rfl
    have q1 : w1.cell? ⟨w.heap.size, 1, none⟩ = some (.int .i64 step) := ukept hb 1 rfl
    have q2 : w1.cell? ⟨w.heap.size, 2, none⟩ = some (.int .i64 a) := ukept hb 2 rfl
    have HB1 := Lib.hid (bel_one hb)
    clear hb
    go_wp2_with fail
    refine (rsize_any _ _).mono ?_
    rintro e w' ⟨rfl, rfl⟩
    rw [← HN.out]
    go_wp2_with fail
    refine (unit_lives _).mono ?_
    rintro e w5 ⟨rfl, hb⟩
    have HB5 := Lib.hid (below_on HB1.out hb)
    clear hb
    go_wp2
    go_ret
    exact ⟨rfl, HB5.out⟩
  · go_enter Try.func17, Try.ntmps17
    go_wp2_with fail
    refine (HP.out _).mono ?_
    rintro e w1 ⟨rfl, hb⟩
    have q0 : w1.cell? ⟨w.heap.size, 0, none⟩ = some (.int .i64 u) := ukept hb 0 rfl
    have q1 : w1.cell? ⟨w.heap.size, 1, none⟩ = some (.int .i64 step) := ukept hb 1 rfl
    have q2 : w1.cell? ⟨w.heap.size, 2, none⟩ = some (.int .i64 a) := ukept hb 2 rfl
    have HB1 := Lib.hid (bel_one hb)
    clear hb
    go_wp2_with fail
    refine (rsize_any _ _).mono ?_
    rintro e w' ⟨rfl, rfl⟩
    rw [← HN.out]
    go_wp2_with fail
    refine (unit_lives _).mono ?_
    rintro e w5 ⟨rfl, hb⟩
    have HB5 := Lib.hid (below_on HB1.out hb)
    clear hb
    go_wp2
    go_ret
    exact ⟨rfl, HB5.out⟩
  · replace x3 := Lib.hid x3
    go_enter Try.func17, Try.ntmps17
    go_wp2_with fail
    refine (HP.out _).mono ?_
    rintro e w1 ⟨rfl, hb⟩
    have q0 : w1.cell? ⟨w.heap.size, 0, none⟩ = some (.int .i64 u) := ukept hb 0 rfl
    have q1 : w1.cell? ⟨w.heap.size, 1, none⟩ = some (.int .i64 step) := ukept hb 1 rfl
    have q2 : w1.cell? ⟨w.heap.size, 2, none⟩ = some (.int .i64 a) := ukept hb 2 rfl
    have HB1 := Lib.hid (bel_one hb)
    clear hb
    go_wp2_with fail
    refine (rsize_any _ _).mono ?_
    rintro e w' ⟨rfl, rfl⟩
    rw [← HN.out]
    go_wp2_with fail
    refine (rmin_any _ _).mono ?_
    rintro e w' ⟨rfl, rfl⟩
    rw [x3.out]
    go_wp2_with fail
    refine (unit_lives _).mono ?_
    rintro e w5 ⟨rfl, hb⟩
    have HB5 := Lib.hid (below_on HB1.out hb)
    clear hb
    go_wp2
    go_ret
    exact ⟨rfl, HB5.out⟩
  · replace x3 := Lib.hid x3
    go_enter Try.func17, Try.ntmps17
    go_wp2_with fail
    refine (HP.out _).mono ?_
    rintro e w1 ⟨rfl, hb⟩
    have q0 : w1.cell? ⟨w.heap.size, 0, none⟩ = some (.int .i64 u) := ukept hb 0 rfl
    have q1 : w1.cell? ⟨w.heap.size, 1, none⟩ = some (.int .i64 step) := ukept hb 1 rfl
    have q2 : w1.cell? ⟨w.heap.size, 2, none⟩ = some (.int .i64 a) := ukept hb 2 rfl
    have HB1 := Lib.hid (bel_one hb)
    clear hb
    go_wp2_with fail
    refine (rsize_any _ _).mono ?_
    rintro e w' ⟨rfl, rfl⟩
    rw [← HN.out]
    go_wp2_with fail
    refine (rmin_any _ _).mono ?_
    rintro e w' ⟨rfl, rfl⟩
    rw [x3.out]
    go_wp2_with fail
    refine (unit_lives _).mono ?_
    rintro e w5 ⟨rfl, hb⟩
    have HB5 := Lib.hid (below_on HB1.out hb)
    clear hb
    go_wp2
    go_ret
    exact ⟨rfl, HB5.out⟩
  · replace x3 := Lib.hid x3
    go_enter Try.func17, Try.ntmps17
    go_wp2_with fail
    refine (HP.out _).mono ?_
    rintro e w1 ⟨rfl, hb⟩
    have q0 : w1.cell? ⟨w.heap.size, 0, none⟩ = some (.int .i64 u) := ukept hb 0 rfl
    have q1 : w1.cell? ⟨w.heap.size, 1, none⟩ = some (.int .i64 step) := ukept hb 1 rfl
    have q2 : w1.cell? ⟨w.heap.size, 2, none⟩ = some (.int .i64 a) := ukept hb 2 rfl
    have HB1 := Lib.hid (bel_one hb)
    clear hb
    go_wp2_with fail
    refine (rsize_any _ _).mono ?_
    rintro e w' ⟨rfl, rfl⟩
    rw [← HN.out]
    go_wp2_with fail
    refine (rmin_any _ _).mono ?_
    rintro e w' ⟨rfl, rfl⟩
    rw [x3.out]
    go_wp2_with fail
    refine (unit_lives _).mono ?_
    rintro e w5 ⟨rfl, hb⟩
    have HB5 := Lib.hid (below_on HB1.out hb)
    clear hb
    go_wp2
    go_ret
    exact ⟨rfl, HB5.out⟩

theorem UnitPhases_walk (u step a d k : Int) (w : World) (hs : (Lit.int .i64 step).wf = true) (hk : (Lit.int .u16 k).wf = true) : Calls Try.prog 17 #[.agg #[.int .i64 u, .int .i64 step, .int .i64 a], .int .i64 d, .int .u16 k] w (Kept (.bool true) w) := by
  obtain ⟨k0, k1⟩ := u16_bd hk
  have sb := i64_bd hs
  rcases uSz_ways u with ⟨rfl, e⟩ | ⟨rfl, e⟩ | ⟨rfl, e⟩ | ⟨c, e⟩
  · by_cases c1 : step < 1
    · exact phases_out 0 step a d k w (by unfold phB; rw [decide_eq_false (by omega)]; simp) (.inr (.inl ⟨by rw [e]; rfl, decide_eq_true c1⟩))
    cases ha : inW a
    · exact phases_out 0 step a d k w (by unfold phB whB; rw [ha]; simp) (.inr (.inr (.inl ⟨by rw [e]; rfl, decide_eq_false c1, ha⟩)))
    by_cases c2 : d < 0
    · exact phases_out 0 step a d k w (by unfold phB; rw [show joB d 0 = false from decide_eq_false (by omega)]; simp) (.inr (.inr (.inr (.inl ⟨by rw [e]; rfl, decide_eq_false c1, ha, decide_eq_true c2⟩))))
    by_cases c3 : 146096 < d
    · exact phases_out 0 step a d k w (by unfold phB; rw [show joB d 0 = false from decide_eq_false (by omega)]; simp) (.inr (.inr (.inr (.inr ⟨by rw [e]; rfl, decide_eq_false c1, ha, decide_eq_false c2, decide_eq_true c3⟩))))
    exact phases_0 step a d k w ha (by omega) sb.2 (by omega) (by omega) k0 k1
  · by_cases c1 : step < 1
    · exact phases_out 1 step a d k w (by unfold phB; rw [decide_eq_false (by omega)]; simp) (.inr (.inl ⟨by rw [e]; rfl, decide_eq_true c1⟩))
    cases ha : inW a
    · exact phases_out 1 step a d k w (by unfold phB whB; rw [ha]; simp) (.inr (.inr (.inl ⟨by rw [e]; rfl, decide_eq_false c1, ha⟩)))
    by_cases c2 : d < 0
    · exact phases_out 1 step a d k w (by unfold phB; rw [show joB d 0 = false from decide_eq_false (by omega)]; simp) (.inr (.inr (.inr (.inl ⟨by rw [e]; rfl, decide_eq_false c1, ha, decide_eq_true c2⟩))))
    by_cases c3 : 146096 < d
    · exact phases_out 1 step a d k w (by unfold phB; rw [show joB d 0 = false from decide_eq_false (by omega)]; simp) (.inr (.inr (.inr (.inr ⟨by rw [e]; rfl, decide_eq_false c1, ha, decide_eq_false c2, decide_eq_true c3⟩))))
    exact phases_1 step a d k w ha (by omega) sb.2 (by omega) (by omega) k0 k1
  · by_cases c1 : step < 1
    · exact phases_out 2 step a d k w (by unfold phB; rw [decide_eq_false (by omega)]; simp) (.inr (.inl ⟨by rw [e]; rfl, decide_eq_true c1⟩))
    cases ha : inW a
    · exact phases_out 2 step a d k w (by unfold phB whB; rw [ha]; simp) (.inr (.inr (.inl ⟨by rw [e]; rfl, decide_eq_false c1, ha⟩)))
    by_cases c2 : d < 0
    · exact phases_out 2 step a d k w (by unfold phB; rw [show joB d 0 = false from decide_eq_false (by omega)]; simp) (.inr (.inr (.inr (.inl ⟨by rw [e]; rfl, decide_eq_false c1, ha, decide_eq_true c2⟩))))
    by_cases c3 : 146096 < d
    · exact phases_out 2 step a d k w (by unfold phB; rw [show joB d 0 = false from decide_eq_false (by omega)]; simp) (.inr (.inr (.inr (.inr ⟨by rw [e]; rfl, decide_eq_false c1, ha, decide_eq_false c2, decide_eq_true c3⟩))))
    exact phases_2 step a d k w ha (by omega) sb.2 (by omega) (by omega) k0 k1
  · exact phases_out u step a d k w (by unfold phB; rw [e]; simp) (.inl (by rw [e]; rfl))
end Go.Proofs.Ytnoomlakgfdaeaa
