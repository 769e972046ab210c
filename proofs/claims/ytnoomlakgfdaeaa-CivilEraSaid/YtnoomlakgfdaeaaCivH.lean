/- The walk of ferialaw05.CivilEra. -/
import Derived.Test.YtnoomlakgfdaeaaCivG
namespace Go.Proofs.Ytnoomlakgfdaeaa
open Go.RowKit

theorem i16_bd {a : Int} (h : (Lit.int .i16 a).wf = true) : -32768 ≤ a ∧ a ≤ 32767 := by
  simp [Lit.wf, IntKind.min, IntKind.max, IntKind.bits, IntKind.signed] at h; omega

set_option maxHeartbeats 2000000 in
theorem CivilEra_near (n k : Int) (w : World) (n1 : -200000000 ≤ n) (n2 : n ≤ 200000000) (k1 : -32768 ≤ k) (k2 : k ≤ 32767) :
    Calls Try.prog 8 #[.int .i64 n, .int .i16 k] w (Kept (.bool true) w) := by
  have g1 : decide (200000000 < n) = false := decide_eq_false (by omega)
  have g2 : decide (n < -200000000) = false := decide_eq_false (by omega)
  have H0 := Lib.hid (may_near n (by omega) (by omega))
  have H1 := Lib.hid (may_near (n + 146097 * k) (by omega) (by omega))
  have eo := era_on n k
  obtain ⟨y1, y2, m1, m2, d1, d2, d3⟩ := near_bd n (by omega) (by omega)
  have f1 : flo (n + 146097 * k) 146097 = flo n 146097 + k := by rw [flo_pos (by omega), flo_pos (by omega)]; omega
  have f2 : mo (n + 146097 * k) 146097 = mo n 146097 := by rw [mo_pos (by omega), mo_pos (by omega)]; omega
  have f3 : -1000000 ≤ flo n 146097 ∧ flo n 146097 ≤ 1000000 := by rw [flo_pos (by omega)]; omega
  obtain ⟨F, hF⟩ : ∃ F, F = flo n 146097 := ⟨_, rfl⟩
  obtain ⟨M, hM'⟩ : ∃ M, M = mo n 146097 := ⟨_, rfl⟩
  obtain ⟨y, hy⟩ : ∃ y, y = dY n := ⟨_, rfl⟩
  obtain ⟨m, hm⟩ : ∃ m, m = dM n := ⟨_, rfl⟩
  obtain ⟨d, hd⟩ : ∃ d, d = dD n := ⟨_, rfl⟩
  rw [← hF] at f1 f3
  rw [← hM'] at f2
  rw [← hy, ← hm, ← hd] at eo
  rw [← hy] at y1 y2
  obtain ⟨a1, a2, a3⟩ := eo
  have A1 := Lib.hid a1
  have A2 := Lib.hid a2
  have A3 := Lib.hid a3
  have F1 := Lib.hid f1
  have F2 := Lib.hid f2
  have HF := Lib.hid hF
  have HM' := Lib.hid hM'
  have HY := Lib.hid hy
  have HM := Lib.hid hm
  have HD := Lib.hid hd
  clear a1 a2 a3 f1 f2 hF hM' hy hm hd m1 m2 d1 d2 d3
  go_enter Try.func8, Try.ntmps8
  go_wp2_with fail
  refine (date_yes n _ H0.out).mono ?_
  rintro e w1 ⟨rfl, hb⟩
  rw [← HY.out, ← HM.out, ← HD.out]
  have HB1 := Lib.hid hb
  clear hb
  go_wp2_with fail
  refine (date_yes (n + 146097 * k) _ H1.out).mono ?_
  rintro e w2 ⟨rfl, hb⟩
  rw [A1.out, A2.out, A3.out]
  have HB2 := Lib.hid (below_on HB1.out hb)
  clear hb
  go_wp2_with fail
  refine (cycle_any _ _ (by omega) (by omega)).mono ?_
  rintro e w' ⟨rfl, rfl⟩
  rw [← HF.out, ← HM'.out]
  go_wp2_with fail
  refine (cycle_any _ _ (by omega) (by omega)).mono ?_
  rintro e w' ⟨rfl, rfl⟩
  rw [F1.out, F2.out]
  go_wp2_with fail
  refine (civil_lives _).mono ?_
  rintro e w5 ⟨rfl, hb⟩
  have HB5 := Lib.hid (below_on HB2.out hb)
  clear hb
  go_wp2
  go_ret
  exact ⟨rfl, HB5.out⟩

theorem CivilEra_walk (n k : Int) (w : World) (hn : (Lit.int .i64 n).wf = true) (hk : (Lit.int .i16 k).wf = true) :
    Calls Try.prog 8 #[.int .i64 n, .int .i16 k] w (Kept (.bool true) w) := by
  obtain ⟨k1, k2⟩ := i16_bd hk
  clear hn hk
  by_cases c1 : 200000000 < n
  · have g1 : decide (200000000 < n) = true := decide_eq_true c1
    go_enter Try.func8, Try.ntmps8
    go_wp2_with fail
    refine (civil_lives _).mono ?_
    rintro e w5 ⟨rfl, hb⟩
    have HB5 := Lib.hid hb
    clear hb
    go_wp2
    go_ret
    exact ⟨rfl, HB5.out⟩
  · by_cases c2 : n < -200000000
    · have g1 : decide (200000000 < n) = false := decide_eq_false c1
      have g2 : decide (n < -200000000) = true := decide_eq_true c2
      go_enter Try.func8, Try.ntmps8
      go_wp2_with fail
      refine (civil_lives _).mono ?_
      rintro e w5 ⟨rfl, hb⟩
      have HB5 := Lib.hid hb
      clear hb
      go_wp2
      go_ret
      exact ⟨rfl, HB5.out⟩
    · exact CivilEra_near n k w (by omega) (by omega) k1 k2
end Go.Proofs.Ytnoomlakgfdaeaa
