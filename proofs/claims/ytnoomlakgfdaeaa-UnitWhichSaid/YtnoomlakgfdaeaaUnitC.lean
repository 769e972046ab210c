/- Contracts of package unit's Phase, of the reference's On; the chapter's examples (lives); the walk of ferialaw10.UnitPhases. -/
import Derived.Test.YtnoomlakgfdaeaaUnitB
namespace Go.Proofs.Ytnoomlakgfdaeaa
open Go.RowKit

/-- whether there is a phase -/
def phB (u step a d : Int) : Bool := whB u a && (joB d 0 && (decide (1 ≤ step) && (uSz u != 0)))
theorem uwh_bd {u t : Int} (ht : inW t = true) : -13000000000 ≤ uWh u t ∧ uWh u t ≤ 13000000000 := by
  obtain ⟨t0, t1⟩ := of_decide_eq_true ht
  obtain ⟨y1, y2, m1, m2, _, _, _⟩ := near_bd (t / 86400) (by omega) (by omega)
  have k : -9223372036854775808 ≤ wk (t / 86400) ∧ wk (t / 86400) ≤ 1000000 ∧ 0 ≤ wk (t / 86400) := by unfold wk; split <;> omega
  unfold uWh
  (repeat (first | omega | split))

set_option maxHeartbeats 4000000 in
theorem phase_yes (u n step a d : Int) (w : World) (hu : uB u = true) (hn : uSz u = n) (hn0 : n = 1 ∨ n = 60 ∨ n = 3600) (ha : inW a = true) (hd : joB d 0 = true) (hs : 1 ≤ step) (hs1 : step ≤ 9223372036854775807) :
    Calls Try.prog 72 #[.int .i64 u, .int .i64 step, .int .i64 a, .int .i64 d] w (Kept (.int .i64 ((uWh u a - d * 86400 / n) % step)) w) := by
  have hdb := of_decide_eq_true hd
  have ub := uwh_bd (u := u) ha
  have q0 : 0 ≤ d * 86400 / n ∧ d * 86400 / n ≤ 12622780800 := by
    rcases hn0 with rfl | rfl | rfl <;> omega
  obtain ⟨U, hU⟩ : ∃ U, U = uWh u a := ⟨_, rfl⟩
  obtain ⟨G, hG⟩ : ∃ G, G = d * 86400 / n := ⟨_, rfl⟩
  have hq : (d * 86400).tdiv n = G := by rw [Int.tdiv_eq_ediv_of_nonneg (by omega), hG]
  rw [← hU] at ub
  rw [← hG] at q0
  rw [← hU, ← hG]
  have HU := Lib.hid hU
  have HN := Lib.hid hn
  have HUB := Lib.hid hu
  have HA := Lib.hid ha
  have HD := Lib.hid hd
  have hm : mo (U - G) step = (U - G) % step := mo_pos hs
  have HM := Lib.hid hm
  have n0 : (n == 0) = false := beq_eq_false_iff_ne.2 (by omega)
  have n1 : 1 ≤ n ∧ n ≤ 3600 := by omega
  have HQ : Hid (d * 86400 / n = G) := Lib.hid hG.symm
  have HQT := Lib.hid hq
  clear hU hG hq hn hu ha hd hm hn0
  go_enter Try.func72, Try.ntmps72
  go_wp2_with fail
  refine (uwhich_yes _ _ _ HUB.out HA.out).mono ?_
  rintro e w1 ⟨rfl, hb⟩
  rw [← HU.out]
  have HB1 := Lib.hid hb
  clear hb
  go_wp2_with fail
  refine (join_yes _ _ _ HD.out).mono ?_
  rintro e w' ⟨rfl, rfl⟩
  rw [show d * 86400 + 0 = d * 86400 by omega]
  go_wp2_with fail
  refine (size_any _ _).mono ?_
  rintro e w2 ⟨rfl, hb⟩
  rw [HN.out]
  have HB2 := Lib.hid (below_on HB1.out hb)
  clear hb
  have hq := HQ.out
  go_wp2_with fail
  refine (mod_any _ _ _ (by omega) (by omega) (by omega) (by omega)).mono ?_
  rintro e w' ⟨rfl, rfl⟩
  rw [HM.out]
  go_wp2
  go_ret
  exact ⟨rfl, HB2.out⟩

set_option maxHeartbeats 4000000 in
theorem phase_no (u step a d : Int) (w : World) (h : phB u step a d = false) : Calls Try.prog 72 #[.int .i64 u, .int .i64 step, .int .i64 a, .int .i64 d] w (Kept (.int .i64 0) w) := by
  cases hw : whB u a
  · have HW := Lib.hid hw
    clear h hw
    cases hd : joB d 0
    · have HD := Lib.hid hd
      clear hd
      go_enter Try.func72, Try.ntmps72
      go_wp2_with fail
      refine (uwhich_no _ _ _ HW.out).mono ?_
      rintro e w1 ⟨rfl, hb⟩
      have HB1 := Lib.hid hb
      clear hb
      go_wp2_with fail
      refine (join_no _ _ _ HD.out).mono ?_
      rintro e w' ⟨rfl, rfl⟩
      go_wp2_with fail
      refine (size_any _ _).mono ?_
      rintro e w2 ⟨rfl, hb⟩
      have HB2 := Lib.hid (below_on HB1.out hb)
      clear hb
      go_wp2
      go_ret
      exact ⟨rfl, HB2.out⟩
    · have HD := Lib.hid hd
      have hdb := of_decide_eq_true hd
      clear hd
      go_enter Try.func72, Try.ntmps72
      go_wp2_with fail
      refine (uwhich_no _ _ _ HW.out).mono ?_
      rintro e w1 ⟨rfl, hb⟩
      have HB1 := Lib.hid hb
      clear hb
      go_wp2_with fail
      refine (join_yes _ _ _ HD.out).mono ?_
      rintro e w' ⟨rfl, rfl⟩
      go_wp2_with fail
      refine (size_any _ _).mono ?_
      rintro e w2 ⟨rfl, hb⟩
      have HB2 := Lib.hid (below_on HB1.out hb)
      clear hb
      go_wp2
      go_ret
      exact ⟨rfl, HB2.out⟩
  · have hw' := hw
    unfold whB at hw'
    rw [Bool.and_eq_true] at hw'
    obtain ⟨hu, ha⟩ := hw'
    unfold phB at h
    rw [hw, Bool.true_and] at h
    have HU := Lib.hid hu
    have HA := Lib.hid ha
    clear hw hu ha
    cases hd : joB d 0
    · have HD := Lib.hid hd
      clear hd h
      go_enter Try.func72, Try.ntmps72
      go_wp2_with fail
      refine (uwhich_yes _ _ _ HU.out HA.out).mono ?_
      rintro e w1 ⟨rfl, hb⟩
      have HB1 := Lib.hid hb
      clear hb
      go_wp2_with fail
      refine (join_no _ _ _ HD.out).mono ?_
      rintro e w' ⟨rfl, rfl⟩
      go_wp2_with fail
      refine (size_any _ _).mono ?_
      rintro e w2 ⟨rfl, hb⟩
      have HB2 := Lib.hid (below_on HB1.out hb)
      clear hb
      go_wp2
      go_ret
      exact ⟨rfl, HB2.out⟩
    · rw [hd, Bool.true_and] at h
      have HD := Lib.hid hd
      have hdb := of_decide_eq_true hd
      clear hd
      have way : decide (step < 1) = true ∨ (decide (step < 1) = false ∧ uSz u = 0) := by
        by_cases c : 1 ≤ step
        · right
          rw [decide_eq_true c, Bool.true_and] at h
          exact ⟨decide_eq_false (by omega), by simpa using h⟩
        · exact .inl (decide_eq_true (by omega))
      clear h
      rcases way with c1 | ⟨c1, c2⟩
      · go_enter Try.func72, Try.ntmps72
        go_wp2_with fail
        refine (uwhich_yes _ _ _ HU.out HA.out).mono ?_
        rintro e w1 ⟨rfl, hb⟩
        have HB1 := Lib.hid hb
        clear hb
        go_wp2_with fail
        refine (join_yes _ _ _ HD.out).mono ?_
        rintro e w' ⟨rfl, rfl⟩
        go_wp2_with fail
        refine (size_any _ _).mono ?_
        rintro e w2 ⟨rfl, hb⟩
        have HB2 := Lib.hid (below_on HB1.out hb)
        clear hb
        go_wp2
        go_ret
        exact ⟨rfl, HB2.out⟩
      · have C2 := Lib.hid c2
        clear c2
        go_enter Try.func72, Try.ntmps72
        go_wp2_with fail
        refine (uwhich_yes _ _ _ HU.out HA.out).mono ?_
        rintro e w1 ⟨rfl, hb⟩
        have HB1 := Lib.hid hb
        clear hb
        go_wp2_with fail
        refine (join_yes _ _ _ HD.out).mono ?_
        rintro e w' ⟨rfl, rfl⟩
        go_wp2_with fail
        refine (size_any _ _).mono ?_
        rintro e w2 ⟨rfl, hb⟩
        rw [C2.out]
        have HB2 := Lib.hid (below_on HB1.out hb)
        clear hb
        go_wp2
        go_ret
        exact ⟨rfl, HB2.out⟩

/-- is an instant on a step? -/
theorem ron_yes (u step a t : Int) (w : World) (hu : uB u = true) (ha : inW a = true) (ht : inW t = true) (hs : 1 ≤ step) (hs1 : step ≤ 9223372036854775807) :
    Calls Try.prog 73 #[.int .i64 u, .int .i64 step, .int .i64 a, .int .i64 t] w fun e w' => e = .returned (.bool (decide ((uWh u t - uWh u a) % step = 0))) ∧ w = w' := by
  have ub := uwh_bd (u := u) ha
  have vb := uwh_bd (u := u) ht
  have hc1 : ∀ w, Calls Try.prog 41 #[.int .i64 u, .int .i64 t] w fun e w' => e = .returned (.int .i64 (uWh u t)) ∧ w = w' := fun w => rwhichu_any u t w hu ht
  have hc2 : ∀ w, Calls Try.prog 41 #[.int .i64 u, .int .i64 a] w fun e w' => e = .returned (.int .i64 (uWh u a)) ∧ w = w' := fun w => rwhichu_any u a w hu ha
  obtain ⟨U, hU⟩ : ∃ U, U = uWh u a := ⟨_, rfl⟩
  obtain ⟨V, hV⟩ : ∃ V, V = uWh u t := ⟨_, rfl⟩
  rw [← hU] at ub
  rw [← hV] at vb
  rw [← hU, ← hV]
  simp only [← hU] at hc2
  simp only [← hV] at hc1
  obtain ⟨d, hd⟩ : ∃ d, d = V - U := ⟨_, rfl⟩
  have e1 : 0 ≤ d → (d.tmod step == 0) = decide ((V - U) % step = 0) := fun h => by
    rw [Int.tmod_eq_emod_of_nonneg h, ← hd, Bool.eq_iff_iff, beq_iff_eq, decide_eq_true_eq]
  have e2 : d < 0 → (-(d.tmod step) == 0) = decide ((V - U) % step = 0) := fun h => by
    rw [← Int.neg_tmod, Int.tmod_eq_emod_of_nonneg (by omega), ← hd, Bool.eq_iff_iff, beq_iff_eq, decide_eq_true_eq, ← Int.dvd_iff_emod_eq_zero, ← Int.dvd_iff_emod_eq_zero, Int.dvd_neg]
  have e3 : 0 ≤ d → (d % step == 0) = decide ((V - U) % step = 0) := fun h => by
    rw [← hd, Bool.eq_iff_iff, beq_iff_eq, decide_eq_true_eq]
  have e4 : d < 0 → ((-d) % step == 0) = decide ((V - U) % step = 0) := fun h => by
    rw [← hd, Bool.eq_iff_iff, beq_iff_eq, decide_eq_true_eq, ← Int.dvd_iff_emod_eq_zero, ← Int.dvd_iff_emod_eq_zero, Int.dvd_neg]
  have db : -200000000000 ≤ d ∧ d ≤ 200000000000 := by omega
  have HUB := Lib.hid hu
  have HA := Lib.hid ha
  have HT := Lib.hid ht
  have C1 := Lib.hid hc1
  have C2 := Lib.hid hc2
  have HD := Lib.hid hd
  have E3 := Lib.hid e3
  have E4 := Lib.hid e2
  obtain ⟨R, hR⟩ : ∃ R, R = decide ((V - U) % step = 0) := ⟨_, rfl⟩
  rw [← hR]
  have HRR := Lib.hid hR
  clear hu ha ht hc1 hc2 hU hV hd e1 e2 e3 e4 hR
  go_enter Try.func73, Try.ntmps73
  go_wp2_with fail
  refine (rumay_any _ _).mono ?_
  rintro e w' ⟨rfl, rfl⟩
  rw [HUB.out]
  go_wp2_with fail
  refine (rmin_any _ _).mono ?_
  rintro e w' ⟨rfl, rfl⟩
  rw [HA.out]
  go_wp2_with fail
  refine (rmin_any _ _).mono ?_
  rintro e w' ⟨rfl, rfl⟩
  rw [HT.out]
  go_wp2_with fail
  refine (C1.out _).mono ?_
  rintro e w' ⟨rfl, rfl⟩
  go_wp2_with fail
  refine (C2.out _).mono ?_
  rintro e w' ⟨rfl, rfl⟩
  have hd := HD.out.symm
  by_cases c : d < 0
  · have g1 : decide (d < 0) = true := decide_eq_true c
    have E := Lib.hid (E4.out c)
    go_wp2
    go_ret
    exact ⟨ret_val (congrArg Value.bool (by rw [E.out, HRR.out])), rfl⟩
  · have g1 : decide (d < 0) = false := decide_eq_false c
    have E := Lib.hid (E3.out (by omega))
    go_wp2
    go_ret
    exact ⟨ret_val (congrArg Value.bool (by rw [E.out, HRR.out])), rfl⟩
end Go.Proofs.Ytnoomlakgfdaeaa
