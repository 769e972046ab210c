/- Plain: the law of phases; the chapter's examples (lives); the walk of ferialaw10.UnitPhases. -/
import Derived.Test.YtnoomlakgfdaeaaUnitC
namespace Go.Proofs.Ytnoomlakgfdaeaa
open Go.RowKit

theorem ph_mod (A F n step : Int) : (F + n - A) % step = (n - (A - F) % step) % step := by
  rw [Int.sub_emod n ((A - F) % step), Int.emod_emod_of_dvd _ (Int.dvd_refl step), ← Int.sub_emod]
  congr 1
  omega
theorem ph_on {A F n step p : Int} (hs : 1 ≤ step) (hp : p = (A - F) % step) (hn : 0 ≤ n) : decide ((F + n - A) % step = 0) = (decide (p ≤ n) && decide ((n - p) % step = 0)) := by
  have hb := emod_bd (A - F) hs
  rw [← hp] at hb
  rw [ph_mod, ← hp, Bool.eq_iff_iff, Bool.and_eq_true, decide_eq_true_eq, decide_eq_true_eq]
  constructor
  · intro h
    refine ⟨?_, h⟩
    apply Classical.byContradiction
    intro hlt
    have hd : step ∣ (p - n) := by
      rw [show p - n = -(n - p) by omega, Int.dvd_neg]
      exact Int.dvd_of_emod_eq_zero h
    have h0 := Int.emod_eq_zero_of_dvd hd
    rw [Int.emod_eq_of_lt (by omega) (by omega)] at h0
    omega
  · exact fun h => h.2
theorem ph_at {A F step p : Int} (hs : 1 ≤ step) (hp : p = (A - F) % step) : decide ((F + p - A) % step = 0) = true := by
  have hb := emod_bd (A - F) hs
  rw [← hp] at hb
  rw [ph_on hs hp hb.1, Bool.and_eq_true]
  exact ⟨decide_eq_true (by omega), decide_eq_true (by rw [show p - p = 0 by omega]; exact Int.zero_emod step)⟩

theorem ukept {w1 w2 : World} {cs : Array Value} {t : TypeId} (hb : Below (w1.alloc (.cells cs t)).heap.size (w1.alloc (.cells cs t)) w2) (j : Nat) {v : Value} (hj : cs[j]? = some v) : w2.cell? ⟨w1.heap.size, j, none⟩ = some v := by
  rw [hb.cell (p := ⟨w1.heap.size, j, none⟩) (by simp), World.cell?_alloc_at _ _ _ _ rfl]
  simpa using hj
set_option maxHeartbeats 1000000 in
theorem unit_lives (w : World) : Calls Try.prog 47 #[] w (Kept (.bool true) w) := by
  have h1 : uWh 5 0 = 23640 := by kernel_rfl
  have h2 : (uWh 2 0 - 1 * 86400 / 3600) % 5 = 1 := by kernel_rfl
  have H1 := Lib.hid h1
  have H2 := Lib.hid h2
  clear h1 h2
  go_enter Try.func47, Try.ntmps47
  go_wp2_with fail
  refine (uwhich_yes _ _ _ (by decide) (by decide)).mono ?_
  rintro e w1 ⟨rfl, hb⟩
  rw [H1.out]
  have HB1 := Lib.hid hb
  clear hb
  go_wp2_with fail
  refine (phase_yes _ 3600 _ _ _ _ (by decide) (by rfl) (.inr (.inr rfl)) (by decide) (by decide) (by decide) (by decide)).mono ?_
  rintro e w2 ⟨rfl, hb⟩
  rw [H2.out]
  have HB2 := Lib.hid (below_on HB1.out hb)
  clear hb
  go_wp2
  go_ret
  exact ⟨rfl, HB2.out⟩

theorem u16_bd {a : Int} (h : (Lit.int .u16 a).wf = true) : 0 ≤ a ∧ a ≤ 65535 := by
  simp [Lit.wf, IntKind.min, IntKind.max, IntKind.bits, IntKind.signed] at h; omega

set_option maxRecDepth 100000 in
set_option maxHeartbeats 8000000 in
theorem phases_0 (step a d k : Int) (w : World) (ha : inW a = true) (hs : 1 ≤ step) (hs1 : step ≤ 9223372036854775807) (d0 : 0 ≤ d) (d1 : d ≤ 146096) (k0 : 0 ≤ k) (k1 : k ≤ 65535) : Calls Try.prog 17 #[.agg #[.int .i64 0, .int .i64 step, .int .i64 a], .int .i64 d, .int .u16 k] w (Kept (.bool true) w) := by
  have hu : uB 0 = true := by decide
  have hz : uSz 0 = 1 := rfl
  have hj : joB d 0 = true := decide_eq_true (by omega)
  have hF : d * 86400 / 1 = d * 86400 := by omega
  have hph := fun W => phase_yes 0 1 step a d W hu hz (by omega) ha hj hs hs1
  rw [hF] at hph
  obtain ⟨A, hA⟩ : ∃ A, A = uWh 0 a := ⟨_, rfl⟩
  obtain ⟨p, hp⟩ : ∃ p, p = (A - d * 86400) % step := ⟨_, rfl⟩
  have pb := emod_bd (A - d * 86400) hs
  rw [← hp] at pb
  simp only [← hA, ← hp] at hph
  obtain ⟨nn, hnn⟩ : ∃ nn, nn = k % 86400 := ⟨_, rfl⟩
  have nb : 0 ≤ nn ∧ nn < 86400 := by omega
  have hon := ph_on hs hp nb.1
  have hat := ph_at hs hp
  obtain ⟨ON, hON⟩ : ∃ b, b = (decide (p ≤ nn) && decide ((nn - p) % step = 0)) := ⟨_, rfl⟩
  have way : (p ≤ nn ∧ ((nn - p) % step == 0) = true ∧ ON = true) ∨ (p ≤ nn ∧ ((nn - p) % step == 0) = false ∧ ON = false) ∨ (nn < p ∧ ON = false) := by
    by_cases c1 : p ≤ nn
    · by_cases c2 : (nn - p) % step = 0
      · exact .inl ⟨c1, beq_iff_eq.2 c2, by rw [hON, decide_eq_true c1, decide_eq_true c2]; rfl⟩
      · exact .inr (.inl ⟨c1, beq_eq_false_iff_ne.2 c2, by rw [hON, decide_eq_true c1, decide_eq_false c2]; rfl⟩)
    · exact .inr (.inr ⟨by omega, by rw [hON, decide_eq_false c1]; rfl⟩)
  have hcall : ∀ (t : Int) (W : World), inW t = true → uWh 0 t = d * 86400 + nn → Calls Try.prog 73 #[.int .i64 0, .int .i64 step, .int .i64 a, .int .i64 t] W fun e w' => e = .returned (.bool ON) ∧ W = w' := fun t W ht he => (ron_yes 0 step a t W hu ha ht hs hs1).mono fun _ _ ⟨h, hw⟩ => ⟨by rw [h, he, ← hA, hon, ← hON], hw⟩
  have hcall2 : ∀ (t : Int) (W : World), inW t = true → uWh 0 t = d * 86400 + p → Calls Try.prog 73 #[.int .i64 0, .int .i64 step, .int .i64 a, .int .i64 t] W fun e w' => e = .returned (.bool true) ∧ W = w' := fun t W ht he => (ron_yes 0 step a t W hu ha ht hs hs1).mono fun _ _ ⟨h, hw⟩ => ⟨by rw [h, he, ← hA, hat], hw⟩
  have hwd : ∀ t, uWh 0 t = t := fun t => rfl
  have H := Lib.hid hcall
  have H2 := Lib.hid hcall2
  have HP := Lib.hid hph
  have HW := Lib.hid hwd
  have HA := Lib.hid ha
  have HNN := Lib.hid hnn
  clear hu hz hj hF hph hA hp hon hat hcall hcall2 hwd ha hnn hON
  have g1 : decide (d < 0) = false := decide_eq_false (by omega)
  have g2 : decide (146096 < d) = false := decide_eq_false (by omega)
  have g3 : decide (step < 1) = false := decide_eq_false (by omega)
  have g4 : decide (p < 0) = false := decide_eq_false (by omega)
  have g5 : decide (step ≤ p) = false := decide_eq_false (by omega)
  by_cases c2 : p < 86400
  · have g6 : decide (86400 ≤ p) = false := decide_eq_false (by omega)
    rcases way with ⟨c1, c3, rfl⟩ | ⟨c1, c3, rfl⟩ | ⟨c1, rfl⟩
    all_goals
      have hn := HNN.out.symm
      go_enter Try.func17, Try.ntmps17
      go_wp2_with fail
      refine (HP.out _).mono ?_
      rintro e w1 ⟨rfl, hb⟩
      have q0 : w1.cell? ⟨w.heap.size, 0, none⟩ = some (.int .i64 0) := ukept hb 0 rfl
      have q1 : w1.cell? ⟨w.heap.size, 1, none⟩ = some (.int .i64 step) := ukept hb 1 rfl
      have q2 : w1.cell? ⟨w.heap.size, 2, none⟩ = some (.int .i64 a) := ukept hb 2 rfl
      have HB1 := Lib.hid (bel_one hb)
      clear hb
      go_wp2_with fail
      refine (rsize_any _ _).mono ?_
      rintro e w' ⟨rfl, rfl⟩
      rw [show uSz 0 = 1 from rfl]
      go_wp2_with fail
      refine (rmin_any _ _).mono ?_
      rintro e w' ⟨rfl, rfl⟩
      rw [HA.out]
      go_wp2_with fail
      refine (H.out _ _ (decide_eq_true (by omega)) (by rw [HW.out]; omega)).mono ?_
      rintro e w' ⟨rfl, rfl⟩
      go_wp2_with fail
      refine (H.out _ _ (decide_eq_true (by omega)) (by rw [HW.out]; omega)).mono ?_
      rintro e w' ⟨rfl, rfl⟩
      go_wp2_with fail
      refine (H2.out _ _ (decide_eq_true (by omega)) (by rw [HW.out]; omega)).mono ?_
      rintro e w' ⟨rfl, rfl⟩
      go_wp2_with fail
      refine (unit_lives _).mono ?_
      rintro e w5 ⟨rfl, hb⟩
      have HB5 := Lib.hid (below_on HB1.out hb)
      clear hb
      go_wp2
      go_ret
      exact ⟨rfl, HB5.out⟩
  · have g6 : decide (86400 ≤ p) = true := decide_eq_true (by omega)
    rcases way with ⟨c1, c3, rfl⟩ | ⟨c1, c3, rfl⟩ | ⟨c1, rfl⟩
    · omega
    · omega
    all_goals
      have hn := HNN.out.symm
      go_enter Try.func17, Try.ntmps17
      go_wp2_with fail
      refine (HP.out _).mono ?_
      rintro e w1 ⟨rfl, hb⟩
      have q0 : w1.cell? ⟨w.heap.size, 0, none⟩ = some (.int .i64 0) := ukept hb 0 rfl
      have q1 : w1.cell? ⟨w.heap.size, 1, none⟩ = some (.int .i64 step) := ukept hb 1 rfl
      have q2 : w1.cell? ⟨w.heap.size, 2, none⟩ = some (.int .i64 a) := ukept hb 2 rfl
      have HB1 := Lib.hid (bel_one hb)
      clear hb
      go_wp2_with fail
      refine (rsize_any _ _).mono ?_
      rintro e w' ⟨rfl, rfl⟩
      rw [show uSz 0 = 1 from rfl]
      go_wp2_with fail
      refine (rmin_any _ _).mono ?_
      rintro e w' ⟨rfl, rfl⟩
      rw [HA.out]
      go_wp2_with fail
      refine (H.out _ _ (decide_eq_true (by omega)) (by rw [HW.out]; omega)).mono ?_
      rintro e w' ⟨rfl, rfl⟩
      go_wp2_with fail
      refine (H.out _ _ (decide_eq_true (by omega)) (by rw [HW.out]; omega)).mono ?_
      rintro e w' ⟨rfl, rfl⟩
      go_wp2_with fail
      refine (unit_lives _).mono ?_
      rintro e w5 ⟨rfl, hb⟩
      have HB5 := Lib.hid (below_on HB1.out hb)
      clear hb
      go_wp2
      go_ret
      exact ⟨rfl, HB5.out⟩

set_option maxRecDepth 100000 in
set_option maxHeartbeats 8000000 in
theorem phases_1 (step a d k : Int) (w : World) (ha : inW a = true) (hs : 1 ≤ step) (hs1 : step ≤ 9223372036854775807) (d0 : 0 ≤ d) (d1 : d ≤ 146096) (k0 : 0 ≤ k) (k1 : k ≤ 65535) : Calls Try.prog 17 #[.agg #[.int .i64 1, .int .i64 step, .int .i64 a], .int .i64 d, .int .u16 k] w (Kept (.bool true) w) := by
  have hu : uB 1 = true := by decide
  have hz : uSz 1 = 60 := rfl
  have hj : joB d 0 = true := decide_eq_true (by omega)
  have hF : d * 86400 / 60 = d * 1440 := by omega
  have hph := fun W => phase_yes 1 60 step a d W hu hz (by omega) ha hj hs hs1
  rw [hF] at hph
  obtain ⟨A, hA⟩ : ∃ A, A = uWh 1 a := ⟨_, rfl⟩
  obtain ⟨p, hp⟩ : ∃ p, p = (A - d * 1440) % step := ⟨_, rfl⟩
  have pb := emod_bd (A - d * 1440) hs
  rw [← hp] at pb
  simp only [← hA, ← hp] at hph
  obtain ⟨nn, hnn⟩ : ∃ nn, nn = k % 1440 := ⟨_, rfl⟩
  have nb : 0 ≤ nn ∧ nn < 1440 := by omega
  have hon := ph_on hs hp nb.1
  have hat := ph_at hs hp
  obtain ⟨ON, hON⟩ : ∃ b, b = (decide (p ≤ nn) && decide ((nn - p) % step = 0)) := ⟨_, rfl⟩
  have way : (p ≤ nn ∧ ((nn - p) % step == 0) = true ∧ ON = true) ∨ (p ≤ nn ∧ ((nn - p) % step == 0) = false ∧ ON = false) ∨ (nn < p ∧ ON = false) := by
    by_cases c1 : p ≤ nn
    · by_cases c2 : (nn - p) % step = 0
      · exact .inl ⟨c1, beq_iff_eq.2 c2, by rw [hON, decide_eq_true c1, decide_eq_true c2]; rfl⟩
      · exact .inr (.inl ⟨c1, beq_eq_false_iff_ne.2 c2, by rw [hON, decide_eq_true c1, decide_eq_false c2]; rfl⟩)
    · exact .inr (.inr ⟨by omega, by rw [hON, decide_eq_false c1]; rfl⟩)
  have hcall : ∀ (t : Int) (W : World), inW t = true → uWh 1 t = d * 1440 + nn → Calls Try.prog 73 #[.int .i64 1, .int .i64 step, .int .i64 a, .int .i64 t] W fun e w' => e = .returned (.bool ON) ∧ W = w' := fun t W ht he => (ron_yes 1 step a t W hu ha ht hs hs1).mono fun _ _ ⟨h, hw⟩ => ⟨by rw [h, he, ← hA, hon, ← hON], hw⟩
  have hcall2 : ∀ (t : Int) (W : World), inW t = true → uWh 1 t = d * 1440 + p → Calls Try.prog 73 #[.int .i64 1, .int .i64 step, .int .i64 a, .int .i64 t] W fun e w' => e = .returned (.bool true) ∧ W = w' := fun t W ht he => (ron_yes 1 step a t W hu ha ht hs hs1).mono fun _ _ ⟨h, hw⟩ => ⟨by rw [h, he, ← hA, hat], hw⟩
  have hwd : ∀ t, uWh 1 t = t / 60 := fun t => rfl
  have H := Lib.hid hcall
  have H2 := Lib.hid hcall2
  have HP := Lib.hid hph
  have HW := Lib.hid hwd
  have HA := Lib.hid ha
  have HNN := Lib.hid hnn
  clear hu hz hj hF hph hA hp hon hat hcall hcall2 hwd ha hnn hON
  have g1 : decide (d < 0) = false := decide_eq_false (by omega)
  have g2 : decide (146096 < d) = false := decide_eq_false (by omega)
  have g3 : decide (step < 1) = false := decide_eq_false (by omega)
  have g4 : decide (p < 0) = false := decide_eq_false (by omega)
  have g5 : decide (step ≤ p) = false := decide_eq_false (by omega)
  by_cases c2 : p < 1440
  · have g6 : decide (1440 ≤ p) = false := decide_eq_false (by omega)
    rcases way with ⟨c1, c3, rfl⟩ | ⟨c1, c3, rfl⟩ | ⟨c1, rfl⟩
    all_goals
      have hn := HNN.out.symm
      go_enter Try.func17, Try.ntmps17
      go_wp2_with fail
      refine (HP.out _).mono ?_
      rintro e w1 ⟨rfl, hb⟩
      have q0 : w1.cell? ⟨w.heap.size, 0, none⟩ = some (.int .i64 1) := ukept hb 0 rfl
      have q1 : w1.cell? ⟨w.heap.size, 1, none⟩ = some (.int .i64 step) := ukept hb 1 rfl
      have q2 : w1.cell? ⟨w.heap.size, 2, none⟩ = some (.int .i64 a) := ukept hb 2 rfl
      have HB1 := Lib.hid (bel_one hb)
      clear hb
      go_wp2_with fail
      refine (rsize_any _ _).mono ?_
      rintro e w' ⟨rfl, rfl⟩
      rw [show uSz 1 = 60 from rfl]
      go_wp2_with fail
      refine (rmin_any _ _).mono ?_
      rintro e w' ⟨rfl, rfl⟩
      rw [HA.out]
      go_wp2_with fail
      refine (H.out _ _ (decide_eq_true (by omega)) (by rw [HW.out]; omega)).mono ?_
      rintro e w' ⟨rfl, rfl⟩
      go_wp2_with fail
      refine (H.out _ _ (decide_eq_true (by omega)) (by rw [HW.out]; omega)).mono ?_
      rintro e w' ⟨rfl, rfl⟩
      go_wp2_with fail
      refine (H2.out _ _ (decide_eq_true (by omega)) (by rw [HW.out]; omega)).mono ?_
      rintro e w' ⟨rfl, rfl⟩
      go_wp2_with fail
      refine (unit_lives _).mono ?_
      rintro e w5 ⟨rfl, hb⟩
      have HB5 := Lib.hid (below_on HB1.out hb)
      clear hb
      go_wp2
      go_ret
      exact ⟨rfl, HB5.out⟩
  · have g6 : decide (1440 ≤ p) = true := decide_eq_true (by omega)
    rcases way with ⟨c1, c3, rfl⟩ | ⟨c1, c3, rfl⟩ | ⟨c1, rfl⟩
    · omega
    · omega
    all_goals
      have hn := HNN.out.symm
      go_enter Try.func17, Try.ntmps17
      go_wp2_with fail
      refine (HP.out _).mono ?_
      rintro e w1 ⟨rfl, hb⟩
      have q0 : w1.cell? ⟨w.heap.size, 0, none⟩ = some (.int .i64 1) := ukept hb 0 rfl
      have q1 : w1.cell? ⟨w.heap.size, 1, none⟩ = some (.int .i64 step) := ukept hb 1 rfl
      have q2 : w1.cell? ⟨w.heap.size, 2, none⟩ = some (.int .i64 a) := ukept hb 2 rfl
      have HB1 := Lib.hid (bel_one hb)
      clear hb
      go_wp2_with fail
      refine (rsize_any _ _).mono ?_
      rintro e w' ⟨rfl, rfl⟩
      rw [show uSz 1 = 60 from rfl]
      go_wp2_with fail
      refine (rmin_any _ _).mono ?_
      rintro e w' ⟨rfl, rfl⟩
      rw [HA.out]
      go_wp2_with fail
      refine (H.out _ _ (decide_eq_true (by omega)) (by rw [HW.out]; omega)).mono ?_
      rintro e w' ⟨rfl, rfl⟩
      go_wp2_with fail
      refine (H.out _ _ (decide_eq_true (by omega)) (by rw [HW.out]; omega)).mono ?_
      rintro e w' ⟨rfl, rfl⟩
      go_wp2_with fail
      refine (unit_lives _).mono ?_
      rintro e w5 ⟨rfl, hb⟩
      have HB5 := Lib.hid (below_on HB1.out hb)
      clear hb
      go_wp2
      go_ret
      exact ⟨rfl, HB5.out⟩

set_option maxRecDepth 100000 in
set_option maxHeartbeats 8000000 in
theorem phases_2 (step a d k : Int) (w : World) (ha : inW a = true) (hs : 1 ≤ step) (hs1 : step ≤ 9223372036854775807) (d0 : 0 ≤ d) (d1 : d ≤ 146096) (k0 : 0 ≤ k) (k1 : k ≤ 65535) : Calls Try.prog 17 #[.agg #[.int .i64 2, .int .i64 step, .int .i64 a], .int .i64 d, .int .u16 k] w (Kept (.bool true) w) := by
  have hu : uB 2 = true := by decide
  have hz : uSz 2 = 3600 := rfl
  have hj : joB d 0 = true := decide_eq_true (by omega)
  have hF : d * 86400 / 3600 = d * 24 := by omega
  have hph := fun W => phase_yes 2 3600 step a d W hu hz (by omega) ha hj hs hs1
  rw [hF] at hph
  obtain ⟨A, hA⟩ : ∃ A, A = uWh 2 a := ⟨_, rfl⟩
  obtain ⟨p, hp⟩ : ∃ p, p = (A - d * 24) % step := ⟨_, rfl⟩
  have pb := emod_bd (A - d * 24) hs
  rw [← hp] at pb
  simp only [← hA, ← hp] at hph
  obtain ⟨nn, hnn⟩ : ∃ nn, nn = k % 24 := ⟨_, rfl⟩
  have nb : 0 ≤ nn ∧ nn < 24 := by omega
  have hon := ph_on hs hp nb.1
  have hat := ph_at hs hp
  obtain ⟨ON, hON⟩ : ∃ b, b = (decide (p ≤ nn) && decide ((nn - p) % step = 0)) := ⟨_, rfl⟩
  have way : (p ≤ nn ∧ ((nn - p) % step == 0) = true ∧ ON = true) ∨ (p ≤ nn ∧ ((nn - p) % step == 0) = false ∧ ON = false) ∨ (nn < p ∧ ON = false) := by
    by_cases c1 : p ≤ nn
    · by_cases c2 : (nn - p) % step = 0
      · exact .inl ⟨c1, beq_iff_eq.2 c2, by rw [hON, decide_eq_true c1, decide_eq_true c2]; rfl⟩
      · exact .inr (.inl ⟨c1, beq_eq_false_iff_ne.2 c2, by rw [hON, decide_eq_true c1, decide_eq_false c2]; rfl⟩)
    · exact .inr (.inr ⟨by omega, by rw [hON, decide_eq_false c1]; rfl⟩)
  have hcall : ∀ (t : Int) (W : World), inW t = true → uWh 2 t = d * 24 + nn → Calls Try.prog 73 #[.int .i64 2, .int .i64 step, .int .i64 a, .int .i64 t] W fun e w' => e = .returned (.bool ON) ∧ W = w' := fun t W ht he => (ron_yes 2 step a t W hu ha ht hs hs1).mono fun _ _ ⟨h, hw⟩ => ⟨by rw [h, he, ← hA, hon, ← hON], hw⟩
  have hcall2 : ∀ (t : Int) (W : World), inW t = true → uWh 2 t = d * 24 + p → Calls Try.prog 73 #[.int .i64 2, .int .i64 step, .int .i64 a, .int .i64 t] W fun e w' => e = .returned (.bool true) ∧ W = w' := fun t W ht he => (ron_yes 2 step a t W hu ha ht hs hs1).mono fun _ _ ⟨h, hw⟩ => ⟨by rw [h, he, ← hA, hat], hw⟩
  have hwd : ∀ t, uWh 2 t = t / 3600 := fun t => rfl
  have H := Lib.hid hcall
  have H2 := Lib.hid hcall2
  have HP := Lib.hid hph
  have HW := Lib.hid hwd
  have HA := Lib.hid ha
  have HNN := Lib.hid hnn
  clear hu hz hj hF hph hA hp hon hat hcall hcall2 hwd ha hnn hON
  have g1 : decide (d < 0) = false := decide_eq_false (by omega)
  have g2 : decide (146096 < d) = false := decide_eq_false (by omega)
  have g3 : decide (step < 1) = false := decide_eq_false (by omega)
  have g4 : decide (p < 0) = false := decide_eq_false (by omega)
  have g5 : decide (step ≤ p) = false := decide_eq_false (by omega)
  by_cases c2 : p < 24
  · have g6 : decide (24 ≤ p) = false := decide_eq_false (by omega)
    rcases way with ⟨c1, c3, rfl⟩ | ⟨c1, c3, rfl⟩ | ⟨c1, rfl⟩
    all_goals
      have hn := HNN.out.symm
      go_enter Try.func17, Try.ntmps17
      go_wp2_with fail
      refine (HP.out _).mono ?_
      rintro e w1 ⟨rfl, hb⟩
      have q0 : w1.cell? ⟨w.heap.size, 0, none⟩ = some (.int .i64 2) := ukept hb 0 rfl
      have q1 : w1.cell? ⟨w.heap.size, 1, none⟩ = some (.int .i64 step) := ukept hb 1 rfl
      have q2 : w1.cell? ⟨w.heap.size, 2, none⟩ = some (.int .i64 a) := ukept hb 2 rfl
      have HB1 := Lib.hid (bel_one hb)
      clear hb
      go_wp2_with fail
      refine (rsize_any _ _).mono ?_
      rintro e w' ⟨rfl, rfl⟩
      rw [show uSz 2 = 3600 from rfl]
      go_wp2_with fail
      refine (rmin_any _ _).mono ?_
      rintro e w' ⟨rfl, rfl⟩
      rw [HA.out]
      go_wp2_with fail
      refine (H.out _ _ (decide_eq_true (by omega)) (by rw [HW.out]; omega)).mono ?_
      rintro e w' ⟨rfl, rfl⟩
      go_wp2_with fail
      refine (H.out _ _ (decide_eq_true (by omega)) (by rw [HW.out]; omega)).mono ?_
      rintro e w' ⟨rfl, rfl⟩
      go_wp2_with fail
      refine (H2.out _ _ (decide_eq_true (by omega)) (by rw [HW.out]; omega)).mono ?_
      rintro e w' ⟨rfl, rfl⟩
      go_wp2_with fail
      refine (unit_lives _).mono ?_
      rintro e w5 ⟨rfl, hb⟩
      have HB5 := Lib.hid (below_on HB1.out hb)
      clear hb
      go_wp2
      go_ret
      exact ⟨rfl, HB5.out⟩
  · have g6 : decide (24 ≤ p) = true := decide_eq_true (by omega)
    rcases way with ⟨c1, c3, rfl⟩ | ⟨c1, c3, rfl⟩ | ⟨c1, rfl⟩
    · omega
    · omega
    all_goals
      have hn := HNN.out.symm
      go_enter Try.func17, Try.ntmps17
      go_wp2_with fail
      refine (HP.out _).mono ?_
      rintro e w1 ⟨rfl, hb⟩
      have q0 : w1.cell? ⟨w.heap.size, 0, none⟩ = some (.int .i64 2) := ukept hb 0 rfl
      have q1 : w1.cell? ⟨w.heap.size, 1, none⟩ = some (.int .i64 step) := ukept hb 1 rfl
      have q2 : w1.cell? ⟨w.heap.size, 2, none⟩ = some (.int .i64 a) := ukept hb 2 rfl
      have HB1 := Lib.hid (bel_one hb)
      clear hb
      go_wp2_with fail
      refine (rsize_any _ _).mono ?_
      rintro e w' ⟨rfl, rfl⟩
      rw [show uSz 2 = 3600 from rfl]
      go_wp2_with fail
      refine (rmin_any _ _).mono ?_
      rintro e w' ⟨rfl, rfl⟩
      rw [HA.out]
      go_wp2_with fail
      refine (H.out _ _ (decide_eq_true (by omega)) (by rw [HW.out]; omega)).mono ?_
      rintro e w' ⟨rfl, rfl⟩
      go_wp2_with fail
      refine (H.out _ _ (decide_eq_true (by omega)) (by rw [HW.out]; omega)).mono ?_
      rintro e w' ⟨rfl, rfl⟩
      go_wp2_with fail
      refine (unit_lives _).mono ?_
      rintro e w5 ⟨rfl, hb⟩
      have HB5 := Lib.hid (below_on HB1.out hb)
      clear hb
      go_wp2
      go_ret
      exact ⟨rfl, HB5.out⟩

end Go.Proofs.Ytnoomlakgfdaeaa
