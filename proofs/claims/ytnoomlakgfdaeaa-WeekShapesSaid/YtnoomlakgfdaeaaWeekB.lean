/- Contracts of week.Shape, the reference's Shape, the chapter's examples; the walks of ferialaw06.WeekDays, WeekFar. -/
import Derived.Test.YtnoomlakgfdaeaaWeekA
namespace Go.Proofs.Ytnoomlakgfdaeaa
open Go.RowKit

/-- a day's shape -/
def shV (n : Int) : Value := shA n (dY n) (dM n) (dD n) (cum (dY n) (dM n) + dD n)
def shZ : Value := .agg #[.int .i64 0, .int .i64 0, .int .i64 0, .int .i64 0, .int .i64 0, .int .i64 0, .int .i64 0, .int .i64 0, .int .i64 0, .int .i64 0]

/-- a shape, field by field -/
theorem shV_form (n : Int) : shV n = .agg #[.int .i64 n, .int .i64 (dY n), .int .i64 (dM n), .int .i64 (dD n), .int .i64 (dim (dY n) (dM n) - dD n + 1), .int .i64 (wd n), .int .i64 (wi (dD n) (dim (dY n) (dM n))), .int .i64 (wo (dD n) (dim (dY n) (dM n))),
    .int .i64 (wi (cum (dY n) (dM n) + dD n) (365 + lp (dY n))), .int .i64 (wo (cum (dY n) (dM n) + dD n) (365 + lp (dY n)))] := rfl

set_option maxHeartbeats 1000000 in
theorem shape_no (n : Int) (w : World) (h : n < 0 ∨ 146096 < n) : Calls Try.prog 60 #[.int .i64 n] w (Kept (.tuple #[shZ, .bool false]) w) := by
  unfold shZ
  by_cases c : n < 0
  · have g1 : decide (n < 0) = true := decide_eq_true c
    clear h
    go_enter Try.func60, Try.ntmps60
    go_wp2
    exact bodyPost_ret (by simp [results, Try.results60, go_sem]) rfl ⟨rfl, (Below.refl _ _).alloc (Nat.le_refl _) _⟩
  · have g1 : decide (n < 0) = false := decide_eq_false c
    have g2 : decide (146097 ≤ n) = true := decide_eq_true (by omega)
    clear h
    go_enter Try.func60, Try.ntmps60
    go_wp2
    exact bodyPost_ret (by simp [results, Try.results60, go_sem]) rfl ⟨rfl, (Below.refl _ _).alloc (Nat.le_refl _) _⟩

theorem shape_gen (n y m d o : Int) (w w1 : World) (hb : Below w.heap.size w w1) (n1 : 0 ≤ n) (n2 : n ≤ 146096) (d1 : 1 ≤ d) (d2 : d ≤ 31) :
    Calls Try.prog 87 #[.int .i64 n, .int .i64 y, .int .i64 m, .int .i64 d, .int .i64 o] w1 (Kept (shA n y m d o) w) :=
  (shaped_any n y m d o w1 n1 n2 d1 d2).mono fun _ _ ⟨he, h⟩ => ⟨he, below_on hb h⟩

set_option maxHeartbeats 1000000 in
theorem shape_yes (n : Int) (w : World) (n1 : 0 ≤ n) (n2 : n ≤ 146096) : Calls Try.prog 60 #[.int .i64 n] w (Kept (.tuple #[shV n, .bool true]) w) := by
  have g1 : decide (n < 0) = false := decide_eq_false (by omega)
  have g2 : decide (146097 ≤ n) = false := decide_eq_false (by omega)
  have H0 := Lib.hid (may_near n (by omega) (by omega))
  obtain ⟨y1, y2, m1, m2, d1, d2, d3⟩ := near_bd n (by omega) (by omega)
  clear d3
  rw [shV_form]
  have HV := Lib.hid (shV_form n)
  obtain ⟨a3, ha3⟩ : ∃ x, x = dim (dY n) (dM n) - dD n + 1 := ⟨_, rfl⟩
  obtain ⟨a5, ha5⟩ : ∃ x, x = wd n := ⟨_, rfl⟩
  obtain ⟨a6, ha6⟩ : ∃ x, x = wi (dD n) (dim (dY n) (dM n)) := ⟨_, rfl⟩
  obtain ⟨a7, ha7⟩ : ∃ x, x = wo (dD n) (dim (dY n) (dM n)) := ⟨_, rfl⟩
  obtain ⟨a8, ha8⟩ : ∃ x, x = wi (cum (dY n) (dM n) + dD n) (365 + lp (dY n)) := ⟨_, rfl⟩
  obtain ⟨a9, ha9⟩ : ∃ x, x = wo (cum (dY n) (dM n) + dD n) (365 + lp (dY n)) := ⟨_, rfl⟩
  rw [← ha3, ← ha5, ← ha6, ← ha7, ← ha8, ← ha9] at HV ⊢
  obtain ⟨o, ho⟩ : ∃ o, o = cum (dY n) (dM n) + dD n := ⟨_, rfl⟩
  have HSV : Hid (shA n (dY n) (dM n) (dD n) o = .agg #[.int .i64 n, .int .i64 (dY n), .int .i64 (dM n), .int .i64 (dD n), .int .i64 a3, .int .i64 a5, .int .i64 a6, .int .i64 a7, .int .i64 a8, .int .i64 a9]) := Lib.hid (by rw [ho]; exact HV.out)
  have HO := Lib.hid ho
  clear ha3 ha5 ha6 ha7 ha8 ha9 ho HV
  obtain ⟨y, hy⟩ : ∃ y, y = dY n := ⟨_, rfl⟩
  obtain ⟨m, hm⟩ : ∃ m, m = dM n := ⟨_, rfl⟩
  obtain ⟨d, hd⟩ : ∃ d, d = dD n := ⟨_, rfl⟩
  rw [← hy, ← hm, ← hd] at HSV HO H0 ⊢
  rw [← hy] at y1 y2
  rw [← hm] at m1 m2
  rw [← hd] at d1 d2
  have HY := Lib.hid hy
  have HM := Lib.hid hm
  have HD := Lib.hid hd
  clear hy hm hd
  go_enter Try.func60, Try.ntmps60
  go_wp2_with fail
  refine (date_yes n _ (by rw [← HY.out, ← HM.out, ← HD.out]; exact H0.out)).mono ?_
  rintro e w1 ⟨rfl, hb⟩
  rw [← HY.out, ← HM.out, ← HD.out]
  have HB1 := Lib.hid hb
  clear hb
  go_wp2_with fail
  refine (ordinal_yes _ _ _ _ H0.out).mono ?_
  rintro e w2 ⟨rfl, hb⟩
  rw [← HO.out]
  have HB2 := Lib.hid (below_on HB1.out hb)
  clear hb
  go_wp2_with fail
  refine (shape_gen _ _ _ _ _ _ _ HB2.out n1 n2 d1 d2).mono ?_
  rintro e w3 ⟨rfl, hb⟩
  rw [HSV.out]
  obtain ⟨hc, hfz⟩ := bcell hb
  have hz : w.heap.size < w3.heap.size := by have := hb.size; simp at this; omega
  have HB3 := Lib.hid (below_one hb)
  clear hb
  go_wp2
  exact bodyPost_ret (by simp [results, Try.results60, go_sem, hc, hfz, hz]) rfl ⟨rfl, by
      (repeat (with_reducible apply below_set))
      exact HB3.out⟩

theorem shV_back (n : Int) : dim (dY n) (dM n) + 1 - dD n = dim (dY n) (dM n) - dD n + 1 := by omega

set_option maxHeartbeats 1000000 in
theorem rshape_any (n : Int) (w : World) (n1 : 0 ≤ n) (n2 : n ≤ 146096) : Calls Try.prog 61 #[.int .i64 n] w (Kept (shV n) w) := by
  have H0 := Lib.hid (dateV_yes (may_near n (by omega) (by omega)))
  obtain ⟨y1, y2, m1, m2, d1, d2, d3⟩ := near_bd n (by omega) (by omega)
  have db := dim_bd (dY n) (dM n)
  have lb := lp_01 (dY n)
  have HBK := Lib.hid (shV_back n)
  rw [shV_form]
  obtain ⟨D, hD⟩ : ∃ D, D = dim (dY n) (dM n) := ⟨_, rfl⟩
  obtain ⟨L, hL⟩ : ∃ L, L = 365 + lp (dY n) := ⟨_, rfl⟩
  have hL2 : 365 ≤ L ∧ L ≤ 366 := by omega
  obtain ⟨o, ho⟩ : ∃ o, o = cum (dY n) (dM n) + dD n := ⟨_, rfl⟩
  rw [← hD] at HBK d3 db
  rw [← hD, ← hL, ← ho]
  obtain ⟨y, hy⟩ : ∃ y, y = dY n := ⟨_, rfl⟩
  obtain ⟨m, hm⟩ : ∃ m, m = dM n := ⟨_, rfl⟩
  obtain ⟨d, hd⟩ : ∃ d, d = dD n := ⟨_, rfl⟩
  rw [← hy, ← hm, ← hd] at H0 ho ⊢
  rw [← hy, ← hm] at hD
  rw [← hd] at HBK d3
  rw [← hy] at y1 y2 hL
  rw [← hm] at m1 m2
  rw [← hd] at d1 d2
  have HD := Lib.hid hD
  have HL := Lib.hid hL
  have HO := Lib.hid ho
  clear hy hm hd hD hL ho lb
  go_enter Try.func61, Try.ntmps61
  go_wp2_with fail
  refine (rdate_any _ _ (by omega) (by omega)).mono ?_
  rintro e w' ⟨rfl, rfl⟩
  rw [H0.out]
  go_wp2_with fail
  refine (rlength_any _ _ _).mono ?_
  rintro e w' ⟨rfl, rfl⟩
  rw [← HD.out]
  go_wp2_with fail
  refine (rwhich_any _ _ _ (by omega)).mono ?_
  rintro e w' ⟨rfl, rfl⟩
  go_wp2_with fail
  refine (rordinal_any _ _ _ _ m1 m2 d1 d2).mono ?_
  rintro e w' ⟨rfl, rfl⟩
  rw [← HO.out]
  go_wp2_with fail
  refine (year_any _ _).mono ?_
  rintro e w' ⟨rfl, rfl⟩
  rw [← HL.out]
  go_wp2_with fail
  refine (rwhich_any _ _ _ (by omega)).mono ?_
  rintro e w' ⟨rfl, rfl⟩
  go_wp2_with fail
  refine (rwday_any _ _ (by omega) (by omega)).mono ?_
  rintro e w' ⟨rfl, rfl⟩
  go_wp2
  rw [HBK.out]
  exact bodyPost_ret (by simp [results, Try.results61, go_sem]) rfl ⟨rfl, by
      refine Below.alloc (Below.refl _ _) (Nat.le_refl _) _⟩

set_option maxHeartbeats 1000000 in
theorem week_lives (w : World) : Calls Try.prog 59 #[] w (Kept (.bool true) w) := by
  have HS : Hid (shV 58 = .agg #[.int .i64 58, .int .i64 1970, .int .i64 2, .int .i64 28, .int .i64 1, .int .i64 6, .int .i64 4, .int .i64 1, .int .i64 9, .int .i64 44]) := Lib.hid (by kernel_rfl)
  have HD : Hid (wd 0 = 4) := Lib.hid (by decide)
  go_enter Try.func59, Try.ntmps59
  go_wp2_with fail
  refine (shape_yes _ _ (by omega) (by omega)).mono ?_
  rintro e w1 ⟨rfl, hb⟩
  rw [HS.out]
  have HB := Lib.hid hb
  clear hb
  go_wp2_with fail
  refine (wday_any _ _ (by omega) (by omega)).mono ?_
  rintro e w' ⟨rfl, rfl⟩
  rw [HD.out]
  go_wp2
  go_ret
  exact ⟨rfl, HB.out.alloc HB.out.size _⟩

set_option maxHeartbeats 1000000 in
theorem WeekDays_walk (n a l : Int) (w : World) (hn : (Lit.int .i64 n).wf = true) (ha : (Lit.int .i64 a).wf = true) (hl : (Lit.int .i64 l).wf = true) :
    Calls Try.prog 10 #[.int .i64 n, .int .i64 a, .int .i64 l] w (Kept (.bool true) w) := by
  obtain ⟨n0, n1⟩ := i64_bd hn
  obtain ⟨l0, l1⟩ := i64_bd hl
  clear hn ha hl
  obtain ⟨p, hp⟩ : ∃ p, p = wi a l := ⟨_, rfl⟩
  obtain ⟨q, hq⟩ : ∃ q, q = wo a l := ⟨_, rfl⟩
  obtain ⟨d, hd⟩ : ∃ d, d = wd n := ⟨_, rfl⟩
  obtain ⟨k, hk⟩ : ∃ k, k = wk n := ⟨_, rfl⟩
  have HP := Lib.hid hp
  have HQ := Lib.hid hq
  have HD := Lib.hid hd
  have HK := Lib.hid hk
  clear hp hq hd hk
  go_enter Try.func10, Try.ntmps10
  go_wp2_with fail
  refine (which_any _ _ _ l1).mono ?_
  rintro e w' ⟨rfl, rfl⟩
  rw [← HP.out, ← HQ.out]
  go_wp2_with fail
  refine (rwhich_any _ _ _ l1).mono ?_
  rintro e w' ⟨rfl, rfl⟩
  rw [← HP.out, ← HQ.out]
  go_wp2_with fail
  refine (wday_any _ _ n0 n1).mono ?_
  rintro e w' ⟨rfl, rfl⟩
  rw [← HD.out]
  go_wp2_with fail
  refine (rwday_any _ _ n0 n1).mono ?_
  rintro e w' ⟨rfl, rfl⟩
  rw [← HD.out]
  go_wp2_with fail
  refine (wnum_any _ _ n0 n1).mono ?_
  rintro e w' ⟨rfl, rfl⟩
  rw [← HK.out]
  go_wp2_with fail
  refine (rwnum_any _ _ n0 n1).mono ?_
  rintro e w' ⟨rfl, rfl⟩
  rw [← HK.out]
  go_wp2_with fail
  refine (week_lives _).mono ?_
  rintro e w1 ⟨rfl, hb⟩
  have HB := Lib.hid hb
  clear hb
  go_wp2
  go_ret
  exact ⟨rfl, HB.out⟩

theorem wk_far (n : Int) : wk n = wk (n - n % 7) ∨ (wk n ≠ wk (n - n % 7) ∧ wk n = wk (n - n % 7) + 1) := by
  unfold wk
  split <;> split <;> omega

set_option maxHeartbeats 1000000 in
theorem WeekFar_walk (n : Int) (w : World) (hn : (Lit.int .i64 n).wf = true) :
    Calls Try.prog 12 #[.int .i64 n] w (Kept (.bool true) w) := by
  obtain ⟨n0, n1⟩ := i64_bd hn
  clear hn
  have db := wd_bd n
  obtain ⟨d, hd⟩ : ∃ d, d = wd n := ⟨_, rfl⟩
  rw [← hd] at db
  by_cases c : n < -9223372036854775801
  · have HD := Lib.hid hd
    clear hd
    go_enter Try.func12, Try.ntmps12
    go_wp2_with fail
    refine (wday_any _ _ n0 n1).mono ?_
    rintro e w' ⟨rfl, rfl⟩
    rw [← HD.out]
    go_wp2_with fail
    refine (week_lives _).mono ?_
    rintro e w1 ⟨rfl, hb⟩
    have HB := Lib.hid hb
    clear hb
    go_wp2
    go_ret
    exact ⟨rfl, HB.out⟩
  · have wf := wk_far n
    obtain ⟨k, hk⟩ : ∃ k, k = wk n := ⟨_, rfl⟩
    obtain ⟨k', hk'⟩ : ∃ k', k' = wk (n - n % 7) := ⟨_, rfl⟩
    have kb : -2000000000000000000 ≤ k' ∧ k' ≤ 2000000000000000000 := by rw [hk']; unfold wk; split <;> omega
    rw [← hk, ← hk'] at wf
    obtain ⟨M, hM⟩ : ∃ M, M = n % 7 := ⟨_, rfl⟩
    have m0 : 0 ≤ M ∧ M ≤ 6 := by omega
    rw [← hM] at hk'
    have HM : Hid (mo n 7 = M) := Lib.hid (by rw [mo_pos (by omega), hM])
    have HP : Hid (mo (M + 3) 7 + 1 = d) := Lib.hid (by rw [mo_pos (by omega), hd]; unfold wd; omega)
    obtain ⟨Q, hQ⟩ : ∃ Q, Q = mo (M + 3) 7 := ⟨_, rfl⟩
    rw [← hQ] at HP
    obtain rfl : d = Q + 1 := HP.out.symm
    have HD := Lib.hid hd
    have HQ := Lib.hid hQ
    have HK := Lib.hid hk
    have HK' := Lib.hid hk'
    clear hd hk hk' hM hQ HP
    rcases wf with wf | ⟨wf, wf'⟩
    all_goals
      first
        | (obtain rfl : k = k' := wf)
        | (have wf1 : (k == k') = false := beq_eq_false_iff_ne.2 wf; clear wf; obtain rfl : k = k' + 1 := wf')
      go_enter Try.func12, Try.ntmps12
      go_wp2_with fail
      refine (wday_any _ _ n0 n1).mono ?_
      rintro e w' ⟨rfl, rfl⟩
      rw [← HD.out]
      go_wp2_with fail
      refine (rmod_any _ _ _ n0 n1 (by omega) (by omega)).mono ?_
      rintro e w' ⟨rfl, rfl⟩
      rw [HM.out]
      go_wp2_with fail
      refine (rmod_any _ _ _ (by omega) (by omega) (by omega) (by omega)).mono ?_
      rintro e w' ⟨rfl, rfl⟩
      rw [← HQ.out]
      go_wp2_with fail
      refine (wnum_any _ _ n0 n1).mono ?_
      rintro e w' ⟨rfl, rfl⟩
      rw [← HK.out]
      go_wp2_with fail
      refine (rmod_any _ _ _ n0 n1 (by omega) (by omega)).mono ?_
      rintro e w' ⟨rfl, rfl⟩
      rw [HM.out]
      go_wp2_with fail
      refine (wnum_any _ _ (by omega) (by omega)).mono ?_
      rintro e w' ⟨rfl, rfl⟩
      rw [← HK'.out]
      go_wp2_with fail
      try
        refine (wnum_any n _ n0 n1).mono ?_
        rintro e w' ⟨rfl, rfl⟩
        rw [← HK.out]
        go_wp2_with fail
        refine (rmod_any _ _ _ n0 n1 (by omega) (by omega)).mono ?_
        rintro e w' ⟨rfl, rfl⟩
        rw [HM.out]
        go_wp2_with fail
        refine (wnum_any _ _ (by omega) (by omega)).mono ?_
        rintro e w' ⟨rfl, rfl⟩
        rw [← HK'.out]
        go_wp2_with fail
      refine (week_lives _).mono ?_
      rintro e w1 ⟨rfl, hb⟩
      have HB := Lib.hid hb
      clear hb
      go_wp2
      go_ret
      exact ⟨rfl, HB.out⟩
end Go.Proofs.Ytnoomlakgfdaeaa
