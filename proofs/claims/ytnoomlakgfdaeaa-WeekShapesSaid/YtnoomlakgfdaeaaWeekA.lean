/- Contracts of package week's Day, Number, Which, shaped, Shape and of the reference's; the chapter's examples (lives). -/
import Derived.Test.YtnoomlakgfdaeaaCivG
namespace Go.Proofs.Ytnoomlakgfdaeaa
open Go.RowKit

/-- a day's weekday, its week -/
def wd (n : Int) : Int := (n % 7 + 3) % 7 + 1
def wk (n : Int) : Int := if 4 ≤ n % 7 then n / 7 + 1 else n / 7
theorem wd_bd (n : Int) : 1 ≤ wd n ∧ wd n ≤ 7 := by unfold wd; omega
theorem wk_bd (n : Int) (a0 : -9223372036854775808 ≤ n) (a1 : n ≤ 9223372036854775807) : -9223372036854775808 ≤ wk n ∧ wk n ≤ 9223372036854775807 := by unfold wk; split <;> omega

theorem wday_any (n : Int) (w : World) (a0 : -9223372036854775808 ≤ n) (a1 : n ≤ 9223372036854775807) :
    Calls Try.prog 55 #[.int .i64 n] w fun e w' => e = .returned (.int .i64 (wd n)) ∧ w = w' := by
  obtain ⟨M, hM⟩ : ∃ M, M = n % 7 := ⟨_, rfl⟩
  have m0 : 0 ≤ M ∧ M ≤ 6 := by omega
  have HM : Hid (mo n 7 = M) := Lib.hid (by rw [mo_pos (by omega), hM])
  have HV : Hid (wd n = (M + 3) % 7 + 1) := Lib.hid (by unfold wd; rw [hM])
  have HP : Hid (mo (M + 3) 7 = (M + 3) % 7) := Lib.hid (mo_pos (by omega))
  have p0 : 0 ≤ (M + 3) % 7 ∧ (M + 3) % 7 ≤ 6 := by omega
  clear hM
  go_enter Try.func55, Try.ntmps55
  go_wp2_with fail
  refine (mod_any _ _ _ a0 a1 (by omega) (by omega)).mono ?_
  rintro e w' ⟨rfl, rfl⟩
  rw [HM.out]
  go_wp2_with fail
  refine (mod_any _ _ _ (by omega) (by omega) (by omega) (by omega)).mono ?_
  rintro e w' ⟨rfl, rfl⟩
  rw [HP.out]
  go_wp2
  go_ret
  exact ⟨ret_int HV.out.symm, rfl⟩

theorem wnum_any (n : Int) (w : World) (a0 : -9223372036854775808 ≤ n) (a1 : n ≤ 9223372036854775807) :
    Calls Try.prog 57 #[.int .i64 n] w fun e w' => e = .returned (.int .i64 (wk n)) ∧ w = w' := by
  obtain ⟨M, hM⟩ : ∃ M, M = n % 7 := ⟨_, rfl⟩
  obtain ⟨F, hF⟩ : ∃ F, F = n / 7 := ⟨_, rfl⟩
  have m0 : 0 ≤ M ∧ M ≤ 6 := by omega
  have f0 : -9223372036854775807 ≤ F ∧ F ≤ 9223372036854775806 := by omega
  have HM : Hid (mo n 7 = M) := Lib.hid (by rw [mo_pos (by omega), hM])
  have HF : Hid (flo n 7 = F) := Lib.hid (by rw [flo_pos (by omega), hF])
  by_cases c : 4 ≤ M
  · have HV : Hid (wk n = F + 1) := Lib.hid (by unfold wk; rw [if_pos (by omega), hF])
    clear hM hF
    go_enter Try.func57, Try.ntmps57
    go_wp2_with fail
    refine (floor_any _ _ _ a0 a1 (by omega) (by omega)).mono ?_
    rintro e w' ⟨rfl, rfl⟩
    rw [HF.out]
    go_wp2_with fail
    refine (mod_any _ _ _ a0 a1 (by omega) (by omega)).mono ?_
    rintro e w' ⟨rfl, rfl⟩
    rw [HM.out]
    go_wp2
    go_ret
    exact ⟨ret_int HV.out.symm, rfl⟩
  · have HV : Hid (wk n = F) := Lib.hid (by unfold wk; rw [if_neg (by omega), hF])
    clear hM hF
    go_enter Try.func57, Try.ntmps57
    go_wp2_with fail
    refine (floor_any _ _ _ a0 a1 (by omega) (by omega)).mono ?_
    rintro e w' ⟨rfl, rfl⟩
    rw [HF.out]
    go_wp2_with fail
    refine (mod_any _ _ _ a0 a1 (by omega) (by omega)).mono ?_
    rintro e w' ⟨rfl, rfl⟩
    rw [HM.out]
    go_wp2
    go_ret
    exact ⟨ret_int HV.out.symm, rfl⟩

theorem rwnum_any (n : Int) (w : World) (a0 : -9223372036854775808 ≤ n) (a1 : n ≤ 9223372036854775807) :
    Calls Try.prog 58 #[.int .i64 n] w fun e w' => e = .returned (.int .i64 (wk n)) ∧ w = w' := by
  obtain ⟨M, hM⟩ : ∃ M, M = n % 7 := ⟨_, rfl⟩
  obtain ⟨F, hF⟩ : ∃ F, F = n / 7 := ⟨_, rfl⟩
  have m0 : 0 ≤ M ∧ M ≤ 6 := by omega
  have f0 : -9223372036854775807 ≤ F ∧ F ≤ 9223372036854775806 := by omega
  have HM : Hid (mo n 7 = M) := Lib.hid (by rw [mo_pos (by omega), hM])
  have HF : Hid (flo n 7 = F) := Lib.hid (by rw [flo_pos (by omega), hF])
  by_cases c : 4 ≤ M
  · have HV : Hid (wk n = F + 1) := Lib.hid (by unfold wk; rw [if_pos (by omega), hF])
    clear hM hF
    go_enter Try.func58, Try.ntmps58
    go_wp2_with fail
    refine (rfloor_any _ _ _ a0 a1 (by omega) (by omega)).mono ?_
    rintro e w' ⟨rfl, rfl⟩
    rw [HF.out]
    go_wp2_with fail
    refine (rmod_any _ _ _ a0 a1 (by omega) (by omega)).mono ?_
    rintro e w' ⟨rfl, rfl⟩
    rw [HM.out]
    go_wp2
    go_ret
    exact ⟨ret_int HV.out.symm, rfl⟩
  · have HV : Hid (wk n = F) := Lib.hid (by unfold wk; rw [if_neg (by omega), hF])
    clear hM hF
    go_enter Try.func58, Try.ntmps58
    go_wp2_with fail
    refine (rfloor_any _ _ _ a0 a1 (by omega) (by omega)).mono ?_
    rintro e w' ⟨rfl, rfl⟩
    rw [HF.out]
    go_wp2_with fail
    refine (rmod_any _ _ _ a0 a1 (by omega) (by omega)).mono ?_
    rintro e w' ⟨rfl, rfl⟩
    rw [HM.out]
    go_wp2
    go_ret
    exact ⟨ret_int HV.out.symm, rfl⟩

theorem rwday_any (n : Int) (w : World) (a0 : -9223372036854775808 ≤ n) (a1 : n ≤ 9223372036854775807) :
    Calls Try.prog 56 #[.int .i64 n] w fun e w' => e = .returned (.int .i64 (wd n)) ∧ w = w' := by
  obtain ⟨M, hM⟩ : ∃ M, M = n % 7 := ⟨_, rfl⟩
  have m0 : 0 ≤ M ∧ M ≤ 6 := by omega
  have HM : Hid (mo n 7 = M) := Lib.hid (by rw [mo_pos (by omega), hM])
  have HV : Hid (wd n = (M + 3) % 7 + 1) := Lib.hid (by unfold wd; rw [hM])
  clear hM
  go_enter Try.func56, Try.ntmps56
  go_wp2_with fail
  refine (rmod_any _ _ _ a0 a1 (by omega) (by omega)).mono ?_
  rintro e w' ⟨rfl, rfl⟩
  rw [HM.out]
  go_wp2_with fail
  go_loop [4, 5] (fun t i => ∃ k : Int, 0 ≤ k ∧ k ≤ M ∧ i = .int .i64 k ∧ t = .int .i64 ((k + 3) % 7 + 1)) (fun _ i => (7 - intOf i).toNat)
  case atStart => exact ⟨0, by omega, by omega, rfl, rfl⟩
  case round =>
    obtain ⟨k, k1, k2, rfl, rfl⟩ := hrel
    have p0 : 0 ≤ (k + 3) % 7 ∧ (k + 3) % 7 ≤ 6 := by omega
    by_cases hlt : k < M
    · have HS : Hid (((k + 3) % 7 + 1) % 7 + 1 = (k + 1 + 3) % 7 + 1) := Lib.hid (by omega)
      obtain ⟨p, hp⟩ : ∃ p, p = (k + 3) % 7 := ⟨_, rfl⟩
      rw [← hp] at HS p0 ⊢
      clear hp
      go_wp2
      go_round
      case rel => exact ⟨k + 1, by omega, by omega, rfl, by rw [← HS.out]⟩
      case measure => simp [intOf]; omega
    · obtain rfl : k = M := by omega
      go_wp2
      go_ret
      exact ⟨ret_int HV.out.symm, rfl⟩

/-- which such weekday a place is, from both sides -/
def wi (a l : Int) : Int := if 1 ≤ a ∧ a ≤ l then (a - 1) / 7 + 1 else 0
def wo (a l : Int) : Int := if 1 ≤ a ∧ a ≤ l then (l - a) / 7 + 1 else 0
theorem which_any (a l : Int) (w : World) (l1 : l ≤ 9223372036854775807) :
    Calls Try.prog 53 #[.int .i64 a, .int .i64 l] w fun e w' => e = .returned (.tuple #[.int .i64 (wi a l), .int .i64 (wo a l)]) ∧ w = w' := by
  unfold wi wo
  by_cases c1 : a < 1
  · have g1 : decide (a < 1) = true := decide_eq_true c1
    rw [if_neg (by omega), if_neg (by omega)]
    go_enter Try.func53, Try.ntmps53
    go_wp2
    go_ret2
    exact ⟨rfl, rfl⟩
  · have g1 : decide (a < 1) = false := decide_eq_false c1
    by_cases c2 : l < a
    · have g2 : decide (l < a) = true := decide_eq_true c2
      rw [if_neg (by omega), if_neg (by omega)]
      go_enter Try.func53, Try.ntmps53
      go_wp2
      go_ret2
      exact ⟨rfl, rfl⟩
    · have g2 : decide (l < a) = false := decide_eq_false c2
      rw [if_pos (by omega), if_pos (by omega)]
      go_enter Try.func53, Try.ntmps53
      go_wp2
      go_ret2
      exact ⟨rfl, rfl⟩
theorem rwhich_any (a l : Int) (w : World) (l1 : l ≤ 9223372036854775807) :
    Calls Try.prog 54 #[.int .i64 a, .int .i64 l] w fun e w' => e = .returned (.tuple #[.int .i64 (wi a l), .int .i64 (wo a l)]) ∧ w = w' := by
  unfold wi wo
  by_cases c1 : a < 1
  · have g1 : decide (a < 1) = true := decide_eq_true c1
    rw [if_neg (by omega), if_neg (by omega)]
    go_enter Try.func54, Try.ntmps54
    go_wp2
    go_ret2
    exact ⟨rfl, rfl⟩
  · have g1 : decide (a < 1) = false := decide_eq_false c1
    by_cases c2 : l < a
    · have g2 : decide (l < a) = true := decide_eq_true c2
      rw [if_neg (by omega), if_neg (by omega)]
      go_enter Try.func54, Try.ntmps54
      go_wp2
      go_ret2
      exact ⟨rfl, rfl⟩
    · have g2 : decide (l < a) = false := decide_eq_false c2
      rw [if_pos (by omega), if_pos (by omega)]
      go_enter Try.func54, Try.ntmps54
      go_wp2
      go_ret2
      exact ⟨rfl, rfl⟩
theorem wi_bd (a l : Int) (h : l ≤ 400) : 0 ≤ wi a l ∧ wi a l ≤ 60 ∧ 0 ≤ wo a l ∧ wo a l ≤ 60 := by unfold wi wo; split <;> omega

/-- a day's shape, by its date and ordinal -/
def shA (n y m d o : Int) : Value := .agg #[.int .i64 n, .int .i64 y, .int .i64 m, .int .i64 d, .int .i64 (dim y m - d + 1), .int .i64 (wd n), .int .i64 (wi d (dim y m)), .int .i64 (wo d (dim y m)), .int .i64 (wi o (365 + lp y)), .int .i64 (wo o (365 + lp y))]

theorem below_set {w W : World} {k : Nat} {v : Value} (h : Below w.heap.size w W) : Below w.heap.size w (W.setCell ⟨w.heap.size, k, none⟩ v) := h.setCell (Nat.le_refl _) _
theorem below_one {w w1 : World} {o : Obj} (hb : Below (w.alloc o).heap.size (w.alloc o) w1) : Below w.heap.size w w1 :=
  ((Below.refl w.heap.size w).alloc (Nat.le_refl _) o).trans (hb.mono (by simp))

set_option maxHeartbeats 1000000 in
theorem shaped_any (n y m d o : Int) (w : World) (n1 : 0 ≤ n) (n2 : n ≤ 146096) (d1 : 1 ≤ d) (d2 : d ≤ 31) :
    Calls Try.prog 87 #[.int .i64 n, .int .i64 y, .int .i64 m, .int .i64 d, .int .i64 o] w (Kept (shA n y m d o) w) := by
  have db := dim_bd y m
  have wb := wi_bd d (dim y m) (by omega)
  unfold shA
  obtain ⟨D, hD⟩ : ∃ D, D = dim y m := ⟨_, rfl⟩
  rw [← hD] at db wb ⊢
  have HD := Lib.hid hD
  clear hD
  cases hB : lpB y
  all_goals
    first
      | (rw [lp_no hB, show (365 : Int) + 0 = 365 from rfl]; have yb := wi_bd o 365 (by omega))
      | (rw [lp_yes hB, show (365 : Int) + 1 = 366 from rfl]; have yb := wi_bd o 366 (by omega))
    have HB := Lib.hid hB
    clear hB
    go_enter Try.func87, Try.ntmps87
    go_wp2_with fail
    refine (length_any _ _ _).mono ?_
    rintro e w1 ⟨rfl, hb⟩
    rw [← HD.out]
    have HB1 := Lib.hid hb
    clear hb
    go_wp2_with fail
    refine (leap_any _ _).mono ?_
    rintro e w' ⟨rfl, rfl⟩
    rw [HB.out]
    go_wp2_with fail
    refine (wday_any _ _ (by omega) (by omega)).mono ?_
    rintro e w' ⟨rfl, rfl⟩
    go_wp2_with fail
    refine (which_any _ _ _ (by omega)).mono ?_
    rintro e w' ⟨rfl, rfl⟩
    go_wp2_with fail
    refine (which_any _ _ _ (by omega)).mono ?_
    rintro e w' ⟨rfl, rfl⟩
    obtain ⟨hc, hfz⟩ := bcell HB1.out
    have hz : w.heap.size < w1.heap.size := by have := HB1.out.size; simp at this; omega
    go_wp2
    exact bodyPost_ret (by simp [results, Try.results87, go_sem, hc, hfz, hz]) rfl ⟨rfl, by
      refine Below.alloc ?_ (by simp; omega) _
      (repeat (with_reducible apply below_set))
      exact below_one HB1.out⟩
end Go.Proofs.Ytnoomlakgfdaeaa
