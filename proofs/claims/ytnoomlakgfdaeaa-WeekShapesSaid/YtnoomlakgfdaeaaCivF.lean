/- The walks of ferialaw05.CivilNumbers, CivilDates. -/
import Derived.Test.YtnoomlakgfdaeaaCivE
namespace Go.Proofs.Ytnoomlakgfdaeaa
open Go.RowKit

set_option maxHeartbeats 2000000 in
theorem CivilNumbers_walk (y m d : Int) (w : World) (hy : (Lit.int .i64 y).wf = true) (hm : (Lit.int .i64 m).wf = true) (hd : (Lit.int .i64 d).wf = true) :
    Calls Try.prog 4 #[.int .i64 y, .int .i64 m, .int .i64 d] w (Kept (.bool true) w) := by
  clear hy hm hd
  obtain ⟨L, hL⟩ : ∃ L, L = lpB y := ⟨_, rfl⟩
  obtain ⟨D, hD⟩ : ∃ D, D = dim y m := ⟨_, rfl⟩
  have HL := Lib.hid hL
  have HD := Lib.hid hD
  clear hL hD
  cases h : mayB y m d
  · have H := Lib.hid h
    clear h
    go_enter Try.func4, Try.ntmps4
    go_wp2_with fail
    refine (number_no _ _ _ _ H.out).mono ?_
    rintro e w1 ⟨rfl, hb⟩
    have HB1 := Lib.hid hb
    clear hb
    go_wp2_with fail
    refine (ordinal_no _ _ _ _ H.out).mono ?_
    rintro e w2 ⟨rfl, hb⟩
    have HB2 := Lib.hid (below_on HB1.out hb)
    clear hb
    go_wp2_with fail
    refine (leap_any _ _).mono ?_
    rintro e w' ⟨rfl, rfl⟩
    rw [← HL.out]
    go_wp2_with fail
    refine (rleap_any _ _).mono ?_
    rintro e w' ⟨rfl, rfl⟩
    rw [← HL.out]
    go_wp2_with fail
    refine (length_any _ _ _).mono ?_
    rintro e w3 ⟨rfl, hb⟩
    rw [← HD.out]
    have HB3 := Lib.hid (below_on HB2.out hb)
    clear hb
    go_wp2_with fail
    refine (rlength_any _ _ _).mono ?_
    rintro e w' ⟨rfl, rfl⟩
    rw [← HD.out]
    go_wp2_with fail
    refine (rmay_any _ _ _ _).mono ?_
    rintro e w' ⟨rfl, rfl⟩
    rw [H.out]
    go_wp2_with fail
    refine (civil_lives _).mono ?_
    rintro e w4 ⟨rfl, hb⟩
    have HB4 := Lib.hid (below_on HB3.out hb)
    clear hb
    go_wp2
    go_ret
    exact ⟨rfl, HB4.out⟩
  · obtain ⟨⟨m1, m2, d1, d2⟩, y1, y2⟩ := may_ok h
    have db := dim_bd y m
    obtain ⟨N, hN⟩ : ∃ N, N = num y m d := ⟨_, rfl⟩
    obtain ⟨O, hO⟩ : ∃ O, O = cum y m + d := ⟨_, rfl⟩
    have HN := Lib.hid hN
    have HO := Lib.hid hO
    have H := Lib.hid h
    clear h hN hO
    go_enter Try.func4, Try.ntmps4
    go_wp2_with fail
    refine (number_yes _ _ _ _ H.out).mono ?_
    rintro e w1 ⟨rfl, hb⟩
    rw [← HN.out]
    have HB1 := Lib.hid hb
    clear hb
    go_wp2_with fail
    refine (ordinal_yes _ _ _ _ H.out).mono ?_
    rintro e w2 ⟨rfl, hb⟩
    rw [← HO.out]
    have HB2 := Lib.hid (below_on HB1.out hb)
    clear hb
    go_wp2_with fail
    refine (leap_any _ _).mono ?_
    rintro e w' ⟨rfl, rfl⟩
    rw [← HL.out]
    go_wp2_with fail
    refine (rleap_any _ _).mono ?_
    rintro e w' ⟨rfl, rfl⟩
    rw [← HL.out]
    go_wp2_with fail
    refine (length_any _ _ _).mono ?_
    rintro e w3 ⟨rfl, hb⟩
    rw [← HD.out]
    have HB3 := Lib.hid (below_on HB2.out hb)
    clear hb
    go_wp2_with fail
    refine (rlength_any _ _ _).mono ?_
    rintro e w' ⟨rfl, rfl⟩
    rw [← HD.out]
    go_wp2_with fail
    refine (rmay_any _ _ _ _).mono ?_
    rintro e w' ⟨rfl, rfl⟩
    rw [H.out]
    go_wp2_with fail
    refine (rnumber_any _ _ _ _ H.out).mono ?_
    rintro e w' ⟨rfl, rfl⟩
    rw [← HN.out]
    go_wp2_with fail
    refine (rordinal_any _ _ _ _ m1 m2 d1 (by omega)).mono ?_
    rintro e w' ⟨rfl, rfl⟩
    rw [← HO.out]
    go_wp2_with fail
    refine (civil_lives _).mono ?_
    rintro e w4 ⟨rfl, hb⟩
    have HB4 := Lib.hid (below_on HB3.out hb)
    clear hb
    go_wp2
    go_ret
    exact ⟨rfl, HB4.out⟩

theorem dateV_form (n : Int) : ∃ a b c : Int, ∃ o : Bool, dateV n = .tuple #[.int .i64 a, .int .i64 b, .int .i64 c, .bool o] := by
  cases h : mayB (dY n) (dM n) (dD n)
  · exact ⟨_, _, _, _, dateV_no h⟩
  · exact ⟨_, _, _, _, dateV_yes h⟩

set_option maxHeartbeats 2000000 in
theorem CivilDates_walk (n : Int) (w : World) (hn : (Lit.int .i64 n).wf = true) :
    Calls Try.prog 7 #[.int .i64 n] w (Kept (.bool true) w) := by
  obtain ⟨n0, n1⟩ := i64_bd hn
  clear hn
  obtain ⟨a, b, c, o, hV⟩ := dateV_form n
  obtain ⟨F, hF⟩ : ∃ F, F = flo n 146097 := ⟨_, rfl⟩
  obtain ⟨M, hM⟩ : ∃ M, M = mo n 146097 := ⟨_, rfl⟩
  have HV := Lib.hid hV
  have HF := Lib.hid hF
  have HM := Lib.hid hM
  clear hV hF hM
  go_enter Try.func7, Try.ntmps7
  go_wp2_with fail
  refine (date_any _ _ n0 n1).mono ?_
  rintro e w1 ⟨rfl, hb⟩
  rw [HV.out]
  have HB1 := Lib.hid hb
  clear hb
  go_wp2_with fail
  refine (rdate_any _ _ n0 n1).mono ?_
  rintro e w' ⟨rfl, rfl⟩
  rw [HV.out]
  go_wp2_with fail
  refine (cycle_any _ _ n0 n1).mono ?_
  rintro e w' ⟨rfl, rfl⟩
  rw [← HF.out, ← HM.out]
  go_wp2_with fail
  refine (rfloor_any _ _ _ n0 n1 (by omega) (by omega)).mono ?_
  rintro e w' ⟨rfl, rfl⟩
  rw [← HF.out]
  go_wp2_with fail
  refine (rmod_any _ _ _ n0 n1 (by omega) (by omega)).mono ?_
  rintro e w' ⟨rfl, rfl⟩
  rw [← HM.out]
  go_wp2_with fail
  refine (civil_lives _).mono ?_
  rintro e w4 ⟨rfl, hb⟩
  have HB4 := Lib.hid (below_on HB1.out hb)
  clear hb
  go_wp2
  go_ret
  exact ⟨rfl, HB4.out⟩
end Go.Proofs.Ytnoomlakgfdaeaa
