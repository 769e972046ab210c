/- The walk of ferialaw08.MomentRises. -/
import Derived.Test.YtnoomlakgfdaeaaMomL
namespace Go.Proofs.Ytnoomlakgfdaeaa
open Go.RowKit

set_option maxHeartbeats 2000000 in
theorem MomentRises_in (t u : Int) (w : World) (ht : inW t = true) (hu : inW u = true) : Calls Try.prog 9 #[.int .i64 t, .int .i64 u] w (Kept (.bool true) w) := by
  obtain ⟨a, ha⟩ : ∃ a, a = lngT t := ⟨_, rfl⟩
  obtain ⟨b, hb⟩ : ∃ b, b = lngT u := ⟨_, rfl⟩
  obtain ⟨c, hc⟩ : ∃ c, c = basT t := ⟨_, rfl⟩
  obtain ⟨d, hd⟩ : ∃ d, d = basT u := ⟨_, rfl⟩
  have l1 := lng_less t u ht hu
  have l2 := bas_less t u ht hu
  rw [← ha, ← hb] at l1
  rw [← hc, ← hd] at l2
  have HT := Lib.hid ht
  have HU := Lib.hid hu
  have HA := Lib.hid ha
  have HB := Lib.hid hb
  have HC := Lib.hid hc
  have HD := Lib.hid hd
  clear ht hu ha hb hc hd
  go_enter Try.func9, Try.ntmps9
  go_wp2_with fail
  refine (rmin_any _ _).mono ?_
  rintro e w' ⟨rfl, rfl⟩
  rw [HT.out]
  go_wp2_with fail
  refine (rmin_any _ _).mono ?_
  rintro e w' ⟨rfl, rfl⟩
  rw [HU.out]
  go_wp2_with fail
  refine (long_yes _ _ HT.out).mono ?_
  rintro e w1 ⟨rfl, hb⟩
  rw [← HA.out]
  have HB1 := Lib.hid hb
  clear hb
  go_wp2_with fail
  refine (long_yes _ _ HU.out).mono ?_
  rintro e w2 ⟨rfl, hb⟩
  rw [← HB.out]
  have HB2 := Lib.hid (below_on HB1.out hb)
  clear hb
  go_wp2_with fail
  refine (basic_yes _ _ HT.out).mono ?_
  rintro e w3 ⟨rfl, hb⟩
  rw [← HC.out]
  have HB3 := Lib.hid (below_on HB2.out hb)
  clear hb
  go_wp2_with fail
  refine (basic_yes _ _ HU.out).mono ?_
  rintro e w4 ⟨rfl, hb⟩
  rw [← HD.out]
  have HB4 := Lib.hid (below_on HB3.out hb)
  clear hb
  go_wp2_with fail
  refine (moment_lives _).mono ?_
  rintro e w5 ⟨rfl, hb⟩
  have HB5 := Lib.hid (below_on HB4.out hb)
  clear hb
  go_wp2
  go_ret
  exact ⟨rfl, HB5.out⟩

theorem MomentRises_walk (t u : Int) (w : World) (ht : (Lit.int .i64 t).wf = true) (hu : (Lit.int .i64 u).wf = true) : Calls Try.prog 9 #[.int .i64 t, .int .i64 u] w (Kept (.bool true) w) := by
  clear ht hu
  cases h1 : inW t
  · have HT := Lib.hid h1
    clear h1
    go_enter Try.func9, Try.ntmps9
    go_wp2_with fail
    refine (rmin_any _ _).mono ?_
    rintro e w' ⟨rfl, rfl⟩
    rw [HT.out]
    go_wp2_with fail
    refine (moment_lives _).mono ?_
    rintro e w5 ⟨rfl, hb⟩
    have HB5 := Lib.hid hb
    clear hb
    go_wp2
    go_ret
    exact ⟨rfl, HB5.out⟩
  · cases h2 : inW u
    · have HT := Lib.hid h1
      have HU := Lib.hid h2
      clear h1 h2
      go_enter Try.func9, Try.ntmps9
      go_wp2_with fail
      refine (rmin_any _ _).mono ?_
      rintro e w' ⟨rfl, rfl⟩
      rw [HT.out]
      go_wp2_with fail
      refine (rmin_any _ _).mono ?_
      rintro e w' ⟨rfl, rfl⟩
      rw [HU.out]
      go_wp2_with fail
      refine (moment_lives _).mono ?_
      rintro e w5 ⟨rfl, hb⟩
      have HB5 := Lib.hid hb
      clear hb
      go_wp2
      go_ret
      exact ⟨rfl, HB5.out⟩
    · exact MomentRises_in t u w h1 h2
end Go.Proofs.Ytnoomlakgfdaeaa
