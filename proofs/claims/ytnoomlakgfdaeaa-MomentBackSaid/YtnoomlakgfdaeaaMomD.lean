/- The walk of ferialaw08.MomentSplits. -/
import Derived.Test.YtnoomlakgfdaeaaMomC
namespace Go.Proofs.Ytnoomlakgfdaeaa
open Go.RowKit

theorem jo2_ways (d s : Int) : (decide (0 ≤ d) = false ∧ joB d s = false) ∨ (decide (0 ≤ d) = true ∧ decide (d < 146097) = false ∧ joB d s = false) ∨ (decide (0 ≤ d) = true ∧ decide (d < 146097) = true ∧ decide (0 ≤ s) = false ∧ joB d s = false) ∨
    (decide (0 ≤ d) = true ∧ decide (d < 146097) = true ∧ decide (0 ≤ s) = true ∧ decide (s < 86400) = false ∧ joB d s = false) ∨ (decide (0 ≤ d) = true ∧ decide (d < 146097) = true ∧ decide (0 ≤ s) = true ∧ decide (s < 86400) = true ∧ joB d s = true) := by
  unfold joB
  simp only [decide_eq_true_eq, decide_eq_false_iff_not]
  omega

/-- what an instant's day and second answer -/
def splV (t : Int) : Value := if inW t then .tuple #[.int .i64 (t / 86400), .int .i64 (t % 86400), .bool true] else .tuple #[.int .i64 0, .int .i64 0, .bool false]

set_option maxHeartbeats 4000000 in
theorem splits_tail (t d s : Int) (w : World) (hi : inW t = true) : Calls Try.prog 13 #[.int .i64 t, .int .i64 d, .int .i64 s] w (Kept (.bool true) w) := by
  obtain ⟨t0, t1⟩ := of_decide_eq_true hi
  have HI := Lib.hid hi
  clear hi
  have HE : Hid (d * 86400 + s = 86400 * d + s) := Lib.hid (by omega)
  rcases jo2_ways d s with ⟨c1, c⟩ | ⟨c1, c2, c⟩ | ⟨c1, c2, c3, c⟩ | ⟨c1, c2, c3, c4, c⟩ | ⟨c1, c2, c3, c4, c⟩
  all_goals
    have HJ := Lib.hid c
    try (have jb := of_decide_eq_true c)
    clear c
    go_enter Try.func13, Try.ntmps13
    go_wp2_with fail
    refine (rmin_any _ _).mono ?_
    rintro e w' ⟨rfl, rfl⟩
    rw [HI.out]
    go_wp2_with fail
    refine (split_yes _ _ HI.out).mono ?_
    rintro e w' ⟨rfl, rfl⟩
    go_wp2_with fail
    refine (min_any _ _).mono ?_
    rintro e w' ⟨rfl, rfl⟩
    rw [HI.out]
    go_wp2_with fail
    first
      | (with_reducible refine (join_no _ _ _ HJ.out).mono ?_
         rintro e w' ⟨rfl, rfl⟩)
      | (refine (join_yes _ _ _ HJ.out).mono ?_
         rintro e w' ⟨rfl, rfl⟩
         rw [HE.out])
    go_wp2_with fail
    refine (moment_lives _).mono ?_
    rintro e w2 ⟨rfl, hb⟩
    have HB := Lib.hid hb
    clear hb
    go_wp2
    go_ret
    exact ⟨rfl, HB.out⟩

set_option maxHeartbeats 4000000 in
theorem splits_out (t d s : Int) (w : World) (hi : inW t = false) : Calls Try.prog 13 #[.int .i64 t, .int .i64 d, .int .i64 s] w (Kept (.bool true) w) := by
  have HI := Lib.hid hi
  clear hi
  have HE : Hid (d * 86400 + s = 86400 * d + s) := Lib.hid (by omega)
  rcases jo2_ways d s with ⟨c1, c⟩ | ⟨c1, c2, c⟩ | ⟨c1, c2, c3, c⟩ | ⟨c1, c2, c3, c4, c⟩ | ⟨c1, c2, c3, c4, c⟩
  all_goals
    have HJ := Lib.hid c
    try (have jb := of_decide_eq_true c)
    clear c
    go_enter Try.func13, Try.ntmps13
    go_wp2_with fail
    refine (rmin_any _ _).mono ?_
    rintro e w' ⟨rfl, rfl⟩
    rw [HI.out]
    go_wp2_with fail
    refine (split_no _ _ HI.out).mono ?_
    rintro e w' ⟨rfl, rfl⟩
    go_wp2_with fail
    refine (min_any _ _).mono ?_
    rintro e w' ⟨rfl, rfl⟩
    rw [HI.out]
    go_wp2_with fail
    first
      | (with_reducible refine (join_no _ _ _ HJ.out).mono ?_
         rintro e w' ⟨rfl, rfl⟩)
      | (refine (join_yes _ _ _ HJ.out).mono ?_
         rintro e w' ⟨rfl, rfl⟩
         rw [HE.out])
    go_wp2_with fail
    refine (moment_lives _).mono ?_
    rintro e w2 ⟨rfl, hb⟩
    have HB := Lib.hid hb
    clear hb
    go_wp2
    go_ret
    exact ⟨rfl, HB.out⟩

theorem MomentSplits_walk (t d s : Int) (w : World) (ht : (Lit.int .i64 t).wf = true) (hd : (Lit.int .i64 d).wf = true) (hs : (Lit.int .i64 s).wf = true) :
    Calls Try.prog 13 #[.int .i64 t, .int .i64 d, .int .i64 s] w (Kept (.bool true) w) := by
  cases h : inW t
  · exact splits_out t d s w h
  · exact splits_tail t d s w h
end Go.Proofs.Ytnoomlakgfdaeaa
