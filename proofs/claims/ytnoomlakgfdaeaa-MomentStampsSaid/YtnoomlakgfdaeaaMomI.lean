/- The walk of ferialaw08.MomentStamps. -/
import Derived.Test.YtnoomlakgfdaeaaMomH
import Derived.Test.YtnoomlakgfdaeaaMomD
namespace Go.Proofs.Ytnoomlakgfdaeaa
open Go.RowKit

theorem keepSS {w W w2 : World} {B X : Nat} {a b c d e f a' b' c' d' e' f' : Int} (hb : Below W.heap.size W w2)
    (h : (Below w.heap.size w W ∧ W.cell? ⟨B, 0, none⟩ = some (.int .i64 a) ∧ W.cell? ⟨B, 1, none⟩ = some (.int .i64 b) ∧ W.cell? ⟨B, 2, none⟩ = some (.int .i64 c) ∧ W.cell? ⟨B, 3, none⟩ = some (.int .i64 d) ∧ W.cell? ⟨B, 4, none⟩ = some (.int .i64 e) ∧ W.cell? ⟨B, 5, none⟩ = some (.int .i64 f)) ∧
      (Below w.heap.size w W ∧ W.cell? ⟨X, 0, none⟩ = some (.int .i64 a') ∧ W.cell? ⟨X, 1, none⟩ = some (.int .i64 b') ∧ W.cell? ⟨X, 2, none⟩ = some (.int .i64 c') ∧ W.cell? ⟨X, 3, none⟩ = some (.int .i64 d') ∧ W.cell? ⟨X, 4, none⟩ = some (.int .i64 e') ∧ W.cell? ⟨X, 5, none⟩ = some (.int .i64 f'))) :
    (Below w.heap.size w w2 ∧ w2.cell? ⟨B, 0, none⟩ = some (.int .i64 a) ∧ w2.cell? ⟨B, 1, none⟩ = some (.int .i64 b) ∧ w2.cell? ⟨B, 2, none⟩ = some (.int .i64 c) ∧ w2.cell? ⟨B, 3, none⟩ = some (.int .i64 d) ∧ w2.cell? ⟨B, 4, none⟩ = some (.int .i64 e) ∧ w2.cell? ⟨B, 5, none⟩ = some (.int .i64 f)) ∧
      (Below w.heap.size w w2 ∧ w2.cell? ⟨X, 0, none⟩ = some (.int .i64 a') ∧ w2.cell? ⟨X, 1, none⟩ = some (.int .i64 b') ∧ w2.cell? ⟨X, 2, none⟩ = some (.int .i64 c') ∧ w2.cell? ⟨X, 3, none⟩ = some (.int .i64 d') ∧ w2.cell? ⟨X, 4, none⟩ = some (.int .i64 e') ∧ w2.cell? ⟨X, 5, none⟩ = some (.int .i64 f')) :=
  ⟨keepS hb h.1, keepS hb h.2⟩


theorem ofI_bd {y m d h mi s : Int} (hB : ofB y m d h mi s = true) : 0 ≤ ofI y m d h mi s := by
  unfold ofB at hB
  simp only [Bool.and_eq_true] at hB
  obtain ⟨_, _, q3⟩ := hB
  obtain ⟨q4, _, q6, _⟩ := of_decide_eq_true q3
  unfold ofI
  omega

set_option maxRecDepth 100000 in
set_option maxHeartbeats 8000000 in
theorem stamps_11 (t y m d h mi s : Int) (w : World) (hi : inW t = true) (hB : ofB y m d h mi s = true) :
    Calls Try.prog 16 #[.int .i64 t, .agg #[.int .i64 y, .int .i64 m, .int .i64 d, .int .i64 h, .int .i64 mi, .int .i64 s]] w (Kept (.bool true) w) := by
  have hI : decide (0 ≤ ofI y m d h mi s) = true := decide_eq_true (ofI_bd hB)
  obtain ⟨I, hII⟩ : ∃ x, x = ofI y m d h mi s := ⟨_, rfl⟩
  have hv : ofV y m d h mi s = .tuple #[.int .i64 I, .bool true] := by unfold ofV; rw [if_pos hB, ← hII]
  have hr : (if ofB y m d h mi s then ofI y m d h mi s else -1) = I := by rw [if_pos hB, hII]
  rw [← hII] at hI
  clear hII
  have HV := Lib.hid hv
  have HR := Lib.hid hr
  have HI := Lib.hid hi
  clear hv hr hi hB
  have hst : stV t = stA (dY (t / 86400)) (dM (t / 86400)) (dD (t / 86400)) (t % 86400 / 3600) (t % 86400 / 60 % 60) (t % 86400 % 60) := rfl
  obtain ⟨x0, hx0⟩ : ∃ x, x = dY (t / 86400) := ⟨_, rfl⟩
  obtain ⟨x1, hx1⟩ : ∃ x, x = dM (t / 86400) := ⟨_, rfl⟩
  obtain ⟨x2, hx2⟩ : ∃ x, x = dD (t / 86400) := ⟨_, rfl⟩
  obtain ⟨x3, hx3⟩ : ∃ x, x = t % 86400 / 3600 := ⟨_, rfl⟩
  obtain ⟨x4, hx4⟩ : ∃ x, x = t % 86400 / 60 % 60 := ⟨_, rfl⟩
  obtain ⟨x5, hx5⟩ : ∃ x, x = t % 86400 % 60 := ⟨_, rfl⟩
  rw [← hx0, ← hx1, ← hx2, ← hx3, ← hx4, ← hx5] at hst
  obtain ⟨lt, hlt⟩ : ∃ x, x = lngT t := ⟨_, rfl⟩
  obtain ⟨bt', hbt⟩ : ∃ x, x = basT t := ⟨_, rfl⟩
  have HST := Lib.hid hst
  have HLT := Lib.hid hlt
  have HBT := Lib.hid hbt
  clear hst hlt hbt hx0 hx1 hx2 hx3 hx4 hx5
  go_enter Try.func16, Try.ntmps16
  go_wp2_with fail
  refine (stamp_yes _ _ HI.out).mono ?_
  rintro e w1 ⟨rfl, hb⟩
  rw [HST.out]
  unfold stA
  have q0 : w1.cell? ⟨w.heap.size, 0, none⟩ = some (.int .i64 y) := mkept hb 0 rfl
  have q1 : w1.cell? ⟨w.heap.size, 1, none⟩ = some (.int .i64 m) := mkept hb 1 rfl
  have q2 : w1.cell? ⟨w.heap.size, 2, none⟩ = some (.int .i64 d) := mkept hb 2 rfl
  have q3 : w1.cell? ⟨w.heap.size, 3, none⟩ = some (.int .i64 h) := mkept hb 3 rfl
  have q4 : w1.cell? ⟨w.heap.size, 4, none⟩ = some (.int .i64 mi) := mkept hb 4 rfl
  have q5 : w1.cell? ⟨w.heap.size, 5, none⟩ = some (.int .i64 s) := mkept hb 5 rfl
  have hz : w.heap.size < w1.heap.size := by have := hb.size; simp at this; omega
  have HB := Lib.hid (bel_one hb)
  clear hb
  go_wp2_with fail
  refine (rmin_any _ _).mono ?_
  rintro e w' ⟨rfl, rfl⟩
  rw [HI.out]
  go_wp2_with fail
  have hS : Below w.heap.size w (w1.alloc (.cells #[.int .i64 x0, .int .i64 x1, .int .i64 x2, .int .i64 x3, .int .i64 x4, .int .i64 x5] 29)).drew := (HB.out.alloc HB.out.size _).drew
  have HS := Lib.hid hS
  clear hS
  go_region_held3 (fun w' => (Below w.heap.size w w' ∧ w'.cell? ⟨w1.heap.size, 0, none⟩ = some (.int .i64 x0) ∧ w'.cell? ⟨w1.heap.size, 1, none⟩ = some (.int .i64 x1) ∧ w'.cell? ⟨w1.heap.size, 2, none⟩ = some (.int .i64 x2) ∧ w'.cell? ⟨w1.heap.size, 3, none⟩ = some (.int .i64 x3) ∧ w'.cell? ⟨w1.heap.size, 4, none⟩ = some (.int .i64 x4) ∧ w'.cell? ⟨w1.heap.size, 5, none⟩ = some (.int .i64 x5)) ∧ (Below w.heap.size w w' ∧ w'.cell? ⟨w.heap.size, 0, none⟩ = some (.int .i64 y) ∧ w'.cell? ⟨w.heap.size, 1, none⟩ = some (.int .i64 m) ∧ w'.cell? ⟨w.heap.size, 2, none⟩ = some (.int .i64 d) ∧ w'.cell? ⟨w.heap.size, 3, none⟩ = some (.int .i64 h) ∧ w'.cell? ⟨w.heap.size, 4, none⟩ = some (.int .i64 mi) ∧ w'.cell? ⟨w.heap.size, 5, none⟩ = some (.int .i64 s)))
    (first | exact ⟨⟨HS.out, by go_simp, by go_simp, by go_simp, by go_simp, by go_simp, by go_simp⟩, ⟨HS.out, by go_simp, by go_simp, by go_simp, by go_simp, by go_simp, by go_simp⟩⟩ | exact keepSS hb2 (by assumption))
    (first
      | (go_at_call 68; refine (rstamp_any _ _ HI.out).mono ?_; rintro e w2 ⟨rfl, hb2⟩; rw [HST.out]; unfold stA)
      | (go_at_call 27; refine (long_yes _ _ HI.out).mono ?_; rintro e w2 ⟨rfl, hb2⟩; rw [← HLT.out])
      | (go_at_call 69; refine (rlong_any _ _ HI.out).mono ?_; rintro e w2 ⟨rfl, hb2⟩; rw [← HLT.out])
      | (go_at_call 26; refine (basic_yes _ _ HI.out).mono ?_; rintro e w2 ⟨rfl, hb2⟩; rw [← HBT.out])
      | (go_at_call 70; refine (rbasic_any _ _ HI.out).mono ?_; rintro e w2 ⟨rfl, hb2⟩; rw [← HBT.out]))
  rename_i hh
  obtain ⟨_, hb2', n0, n1, n2, n3, n4, n5⟩ := hh
  have HB2 := Lib.hid hb2'
  clear hb2 hb2' q0 q1 q2 q3 q4 q5 HS
  have q0 := n0
  have q1 := n1
  have q2 := n2
  have q3 := n3
  have q4 := n4
  have q5 := n5
  clear n0 n1 n2 n3 n4 n5
  go_wp2_with fail
  refine (mof_any _ _ _ _ _ _ _).mono ?_
  rintro e w3 ⟨rfl, hb⟩
  rw [HV.out]
  have p0 : w3.cell? ⟨w.heap.size, 0, none⟩ = some (.int .i64 y) := (hb.cell (World.block_lt_of_cell? _ _ q0)).trans q0
  have p1 : w3.cell? ⟨w.heap.size, 1, none⟩ = some (.int .i64 m) := (hb.cell (World.block_lt_of_cell? _ _ q1)).trans q1
  have p2 : w3.cell? ⟨w.heap.size, 2, none⟩ = some (.int .i64 d) := (hb.cell (World.block_lt_of_cell? _ _ q2)).trans q2
  have p3 : w3.cell? ⟨w.heap.size, 3, none⟩ = some (.int .i64 h) := (hb.cell (World.block_lt_of_cell? _ _ q3)).trans q3
  have p4 : w3.cell? ⟨w.heap.size, 4, none⟩ = some (.int .i64 mi) := (hb.cell (World.block_lt_of_cell? _ _ q4)).trans q4
  have p5 : w3.cell? ⟨w.heap.size, 5, none⟩ = some (.int .i64 s) := (hb.cell (World.block_lt_of_cell? _ _ q5)).trans q5
  have HB3 := Lib.hid (below_on HB2.out hb)
  clear hb q0 q1 q2 q3 q4 q5
  go_wp2_with fail
  refine (rof_any _ _ _ _ _ _ _).mono ?_
  rintro e w4 ⟨rfl, hb⟩
  rw [HR.out]
  have HB4 := Lib.hid (below_on HB3.out hb)
  clear hb p0 p1 p2 p3 p4 p5
  go_wp2_with fail
  refine (moment_lives _).mono ?_
  rintro e w5 ⟨rfl, hb⟩
  have HB5 := Lib.hid (below_on HB4.out hb)
  clear hb
  go_wp2
  go_ret
  exact ⟨rfl, HB5.out⟩

set_option maxRecDepth 100000 in
set_option maxHeartbeats 8000000 in
theorem stamps_10 (t y m d h mi s : Int) (w : World) (hi : inW t = true) (hB : ofB y m d h mi s = false) :
    Calls Try.prog 16 #[.int .i64 t, .agg #[.int .i64 y, .int .i64 m, .int .i64 d, .int .i64 h, .int .i64 mi, .int .i64 s]] w (Kept (.bool true) w) := by
  have hv : ofV y m d h mi s = .tuple #[.int .i64 0, .bool false] := by unfold ofV; rw [hB]; rfl
  have hr : (if ofB y m d h mi s then ofI y m d h mi s else -1) = -1 := by rw [hB]; rfl
  have HV := Lib.hid hv
  have HR := Lib.hid hr
  have HI := Lib.hid hi
  clear hv hr hi hB
  have hst : stV t = stA (dY (t / 86400)) (dM (t / 86400)) (dD (t / 86400)) (t % 86400 / 3600) (t % 86400 / 60 % 60) (t % 86400 % 60) := rfl
  obtain ⟨x0, hx0⟩ : ∃ x, x = dY (t / 86400) := ⟨_, rfl⟩
  obtain ⟨x1, hx1⟩ : ∃ x, x = dM (t / 86400) := ⟨_, rfl⟩
  obtain ⟨x2, hx2⟩ : ∃ x, x = dD (t / 86400) := ⟨_, rfl⟩
  obtain ⟨x3, hx3⟩ : ∃ x, x = t % 86400 / 3600 := ⟨_, rfl⟩
  obtain ⟨x4, hx4⟩ : ∃ x, x = t % 86400 / 60 % 60 := ⟨_, rfl⟩
  obtain ⟨x5, hx5⟩ : ∃ x, x = t % 86400 % 60 := ⟨_, rfl⟩
  rw [← hx0, ← hx1, ← hx2, ← hx3, ← hx4, ← hx5] at hst
  obtain ⟨lt, hlt⟩ : ∃ x, x = lngT t := ⟨_, rfl⟩
  obtain ⟨bt', hbt⟩ : ∃ x, x = basT t := ⟨_, rfl⟩
  have HST := Lib.hid hst
  have HLT := Lib.hid hlt
  have HBT := Lib.hid hbt
  clear hst hlt hbt hx0 hx1 hx2 hx3 hx4 hx5
  go_enter Try.func16, Try.ntmps16
  go_wp2_with fail
  refine (stamp_yes _ _ HI.out).mono ?_
  rintro e w1 ⟨rfl, hb⟩
  rw [HST.out]
  unfold stA
  have q0 : w1.cell? ⟨w.heap.size, 0, none⟩ = some (.int .i64 y) := mkept hb 0 rfl
  have q1 : w1.cell? ⟨w.heap.size, 1, none⟩ = some (.int .i64 m) := mkept hb 1 rfl
  have q2 : w1.cell? ⟨w.heap.size, 2, none⟩ = some (.int .i64 d) := mkept hb 2 rfl
  have q3 : w1.cell? ⟨w.heap.size, 3, none⟩ = some (.int .i64 h) := mkept hb 3 rfl
  have q4 : w1.cell? ⟨w.heap.size, 4, none⟩ = some (.int .i64 mi) := mkept hb 4 rfl
  have q5 : w1.cell? ⟨w.heap.size, 5, none⟩ = some (.int .i64 s) := mkept hb 5 rfl
  have hz : w.heap.size < w1.heap.size := by have := hb.size; simp at this; omega
  have HB := Lib.hid (bel_one hb)
  clear hb
  go_wp2_with fail
  refine (rmin_any _ _).mono ?_
  rintro e w' ⟨rfl, rfl⟩
  rw [HI.out]
  go_wp2_with fail
  have hS : Below w.heap.size w (w1.alloc (.cells #[.int .i64 x0, .int .i64 x1, .int .i64 x2, .int .i64 x3, .int .i64 x4, .int .i64 x5] 29)).drew := (HB.out.alloc HB.out.size _).drew
  have HS := Lib.hid hS
  clear hS
  go_region_held3 (fun w' => (Below w.heap.size w w' ∧ w'.cell? ⟨w1.heap.size, 0, none⟩ = some (.int .i64 x0) ∧ w'.cell? ⟨w1.heap.size, 1, none⟩ = some (.int .i64 x1) ∧ w'.cell? ⟨w1.heap.size, 2, none⟩ = some (.int .i64 x2) ∧ w'.cell? ⟨w1.heap.size, 3, none⟩ = some (.int .i64 x3) ∧ w'.cell? ⟨w1.heap.size, 4, none⟩ = some (.int .i64 x4) ∧ w'.cell? ⟨w1.heap.size, 5, none⟩ = some (.int .i64 x5)) ∧ (Below w.heap.size w w' ∧ w'.cell? ⟨w.heap.size, 0, none⟩ = some (.int .i64 y) ∧ w'.cell? ⟨w.heap.size, 1, none⟩ = some (.int .i64 m) ∧ w'.cell? ⟨w.heap.size, 2, none⟩ = some (.int .i64 d) ∧ w'.cell? ⟨w.heap.size, 3, none⟩ = some (.int .i64 h) ∧ w'.cell? ⟨w.heap.size, 4, none⟩ = some (.int .i64 mi) ∧ w'.cell? ⟨w.heap.size, 5, none⟩ = some (.int .i64 s)))
    (first | exact ⟨⟨HS.out, by go_simp, by go_simp, by go_simp, by go_simp, by go_simp, by go_simp⟩, ⟨HS.out, by go_simp, by go_simp, by go_simp, by go_simp, by go_simp, by go_simp⟩⟩ | exact keepSS hb2 (by assumption))
    (first
      | (go_at_call 68; refine (rstamp_any _ _ HI.out).mono ?_; rintro e w2 ⟨rfl, hb2⟩; rw [HST.out]; unfold stA)
      | (go_at_call 27; refine (long_yes _ _ HI.out).mono ?_; rintro e w2 ⟨rfl, hb2⟩; rw [← HLT.out])
      | (go_at_call 69; refine (rlong_any _ _ HI.out).mono ?_; rintro e w2 ⟨rfl, hb2⟩; rw [← HLT.out])
      | (go_at_call 26; refine (basic_yes _ _ HI.out).mono ?_; rintro e w2 ⟨rfl, hb2⟩; rw [← HBT.out])
      | (go_at_call 70; refine (rbasic_any _ _ HI.out).mono ?_; rintro e w2 ⟨rfl, hb2⟩; rw [← HBT.out]))
  rename_i hh
  obtain ⟨_, hb2', n0, n1, n2, n3, n4, n5⟩ := hh
  have HB2 := Lib.hid hb2'
  clear hb2 hb2' q0 q1 q2 q3 q4 q5 HS
  have q0 := n0
  have q1 := n1
  have q2 := n2
  have q3 := n3
  have q4 := n4
  have q5 := n5
  clear n0 n1 n2 n3 n4 n5
  go_wp2_with fail
  refine (mof_any _ _ _ _ _ _ _).mono ?_
  rintro e w3 ⟨rfl, hb⟩
  rw [HV.out]
  have p0 : w3.cell? ⟨w.heap.size, 0, none⟩ = some (.int .i64 y) := (hb.cell (World.block_lt_of_cell? _ _ q0)).trans q0
  have p1 : w3.cell? ⟨w.heap.size, 1, none⟩ = some (.int .i64 m) := (hb.cell (World.block_lt_of_cell? _ _ q1)).trans q1
  have p2 : w3.cell? ⟨w.heap.size, 2, none⟩ = some (.int .i64 d) := (hb.cell (World.block_lt_of_cell? _ _ q2)).trans q2
  have p3 : w3.cell? ⟨w.heap.size, 3, none⟩ = some (.int .i64 h) := (hb.cell (World.block_lt_of_cell? _ _ q3)).trans q3
  have p4 : w3.cell? ⟨w.heap.size, 4, none⟩ = some (.int .i64 mi) := (hb.cell (World.block_lt_of_cell? _ _ q4)).trans q4
  have p5 : w3.cell? ⟨w.heap.size, 5, none⟩ = some (.int .i64 s) := (hb.cell (World.block_lt_of_cell? _ _ q5)).trans q5
  have HB3 := Lib.hid (below_on HB2.out hb)
  clear hb q0 q1 q2 q3 q4 q5
  go_wp2_with fail
  refine (rof_any _ _ _ _ _ _ _).mono ?_
  rintro e w4 ⟨rfl, hb⟩
  rw [HR.out]
  have HB4 := Lib.hid (below_on HB3.out hb)
  clear hb p0 p1 p2 p3 p4 p5
  go_wp2_with fail
  refine (moment_lives _).mono ?_
  rintro e w5 ⟨rfl, hb⟩
  have HB5 := Lib.hid (below_on HB4.out hb)
  clear hb
  go_wp2
  go_ret
  exact ⟨rfl, HB5.out⟩

set_option maxRecDepth 100000 in
set_option maxHeartbeats 8000000 in
theorem stamps_01 (t y m d h mi s : Int) (w : World) (hi : inW t = false) (hB : ofB y m d h mi s = true) :
    Calls Try.prog 16 #[.int .i64 t, .agg #[.int .i64 y, .int .i64 m, .int .i64 d, .int .i64 h, .int .i64 mi, .int .i64 s]] w (Kept (.bool true) w) := by
  have hI : decide (0 ≤ ofI y m d h mi s) = true := decide_eq_true (ofI_bd hB)
  obtain ⟨I, hII⟩ : ∃ x, x = ofI y m d h mi s := ⟨_, rfl⟩
  have hv : ofV y m d h mi s = .tuple #[.int .i64 I, .bool true] := by unfold ofV; rw [if_pos hB, ← hII]
  have hr : (if ofB y m d h mi s then ofI y m d h mi s else -1) = I := by rw [if_pos hB, hII]
  rw [← hII] at hI
  clear hII
  have HV := Lib.hid hv
  have HR := Lib.hid hr
  have HI := Lib.hid hi
  clear hv hr hi hB
  go_enter Try.func16, Try.ntmps16
  go_wp2_with fail
  refine (stamp_no _ _ HI.out).mono ?_
  rintro e w1 ⟨rfl, hb⟩
  unfold stZ stA
  have q0 : w1.cell? ⟨w.heap.size, 0, none⟩ = some (.int .i64 y) := mkept hb 0 rfl
  have q1 : w1.cell? ⟨w.heap.size, 1, none⟩ = some (.int .i64 m) := mkept hb 1 rfl
  have q2 : w1.cell? ⟨w.heap.size, 2, none⟩ = some (.int .i64 d) := mkept hb 2 rfl
  have q3 : w1.cell? ⟨w.heap.size, 3, none⟩ = some (.int .i64 h) := mkept hb 3 rfl
  have q4 : w1.cell? ⟨w.heap.size, 4, none⟩ = some (.int .i64 mi) := mkept hb 4 rfl
  have q5 : w1.cell? ⟨w.heap.size, 5, none⟩ = some (.int .i64 s) := mkept hb 5 rfl
  have hz : w.heap.size < w1.heap.size := by have := hb.size; simp at this; omega
  have HB := Lib.hid (bel_one hb)
  clear hb
  go_wp2_with fail
  refine (rmin_any _ _).mono ?_
  rintro e w' ⟨rfl, rfl⟩
  rw [HI.out]
  go_wp2_with fail
  refine (long_no _ _ HI.out).mono ?_
  rintro e w2 ⟨rfl, hb⟩
  have r0 : w2.cell? ⟨w.heap.size, 0, none⟩ = some (.int .i64 y) := (hb.cell (p := ⟨w.heap.size, 0, none⟩) (by simp; omega)).trans (by go_simp)
  have r1 : w2.cell? ⟨w.heap.size, 1, none⟩ = some (.int .i64 m) := (hb.cell (p := ⟨w.heap.size, 1, none⟩) (by simp; omega)).trans (by go_simp)
  have r2 : w2.cell? ⟨w.heap.size, 2, none⟩ = some (.int .i64 d) := (hb.cell (p := ⟨w.heap.size, 2, none⟩) (by simp; omega)).trans (by go_simp)
  have r3 : w2.cell? ⟨w.heap.size, 3, none⟩ = some (.int .i64 h) := (hb.cell (p := ⟨w.heap.size, 3, none⟩) (by simp; omega)).trans (by go_simp)
  have r4 : w2.cell? ⟨w.heap.size, 4, none⟩ = some (.int .i64 mi) := (hb.cell (p := ⟨w.heap.size, 4, none⟩) (by simp; omega)).trans (by go_simp)
  have r5 : w2.cell? ⟨w.heap.size, 5, none⟩ = some (.int .i64 s) := (hb.cell (p := ⟨w.heap.size, 5, none⟩) (by simp; omega)).trans (by go_simp)
  have HB1 := Lib.hid (below_on (HB.out.alloc HB.out.size _) hb)
  clear hb q0 q1 q2 q3 q4 q5
  go_wp2_with fail
  refine (basic_no _ _ HI.out).mono ?_
  rintro e w2' ⟨rfl, hb⟩
  have q0 : w2'.cell? ⟨w.heap.size, 0, none⟩ = some (.int .i64 y) := (hb.cell (World.block_lt_of_cell? _ _ r0)).trans r0
  have q1 : w2'.cell? ⟨w.heap.size, 1, none⟩ = some (.int .i64 m) := (hb.cell (World.block_lt_of_cell? _ _ r1)).trans r1
  have q2 : w2'.cell? ⟨w.heap.size, 2, none⟩ = some (.int .i64 d) := (hb.cell (World.block_lt_of_cell? _ _ r2)).trans r2
  have q3 : w2'.cell? ⟨w.heap.size, 3, none⟩ = some (.int .i64 h) := (hb.cell (World.block_lt_of_cell? _ _ r3)).trans r3
  have q4 : w2'.cell? ⟨w.heap.size, 4, none⟩ = some (.int .i64 mi) := (hb.cell (World.block_lt_of_cell? _ _ r4)).trans r4
  have q5 : w2'.cell? ⟨w.heap.size, 5, none⟩ = some (.int .i64 s) := (hb.cell (World.block_lt_of_cell? _ _ r5)).trans r5
  have HB2 := Lib.hid (below_on HB1.out hb)
  clear hb r0 r1 r2 r3 r4 r5
  go_wp2_with fail
  refine (mof_any _ _ _ _ _ _ _).mono ?_
  rintro e w3 ⟨rfl, hb⟩
  rw [HV.out]
  have p0 : w3.cell? ⟨w.heap.size, 0, none⟩ = some (.int .i64 y) := (hb.cell (World.block_lt_of_cell? _ _ q0)).trans q0
  have p1 : w3.cell? ⟨w.heap.size, 1, none⟩ = some (.int .i64 m) := (hb.cell (World.block_lt_of_cell? _ _ q1)).trans q1
  have p2 : w3.cell? ⟨w.heap.size, 2, none⟩ = some (.int .i64 d) := (hb.cell (World.block_lt_of_cell? _ _ q2)).trans q2
  have p3 : w3.cell? ⟨w.heap.size, 3, none⟩ = some (.int .i64 h) := (hb.cell (World.block_lt_of_cell? _ _ q3)).trans q3
  have p4 : w3.cell? ⟨w.heap.size, 4, none⟩ = some (.int .i64 mi) := (hb.cell (World.block_lt_of_cell? _ _ q4)).trans q4
  have p5 : w3.cell? ⟨w.heap.size, 5, none⟩ = some (.int .i64 s) := (hb.cell (World.block_lt_of_cell? _ _ q5)).trans q5
  have HB3 := Lib.hid (below_on HB2.out hb)
  clear hb q0 q1 q2 q3 q4 q5
  go_wp2_with fail
  refine (rof_any _ _ _ _ _ _ _).mono ?_
  rintro e w4 ⟨rfl, hb⟩
  rw [HR.out]
  have HB4 := Lib.hid (below_on HB3.out hb)
  clear hb p0 p1 p2 p3 p4 p5
  go_wp2_with fail
  refine (moment_lives _).mono ?_
  rintro e w5 ⟨rfl, hb⟩
  have HB5 := Lib.hid (below_on HB4.out hb)
  clear hb
  go_wp2
  go_ret
  exact ⟨rfl, HB5.out⟩

set_option maxRecDepth 100000 in
set_option maxHeartbeats 8000000 in
theorem stamps_00 (t y m d h mi s : Int) (w : World) (hi : inW t = false) (hB : ofB y m d h mi s = false) :
    Calls Try.prog 16 #[.int .i64 t, .agg #[.int .i64 y, .int .i64 m, .int .i64 d, .int .i64 h, .int .i64 mi, .int .i64 s]] w (Kept (.bool true) w) := by
  have hv : ofV y m d h mi s = .tuple #[.int .i64 0, .bool false] := by unfold ofV; rw [hB]; rfl
  have hr : (if ofB y m d h mi s then ofI y m d h mi s else -1) = -1 := by rw [hB]; rfl
  have HV := Lib.hid hv
  have HR := Lib.hid hr
  have HI := Lib.hid hi
  clear hv hr hi hB
  go_enter Try.func16, Try.ntmps16
  go_wp2_with fail
  refine (stamp_no _ _ HI.out).mono ?_
  rintro e w1 ⟨rfl, hb⟩
  unfold stZ stA
  have q0 : w1.cell? ⟨w.heap.size, 0, none⟩ = some (.int .i64 y) := mkept hb 0 rfl
  have q1 : w1.cell? ⟨w.heap.size, 1, none⟩ = some (.int .i64 m) := mkept hb 1 rfl
  have q2 : w1.cell? ⟨w.heap.size, 2, none⟩ = some (.int .i64 d) := mkept hb 2 rfl
  have q3 : w1.cell? ⟨w.heap.size, 3, none⟩ = some (.int .i64 h) := mkept hb 3 rfl
  have q4 : w1.cell? ⟨w.heap.size, 4, none⟩ = some (.int .i64 mi) := mkept hb 4 rfl
  have q5 : w1.cell? ⟨w.heap.size, 5, none⟩ = some (.int .i64 s) := mkept hb 5 rfl
  have hz : w.heap.size < w1.heap.size := by have := hb.size; simp at this; omega
  have HB := Lib.hid (bel_one hb)
  clear hb
  go_wp2_with fail
  refine (rmin_any _ _).mono ?_
  rintro e w' ⟨rfl, rfl⟩
  rw [HI.out]
  go_wp2_with fail
  refine (long_no _ _ HI.out).mono ?_
  rintro e w2 ⟨rfl, hb⟩
  have r0 : w2.cell? ⟨w.heap.size, 0, none⟩ = some (.int .i64 y) := (hb.cell (p := ⟨w.heap.size, 0, none⟩) (by simp; omega)).trans (by go_simp)
  have r1 : w2.cell? ⟨w.heap.size, 1, none⟩ = some (.int .i64 m) := (hb.cell (p := ⟨w.heap.size, 1, none⟩) (by simp; omega)).trans (by go_simp)
  have r2 : w2.cell? ⟨w.heap.size, 2, none⟩ = some (.int .i64 d) := (hb.cell (p := ⟨w.heap.size, 2, none⟩) (by simp; omega)).trans (by go_simp)
  have r3 : w2.cell? ⟨w.heap.size, 3, none⟩ = some (.int .i64 h) := (hb.cell (p := ⟨w.heap.size, 3, none⟩) (by simp; omega)).trans (by go_simp)
  have r4 : w2.cell? ⟨w.heap.size, 4, none⟩ = some (.int .i64 mi) := (hb.cell (p := ⟨w.heap.size, 4, none⟩) (by simp; omega)).trans (by go_simp)
  have r5 : w2.cell? ⟨w.heap.size, 5, none⟩ = some (.int .i64 s) := (hb.cell (p := ⟨w.heap.size, 5, none⟩) (by simp; omega)).trans (by go_simp)
  have HB1 := Lib.hid (below_on (HB.out.alloc HB.out.size _) hb)
  clear hb q0 q1 q2 q3 q4 q5
  go_wp2_with fail
  refine (basic_no _ _ HI.out).mono ?_
  rintro e w2' ⟨rfl, hb⟩
  have q0 : w2'.cell? ⟨w.heap.size, 0, none⟩ = some (.int .i64 y) := (hb.cell (World.block_lt_of_cell? _ _ r0)).trans r0
  have q1 : w2'.cell? ⟨w.heap.size, 1, none⟩ = some (.int .i64 m) := (hb.cell (World.block_lt_of_cell? _ _ r1)).trans r1
  have q2 : w2'.cell? ⟨w.heap.size, 2, none⟩ = some (.int .i64 d) := (hb.cell (World.block_lt_of_cell? _ _ r2)).trans r2
  have q3 : w2'.cell? ⟨w.heap.size, 3, none⟩ = some (.int .i64 h) := (hb.cell (World.block_lt_of_cell? _ _ r3)).trans r3
  have q4 : w2'.cell? ⟨w.heap.size, 4, none⟩ = some (.int .i64 mi) := (hb.cell (World.block_lt_of_cell? _ _ r4)).trans r4
  have q5 : w2'.cell? ⟨w.heap.size, 5, none⟩ = some (.int .i64 s) := (hb.cell (World.block_lt_of_cell? _ _ r5)).trans r5
  have HB2 := Lib.hid (below_on HB1.out hb)
  clear hb r0 r1 r2 r3 r4 r5
  go_wp2_with fail
  refine (mof_any _ _ _ _ _ _ _).mono ?_
  rintro e w3 ⟨rfl, hb⟩
  rw [HV.out]
  have p0 : w3.cell? ⟨w.heap.size, 0, none⟩ = some (.int .i64 y) := (hb.cell (World.block_lt_of_cell? _ _ q0)).trans q0
  have p1 : w3.cell? ⟨w.heap.size, 1, none⟩ = some (.int .i64 m) := (hb.cell (World.block_lt_of_cell? _ _ q1)).trans q1
  have p2 : w3.cell? ⟨w.heap.size, 2, none⟩ = some (.int .i64 d) := (hb.cell (World.block_lt_of_cell? _ _ q2)).trans q2
  have p3 : w3.cell? ⟨w.heap.size, 3, none⟩ = some (.int .i64 h) := (hb.cell (World.block_lt_of_cell? _ _ q3)).trans q3
  have p4 : w3.cell? ⟨w.heap.size, 4, none⟩ = some (.int .i64 mi) := (hb.cell (World.block_lt_of_cell? _ _ q4)).trans q4
  have p5 : w3.cell? ⟨w.heap.size, 5, none⟩ = some (.int .i64 s) := (hb.cell (World.block_lt_of_cell? _ _ q5)).trans q5
  have HB3 := Lib.hid (below_on HB2.out hb)
  clear hb q0 q1 q2 q3 q4 q5
  go_wp2_with fail
  refine (rof_any _ _ _ _ _ _ _).mono ?_
  rintro e w4 ⟨rfl, hb⟩
  rw [HR.out]
  have HB4 := Lib.hid (below_on HB3.out hb)
  clear hb p0 p1 p2 p3 p4 p5
  go_wp2_with fail
  refine (moment_lives _).mono ?_
  rintro e w5 ⟨rfl, hb⟩
  have HB5 := Lib.hid (below_on HB4.out hb)
  clear hb
  go_wp2
  go_ret
  exact ⟨rfl, HB5.out⟩

theorem MomentStamps_walk (t y m d h mi s : Int) (w : World) (ht : (Lit.int .i64 t).wf = true) :
    Calls Try.prog 16 #[.int .i64 t, .agg #[.int .i64 y, .int .i64 m, .int .i64 d, .int .i64 h, .int .i64 mi, .int .i64 s]] w (Kept (.bool true) w) := by
  cases hi : inW t <;> cases hB : ofB y m d h mi s
  · exact stamps_00 t y m d h mi s w hi hB
  · exact stamps_01 t y m d h mi s w hi hB
  · exact stamps_10 t y m d h mi s w hi hB
  · exact stamps_11 t y m d h mi s w hi hB
end Go.Proofs.Ytnoomlakgfdaeaa
