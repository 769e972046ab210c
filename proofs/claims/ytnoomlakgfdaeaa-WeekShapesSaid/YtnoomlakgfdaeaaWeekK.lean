/- The walk of ferialaw06.WeekShapes where the day is none. -/
import Derived.Test.YtnoomlakgfdaeaaWeekJ
namespace Go.Proofs.Ytnoomlakgfdaeaa
open Go.RowKit

set_option maxRecDepth 100000 in
set_option maxHeartbeats 8000000 in
theorem shapes_out (n m T f q : Int) (w : World) (nn : n < 0 ∨ 146096 < n) (m0 : 0 ≤ m) (m1 : m ≤ 255) (hf : (n < 0 ∧ f = 0) ∨ (n = 0 ∧ f = 0) ∨ (0 < n ∧ f = n)) (hq : (146096 < T ∧ q = 146096) ∨ (T = 146096 ∧ q = 146096) ∨ (T < 146096 ∧ q = T)) :
    Calls Try.prog 14 #[.int .i64 n, .int .u8 m, .int .i64 T] w (Kept (.bool true) w) := by
  have hs := fun W => shape_no n W nn
  unfold shZ at hs
  have HS := Lib.hid hs
  have HFQ := Lib.hid hf
  have HTQ := Lib.hid hq
  have hne := neq_shape 0 0 0 0 0 0 0 0 0 0
  clear hs hf hq
  rcases nn with hn | hn
  all_goals
    try have g1 : decide (n < 0) = true := decide_eq_true hn
    try have g1 : decide (n < 0) = false := decide_eq_false (by omega)
    try have g2 : decide (146096 < n) = true := decide_eq_true hn
    try have g3 : decide (146097 ≤ n) = true := decide_eq_true (by omega)
    go_enter Try.func14, Try.ntmps14
    go_wp2_with fail
    refine (HS.out _).mono ?_
    rintro e w1 ⟨rfl, hb1⟩
    have c1 : w1.cell? ⟨w.heap.size, 0, none⟩ = some (.int .u8 m) := (hb1.cell (p := ⟨w.heap.size, 0, none⟩) (by simp; try omega)).trans (by go_simp)
    have c2 : w1.cell? ⟨w.heap.size + 1, 0, none⟩ = some (.int .i64 T) := (hb1.cell (p := ⟨w.heap.size + 1, 0, none⟩) (by simp; try omega)).trans (by go_simp)
    have HB1 := Lib.hid (show Below w.heap.size w w1 from (((Below.refl w.heap.size w).alloc (Nat.le_refl _) _).alloc (by simp) _).trans (hb1.mono (by simp; try omega)))
    have b1 := World.block_lt_of_cell? _ _ c1
    have b2 := World.block_lt_of_cell? _ _ c2
    clear hb1
    go_wp2_with fail
    have d1 : (w1.alloc (.cells #[.int .i64 0, .int .i64 0, .int .i64 0, .int .i64 0, .int .i64 0, .int .i64 0, .int .i64 0, .int .i64 0, .int .i64 0, .int .i64 0] 68)).cell? ⟨w.heap.size, 0, none⟩ = some (.int .u8 m) := by go_simp
    have d2 : (w1.alloc (.cells #[.int .i64 0, .int .i64 0, .int .i64 0, .int .i64 0, .int .i64 0, .int .i64 0, .int .i64 0, .int .i64 0, .int .i64 0, .int .i64 0] 68)).cell? ⟨w.heap.size + 1, 0, none⟩ = some (.int .i64 T) := by go_simp
    have HB2 := Lib.hid (HB1.out.alloc HB1.out.size (.cells #[.int .i64 0, .int .i64 0, .int .i64 0, .int .i64 0, .int .i64 0, .int .i64 0, .int .i64 0, .int .i64 0, .int .i64 0, .int .i64 0] 68))
    obtain ⟨w2, hw2⟩ : ∃ w2, w2 = w1.alloc (.cells #[.int .i64 0, .int .i64 0, .int .i64 0, .int .i64 0, .int .i64 0, .int .i64 0, .int .i64 0, .int .i64 0, .int .i64 0, .int .i64 0] 68) := ⟨_, rfl⟩
    rw [← hw2] at d1 d2 HB2 ⊢
    have p1 := World.block_lt_of_cell? _ _ d1
    have p2 := World.block_lt_of_cell? _ _ d2
    have D1 := Lib.hid d1
    have D2 := Lib.hid d2
    clear c1 c2 HB1 HS hne b1 b2 hw2
    have hmf : ∀ (fn : Fn) (first cap : Array Value) (w : World), (Instr.makeFunc fn first cap).run Try.prog w = .ok (.func fn first cap) w := fun _ _ _ _ => rfl
    refine (wdays_any n T f q _ HFQ.out HTQ.out).mono ?_
    rintro e w3 ⟨rfl, hb3, e1, e2, z3⟩
    have HB3 := Lib.hid (HB2.out.trans (hb3.mono HB2.out.size))
    have D1' := Lib.hid ((hb3.cell (p := ⟨w.heap.size, 0, none⟩) p1).trans D1.out)
    have D2' := Lib.hid ((hb3.cell (p := ⟨w.heap.size + 1, 0, none⟩) p2).trans D2.out)
    have E1 := Lib.hid e1
    have E2 := Lib.hid e2
    clear hb3 e1 e2 d1 d2
    have d1 := D1'.out
    have d2 := D2'.out
    have e1 := E1.out
    have e2 := E2.out
    have hnil : ∀ (cap : Array Value) (w : World), (binOp .eql 75 (.func (.func 88) #[] cap) .nilFunc).run Try.prog w = .ok (.bool false) w := fun _ _ => by kernel_rfl
    have HFW := HFQ.out
    have HZ : (n < 0 ∧ f = 0) ∨ (146096 < n ∧ f = n) := by omega
    clear HFW
    rcases HZ with ⟨hn', rfl⟩ | ⟨hn', rfl⟩
    all_goals try (exfalso; omega)
    try have g4 : decide (0 < n) = true := decide_eq_true (by omega)
    try have g5 : decide (0 ≤ n) = true := decide_eq_true (by omega)
    try have g6 : decide (n ≤ 0) = false := decide_eq_false (by omega)
    try have g4 : decide (0 < n) = false := decide_eq_false (by omega)
    try have g5 : decide (0 ≤ n) = false := decide_eq_false (by omega)
    try have g6 : decide (n ≤ 0) = true := decide_eq_true (by omega)
    go_wp2_with fail
    have l1 : w2.heap.size < w3.heap.size := by omega
    have l2 : w2.heap.size + 1 < w3.heap.size := by omega
    have l3 : w.heap.size < w3.heap.size := by omega
    have l4 : w.heap.size + 1 < w3.heap.size := by omega
    have HTW := HTQ.out
    have q1 : q ≤ 146096 := by omega
    have q2 : q ≤ T := by omega
    clear HTW
    first
      | refine (days1_any (w3.heap.size + 1) w3.heap.size (w.heap.size + 1) (w3.heap.size + 1 + 1) w.heap.size w2.heap.size (w2.heap.size + 1) n q T m _ (by omega) q1 q2 m0 m1 ⟨by omega, by omega, by omega, by omega, by omega, by omega, by omega, by omega, by omega⟩ (old3 e1 _ _ _) (old3 e2 _ _ _) (by omega) (by omega) (by omega) (by omega) (by omega) (by omega) ⟨by go_simp, by go_simp, old3 d2 _ _ _, by go_simp, old3 d1 _ _ _, by go_simp, by go_simp, by go_simp⟩).mono ?_
      | refine (days1_any (w3.heap.size + 1) w3.heap.size (w.heap.size + 1) (w3.heap.size + 1 + 1) w.heap.size w2.heap.size (w2.heap.size + 1) f q T m _ (by omega) q1 q2 m0 m1 ⟨by omega, by omega, by omega, by omega, by omega, by omega, by omega, by omega, by omega⟩ (old3 e1 _ _ _) (old3 e2 _ _ _) (by omega) (by omega) (by omega) (by omega) (by omega) (by omega) ⟨by go_simp, by go_simp, old3 d2 _ _ _, by go_simp, old3 d1 _ _ _, by go_simp, by go_simp, by go_simp⟩).mono ?_
      | refine (days1_any (w3.heap.size + 1) w3.heap.size (w.heap.size + 1) (w3.heap.size + 1 + 1) w.heap.size w2.heap.size (w2.heap.size + 1) 0 q T m _ (by omega) q1 q2 m0 m1 ⟨by omega, by omega, by omega, by omega, by omega, by omega, by omega, by omega, by omega⟩ (old3 e1 _ _ _) (old3 e2 _ _ _) (by omega) (by omega) (by omega) (by omega) (by omega) (by omega) ⟨by go_simp, by go_simp, old3 d2 _ _ _, by go_simp, old3 d1 _ _ _, by go_simp, by go_simp, by go_simp⟩).mono ?_
    rintro e w5 ⟨rfl, hs5, a, c, hy5, hac⟩
    have HB5 := Lib.hid (hs5.bel w.heap.size w (by omega) (by omega) (by omega) (by simp; omega) (((HB3.out.alloc HB3.out.size _).alloc (by simp; omega) _).alloc (by simp; omega) _))
    obtain ⟨s1, s2, s3, s4, s5, r1, r2, r3⟩ := hy5
    have HTW := HTQ.out
    have way : m < c ∨ (¬ m < c ∧ T < a) ∨ (¬ m < c ∧ ¬ T < a ∧ 146096 < a) := by omega
    clear HTW hs5 r1 r2 r3 d1 d2 e1 e2 hac
    have v1 := World.block_lt_of_cell? _ _ s1
    have v2 := World.block_lt_of_cell? _ _ s2
    have v3 := World.block_lt_of_cell? _ _ s3
    have v4 := World.block_lt_of_cell? _ _ s4
    have v5 := World.block_lt_of_cell? _ _ s5
    rcases way with t1 | ⟨t1, t2⟩ | ⟨t1, t2, t3⟩
    all_goals
      try have j1 : decide (m < c) = true := decide_eq_true t1
      try have j1 : decide (m < c) = false := decide_eq_false t1
      try have j2 : decide (T < a) = true := decide_eq_true t2
      try have j2 : decide (T < a) = false := decide_eq_false t2
      try have j3 : decide (146096 < a) = true := decide_eq_true t3
      try have j4 : decide (146097 ≤ a) = true := decide_eq_true (by omega)
      go_wp2_with fail
      refine (week_lives _).mono ?_
      rintro e w6 ⟨rfl, hb6⟩
      have HB6 := Lib.hid (HB5.out.trans (hb6.mono HB5.out.size))
      clear hb6
      go_wp2
      go_ret
      exact ⟨rfl, HB6.out⟩

theorem WeekShapes_walk (n m T : Int) (w : World) (_hn : (Lit.int .i64 n).wf = true) (hm : (Lit.int .u8 m).wf = true) (_ht : (Lit.int .i64 T).wf = true) : Calls Try.prog 14 #[.int .i64 n, .int .u8 m, .int .i64 T] w (Kept (.bool true) w) := by
  have mb : 0 ≤ m ∧ m ≤ 255 := by
    simp [Lit.wf, IntKind.min, IntKind.max, IntKind.bits, IntKind.signed] at hm
    omega
  obtain ⟨q, hq⟩ : ∃ q, (146096 < T ∧ q = 146096) ∨ (T = 146096 ∧ q = 146096) ∨ (T < 146096 ∧ q = T) := by
    by_cases c : T < 146096
    · exact ⟨T, by omega⟩
    · exact ⟨146096, by omega⟩
  by_cases h : 0 ≤ n ∧ n ≤ 146096
  · exact shapes_in n m T n q w h.1 h.2 mb.1 mb.2 (by omega) hq
  · by_cases c : n < 0
    · exact shapes_out n m T 0 q w (.inl c) mb.1 mb.2 (by omega) hq
    · exact shapes_out n m T n q w (by omega) mb.1 mb.2 (by omega) hq
end Go.Proofs.Ytnoomlakgfdaeaa
