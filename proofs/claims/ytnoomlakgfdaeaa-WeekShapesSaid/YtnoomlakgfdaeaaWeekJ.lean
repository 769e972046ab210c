/- The walk of ferialaw06.WeekShapes. -/
import Derived.Test.YtnoomlakgfdaeaaWeekH
import Derived.Test.YtnoomlakgfdaeaaWeekI
namespace Go.Proofs.Ytnoomlakgfdaeaa
open Go.RowKit

theorem old3 {w3 : World} {p : Addr} {v : Value} (h : w3.cell? p = some v) (a b c : Obj) : (((w3.alloc a).alloc b).alloc c).cell? p = some v := by
  have hb : Below w3.heap.size w3 (((w3.alloc a).alloc b).alloc c) := (((Below.refl _ _).alloc (Nat.le_refl _) _).alloc (by simp) _).alloc (by simp; try omega) _
  exact (hb.cell (World.block_lt_of_cell? _ _ h)).trans h

theorem keepJ {X : Nat} {w W V : World} {m T : Int} {x0 x1 x2 x3 x4 x5 x6 x7 x8 x9 : Int} (hb : Below W.heap.size W V)
    (h : Below w.heap.size w W ∧ W.cell? ⟨w.heap.size, 0, none⟩ = some (.int .u8 m) ∧ W.cell? ⟨w.heap.size + 1, 0, none⟩ = some (.int .i64 T) ∧ W.cell? ⟨X, 0, none⟩ = some (.int .i64 x0) ∧ W.cell? ⟨X, 1, none⟩ = some (.int .i64 x1) ∧ W.cell? ⟨X, 2, none⟩ = some (.int .i64 x2) ∧ W.cell? ⟨X, 3, none⟩ = some (.int .i64 x3) ∧ W.cell? ⟨X, 4, none⟩ = some (.int .i64 x4) ∧ W.cell? ⟨X, 5, none⟩ = some (.int .i64 x5) ∧ W.cell? ⟨X, 6, none⟩ = some (.int .i64 x6) ∧ W.cell? ⟨X, 7, none⟩ = some (.int .i64 x7) ∧ W.cell? ⟨X, 8, none⟩ = some (.int .i64 x8) ∧ W.cell? ⟨X, 9, none⟩ = some (.int .i64 x9)) :
    Below w.heap.size w V ∧ V.cell? ⟨w.heap.size, 0, none⟩ = some (.int .u8 m) ∧ V.cell? ⟨w.heap.size + 1, 0, none⟩ = some (.int .i64 T) ∧ V.cell? ⟨X, 0, none⟩ = some (.int .i64 x0) ∧ V.cell? ⟨X, 1, none⟩ = some (.int .i64 x1) ∧ V.cell? ⟨X, 2, none⟩ = some (.int .i64 x2) ∧ V.cell? ⟨X, 3, none⟩ = some (.int .i64 x3) ∧ V.cell? ⟨X, 4, none⟩ = some (.int .i64 x4) ∧ V.cell? ⟨X, 5, none⟩ = some (.int .i64 x5) ∧ V.cell? ⟨X, 6, none⟩ = some (.int .i64 x6) ∧ V.cell? ⟨X, 7, none⟩ = some (.int .i64 x7) ∧ V.cell? ⟨X, 8, none⟩ = some (.int .i64 x8) ∧ V.cell? ⟨X, 9, none⟩ = some (.int .i64 x9) := by
  obtain ⟨h0, h1, h2, k0, k1, k2, k3, k4, k5, k6, k7, k8, k9⟩ := h
  exact ⟨h0.trans (hb.mono h0.size), (hb.cell (World.block_lt_of_cell? _ _ h1)).trans h1, (hb.cell (World.block_lt_of_cell? _ _ h2)).trans h2, (hb.cell (World.block_lt_of_cell? _ _ k0)).trans k0, (hb.cell (World.block_lt_of_cell? _ _ k1)).trans k1, (hb.cell (World.block_lt_of_cell? _ _ k2)).trans k2, (hb.cell (World.block_lt_of_cell? _ _ k3)).trans k3, (hb.cell (World.block_lt_of_cell? _ _ k4)).trans k4, (hb.cell (World.block_lt_of_cell? _ _ k5)).trans k5, (hb.cell (World.block_lt_of_cell? _ _ k6)).trans k6, (hb.cell (World.block_lt_of_cell? _ _ k7)).trans k7, (hb.cell (World.block_lt_of_cell? _ _ k8)).trans k8, (hb.cell (World.block_lt_of_cell? _ _ k9)).trans k9⟩

set_option maxHeartbeats 1000000 in
theorem neq_shape (x0 x1 x2 x3 x4 x5 x6 x7 x8 x9 : Int) (w : World) : (binOp .neq 68 (.agg #[.int .i64 x0, .int .i64 x1, .int .i64 x2, .int .i64 x3, .int .i64 x4, .int .i64 x5, .int .i64 x6, .int .i64 x7, .int .i64 x8, .int .i64 x9]) (.agg #[.int .i64 x0, .int .i64 x1, .int .i64 x2, .int .i64 x3, .int .i64 x4, .int .i64 x5, .int .i64 x6, .int .i64 x7, .int .i64 x8, .int .i64 x9])).run Try.prog w = .ok (.bool false) w := by
  have u3 := Try.underlying3
  have a3 := Try.isAgg3
  have z3 := Try.sizeOf3
  have hS : Try.prog.underlying 68 = some (.struct (Try.prog.fieldsOf 68)) := by kernel_rfl
  have hp : Try.prog.stoodInHeld 68 = false := by kernel_rfl
  rw [run_neq_struct, show (10000 : Nat) = 9999 + 1 from rfl, run_equalIn_agg w 9999 68 _ _ hS hp]
  simp only [Program.fieldsOf, Try.underlying68]
  go_simp

set_option maxRecDepth 100000 in
set_option maxHeartbeats 8000000 in
theorem shapes_in (n m T f q : Int) (w : World) (n0 : 0 ≤ n) (n1 : n ≤ 146096) (m0 : 0 ≤ m) (m1 : m ≤ 255) (hf : (n = 0 ∧ f = 0) ∨ (0 < n ∧ f = n)) (hq : (146096 < T ∧ q = 146096) ∨ (T = 146096 ∧ q = 146096) ∨ (T < 146096 ∧ q = T)) :
    Calls Try.prog 14 #[.int .i64 n, .int .u8 m, .int .i64 T] w (Kept (.bool true) w) := by
  have hfr := shV_form n
  have hs := fun W => shape_yes n W n0 n1
  have hr := fun W => rshape_any n W n0 n1
  obtain ⟨x0, hx0⟩ : ∃ x, x = n := ⟨_, rfl⟩
  obtain ⟨x1, hx1⟩ : ∃ x, x = dY n := ⟨_, rfl⟩
  obtain ⟨x2, hx2⟩ : ∃ x, x = dM n := ⟨_, rfl⟩
  obtain ⟨x3, hx3⟩ : ∃ x, x = dD n := ⟨_, rfl⟩
  obtain ⟨x4, hx4⟩ : ∃ x, x = dim (dY n) (dM n) - dD n + 1 := ⟨_, rfl⟩
  obtain ⟨x5, hx5⟩ : ∃ x, x = wd n := ⟨_, rfl⟩
  obtain ⟨x6, hx6⟩ : ∃ x, x = wi (dD n) (dim (dY n) (dM n)) := ⟨_, rfl⟩
  obtain ⟨x7, hx7⟩ : ∃ x, x = wo (dD n) (dim (dY n) (dM n)) := ⟨_, rfl⟩
  obtain ⟨x8, hx8⟩ : ∃ x, x = wi (cum (dY n) (dM n) + dD n) (365 + lp (dY n)) := ⟨_, rfl⟩
  obtain ⟨x9, hx9⟩ : ∃ x, x = wo (cum (dY n) (dM n) + dD n) (365 + lp (dY n)) := ⟨_, rfl⟩
  have hfr' : shV n = .agg #[.int .i64 x0, .int .i64 x1, .int .i64 x2, .int .i64 x3, .int .i64 x4, .int .i64 x5, .int .i64 x6, .int .i64 x7, .int .i64 x8, .int .i64 x9] := by rw [hfr, hx9, hx8, hx7, hx6, hx5, hx4, hx3, hx2, hx1, hx0]
  simp only [hfr'] at hr hs
  have HS := Lib.hid hs
  have HR := Lib.hid hr
  have HFQ := Lib.hid hf
  have HTQ := Lib.hid hq
  have hne := neq_shape x0 x1 x2 x3 x4 x5 x6 x7 x8 x9
  clear hfr hfr' hr hs hx0 hx1 hx2 hx3 hx4 hx5 hx6 hx7 hx8 hx9 hf hq
  have g1 : decide (n < 0) = false := decide_eq_false (by omega)
  have g2 : decide (146096 < n) = false := decide_eq_false (by omega)
  have g3 : decide (146097 ≤ n) = false := decide_eq_false (by omega)
  go_enter Try.func14, Try.ntmps14
  go_wp2_with fail
  refine (HS.out _).mono ?_
  rintro e w1 ⟨rfl, hb1⟩
  have c1 : w1.cell? ⟨w.heap.size, 0, none⟩ = some (.int .u8 m) := (hb1.cell (p := ⟨w.heap.size, 0, none⟩) (by simp; try omega)).trans (by go_simp)
  have c2 : w1.cell? ⟨w.heap.size + 1, 0, none⟩ = some (.int .i64 T) := (hb1.cell (p := ⟨w.heap.size + 1, 0, none⟩) (by simp; try omega)).trans (by go_simp)
  have HB1 := Lib.hid (show Below w.heap.size w w1 from (((Below.refl w.heap.size w).alloc (Nat.le_refl _) _).alloc (by simp) _).trans (hb1.mono (by simp; try omega)))
  have b1 := World.block_lt_of_cell? _ _ c1
  have b2 := World.block_lt_of_cell? _ _ c2
  clear hb1
  go_wp2_with fail
  have hS0 : Below w.heap.size w ((w1.alloc (.cells #[.int .i64 x0, .int .i64 x1, .int .i64 x2, .int .i64 x3, .int .i64 x4, .int .i64 x5, .int .i64 x6, .int .i64 x7, .int .i64 x8, .int .i64 x9] 68)).drew) ∧ ((w1.alloc (.cells #[.int .i64 x0, .int .i64 x1, .int .i64 x2, .int .i64 x3, .int .i64 x4, .int .i64 x5, .int .i64 x6, .int .i64 x7, .int .i64 x8, .int .i64 x9] 68)).drew).cell? ⟨w.heap.size, 0, none⟩ = some (.int .u8 m) ∧ ((w1.alloc (.cells #[.int .i64 x0, .int .i64 x1, .int .i64 x2, .int .i64 x3, .int .i64 x4, .int .i64 x5, .int .i64 x6, .int .i64 x7, .int .i64 x8, .int .i64 x9] 68)).drew).cell? ⟨w.heap.size + 1, 0, none⟩ = some (.int .i64 T) ∧ ((w1.alloc (.cells #[.int .i64 x0, .int .i64 x1, .int .i64 x2, .int .i64 x3, .int .i64 x4, .int .i64 x5, .int .i64 x6, .int .i64 x7, .int .i64 x8, .int .i64 x9] 68)).drew).cell? ⟨w1.heap.size, 0, none⟩ = some (.int .i64 x0) ∧ ((w1.alloc (.cells #[.int .i64 x0, .int .i64 x1, .int .i64 x2, .int .i64 x3, .int .i64 x4, .int .i64 x5, .int .i64 x6, .int .i64 x7, .int .i64 x8, .int .i64 x9] 68)).drew).cell? ⟨w1.heap.size, 1, none⟩ = some (.int .i64 x1) ∧ ((w1.alloc (.cells #[.int .i64 x0, .int .i64 x1, .int .i64 x2, .int .i64 x3, .int .i64 x4, .int .i64 x5, .int .i64 x6, .int .i64 x7, .int .i64 x8, .int .i64 x9] 68)).drew).cell? ⟨w1.heap.size, 2, none⟩ = some (.int .i64 x2) ∧ ((w1.alloc (.cells #[.int .i64 x0, .int .i64 x1, .int .i64 x2, .int .i64 x3, .int .i64 x4, .int .i64 x5, .int .i64 x6, .int .i64 x7, .int .i64 x8, .int .i64 x9] 68)).drew).cell? ⟨w1.heap.size, 3, none⟩ = some (.int .i64 x3) ∧ ((w1.alloc (.cells #[.int .i64 x0, .int .i64 x1, .int .i64 x2, .int .i64 x3, .int .i64 x4, .int .i64 x5, .int .i64 x6, .int .i64 x7, .int .i64 x8, .int .i64 x9] 68)).drew).cell? ⟨w1.heap.size, 4, none⟩ = some (.int .i64 x4) ∧ ((w1.alloc (.cells #[.int .i64 x0, .int .i64 x1, .int .i64 x2, .int .i64 x3, .int .i64 x4, .int .i64 x5, .int .i64 x6, .int .i64 x7, .int .i64 x8, .int .i64 x9] 68)).drew).cell? ⟨w1.heap.size, 5, none⟩ = some (.int .i64 x5) ∧ ((w1.alloc (.cells #[.int .i64 x0, .int .i64 x1, .int .i64 x2, .int .i64 x3, .int .i64 x4, .int .i64 x5, .int .i64 x6, .int .i64 x7, .int .i64 x8, .int .i64 x9] 68)).drew).cell? ⟨w1.heap.size, 6, none⟩ = some (.int .i64 x6) ∧ ((w1.alloc (.cells #[.int .i64 x0, .int .i64 x1, .int .i64 x2, .int .i64 x3, .int .i64 x4, .int .i64 x5, .int .i64 x6, .int .i64 x7, .int .i64 x8, .int .i64 x9] 68)).drew).cell? ⟨w1.heap.size, 7, none⟩ = some (.int .i64 x7) ∧ ((w1.alloc (.cells #[.int .i64 x0, .int .i64 x1, .int .i64 x2, .int .i64 x3, .int .i64 x4, .int .i64 x5, .int .i64 x6, .int .i64 x7, .int .i64 x8, .int .i64 x9] 68)).drew).cell? ⟨w1.heap.size, 8, none⟩ = some (.int .i64 x8) ∧ ((w1.alloc (.cells #[.int .i64 x0, .int .i64 x1, .int .i64 x2, .int .i64 x3, .int .i64 x4, .int .i64 x5, .int .i64 x6, .int .i64 x7, .int .i64 x8, .int .i64 x9] 68)).drew).cell? ⟨w1.heap.size, 9, none⟩ = some (.int .i64 x9) := ⟨(HB1.out.alloc HB1.out.size _).drew, by go_simp, by go_simp, by go_simp, by go_simp, by go_simp, by go_simp, by go_simp, by go_simp, by go_simp, by go_simp, by go_simp, by go_simp⟩
  have HS0 := Lib.hid hS0
  clear hS0
  go_region_held3 (fun w' => Below w.heap.size w w' ∧ w'.cell? ⟨w.heap.size, 0, none⟩ = some (.int .u8 m) ∧ w'.cell? ⟨w.heap.size + 1, 0, none⟩ = some (.int .i64 T) ∧ w'.cell? ⟨w1.heap.size, 0, none⟩ = some (.int .i64 x0) ∧ w'.cell? ⟨w1.heap.size, 1, none⟩ = some (.int .i64 x1) ∧ w'.cell? ⟨w1.heap.size, 2, none⟩ = some (.int .i64 x2) ∧ w'.cell? ⟨w1.heap.size, 3, none⟩ = some (.int .i64 x3) ∧ w'.cell? ⟨w1.heap.size, 4, none⟩ = some (.int .i64 x4) ∧ w'.cell? ⟨w1.heap.size, 5, none⟩ = some (.int .i64 x5) ∧ w'.cell? ⟨w1.heap.size, 6, none⟩ = some (.int .i64 x6) ∧ w'.cell? ⟨w1.heap.size, 7, none⟩ = some (.int .i64 x7) ∧ w'.cell? ⟨w1.heap.size, 8, none⟩ = some (.int .i64 x8) ∧ w'.cell? ⟨w1.heap.size, 9, none⟩ = some (.int .i64 x9))
    (first | exact keepJ hb2 (by assumption) | exact HS0.out)
    (first
      | (go_at_call 61; refine (HR.out _).mono ?_; rintro e w2 ⟨rfl, hb2⟩))
  rename_i hh
  obtain ⟨h0, d1, d2, _⟩ := hh
  have HB2 := Lib.hid h0
  have p1 := World.block_lt_of_cell? _ _ d1
  have p2 := World.block_lt_of_cell? _ _ d2
  have D1 := Lib.hid d1
  have D2 := Lib.hid d2
  clear h0 hb2 c1 c2 HS0 HB1 HS HR hne b1 b2
  have hmf : ∀ (fn : Fn) (first cap : Array Value) (w : World), (Instr.makeFunc fn first cap).run Try.prog w = .ok (.func fn first cap) w := fun _ _ _ _ => rfl
  go_wp2_with fail
  refine (wdays_any n T f q _ (.inr HFQ.out) HTQ.out).mono ?_
  rintro e w3 ⟨rfl, hb3, e1, e2, z3⟩
  have HB3 := Lib.hid (HB2.out.trans (hb3.mono HB2.out.size))
  have D1' := Lib.hid ((hb3.cell (p := ⟨w.heap.size, 0, none⟩) p1).trans D1.out)
  have D2' := Lib.hid ((hb3.cell (p := ⟨w.heap.size + 1, 0, none⟩) p2).trans D2.out)
  have E1 := Lib.hid e1
  have E2 := Lib.hid e2
  clear hb3 e1 e2 d1 d2
  have d1 := D1'.out
  have d2 := D2'.out
  have e1 := E1.out
  have e2 := E2.out
  have hnil : ∀ (cap : Array Value) (w : World), (binOp .eql 75 (.func (.func 88) #[] cap) .nilFunc).run Try.prog w = .ok (.bool false) w := fun _ _ => by kernel_rfl
  rcases HFQ.out with ⟨rfl, rfl⟩ | ⟨hpos, rfl⟩
  all_goals
    try have g4 : decide (0 < n) = true := decide_eq_true hpos
    try have g5 : decide (0 ≤ n) = true := decide_eq_true n0
    try have g6 : decide (n ≤ 0) = false := decide_eq_false (by omega)
    go_wp2_with fail
    have l1 : w2.heap.size < w3.heap.size := by omega
    have l2 : w2.heap.size + 1 < w3.heap.size := by omega
    have l3 : w.heap.size < w3.heap.size := by omega
    have l4 : w.heap.size + 1 < w3.heap.size := by omega
    have HTW := HTQ.out
    have q1 : q ≤ 146096 := by omega
    have q2 : q ≤ T := by omega
    clear HTW
    first
      | refine (days1_any (w3.heap.size + 1) w3.heap.size (w.heap.size + 1) (w3.heap.size + 1 + 1) w.heap.size w2.heap.size (w2.heap.size + 1) f q T m _ (by omega) q1 q2 m0 m1 ⟨by omega, by omega, by omega, by omega, by omega, by omega, by omega, by omega, by omega⟩ (old3 e1 _ _ _) (old3 e2 _ _ _) (by omega) (by omega) (by omega) (by omega) (by omega) (by omega) ⟨by go_simp, by go_simp, old3 d2 _ _ _, by go_simp, old3 d1 _ _ _, by go_simp, by go_simp, by go_simp⟩).mono ?_
      | refine (days1_any (w3.heap.size + 1) w3.heap.size (w.heap.size + 1) (w3.heap.size + 1 + 1) w.heap.size w2.heap.size (w2.heap.size + 1) 0 q T m _ (by omega) q1 q2 m0 m1 ⟨by omega, by omega, by omega, by omega, by omega, by omega, by omega, by omega, by omega⟩ (old3 e1 _ _ _) (old3 e2 _ _ _) (by omega) (by omega) (by omega) (by omega) (by omega) (by omega) ⟨by go_simp, by go_simp, old3 d2 _ _ _, by go_simp, old3 d1 _ _ _, by go_simp, by go_simp, by go_simp⟩).mono ?_
    rintro e w5 ⟨rfl, hs5, a, c, hy5, hac⟩
    have HB5 := Lib.hid (hs5.bel w.heap.size w (by omega) (by omega) (by omega) (by simp; omega) (((HB3.out.alloc HB3.out.size _).alloc (by simp; omega) _).alloc (by simp; omega) _))
    obtain ⟨s1, s2, s3, s4, s5, r1, r2, r3⟩ := hy5
    have HTW := HTQ.out
    have way : m < c ∨ (¬ m < c ∧ T < a) ∨ (¬ m < c ∧ ¬ T < a ∧ 146096 < a) := by omega
    clear HTW hs5 r1 r2 r3 d1 d2 e1 e2 hac
    have v1 := World.block_lt_of_cell? _ _ s1
    have v2 := World.block_lt_of_cell? _ _ s2
    have v3 := World.block_lt_of_cell? _ _ s3
    have v4 := World.block_lt_of_cell? _ _ s4
    have v5 := World.block_lt_of_cell? _ _ s5
    rcases way with t1 | ⟨t1, t2⟩ | ⟨t1, t2, t3⟩
    all_goals
      try have j1 : decide (m < c) = true := decide_eq_true t1
      try have j1 : decide (m < c) = false := decide_eq_false t1
      try have j2 : decide (T < a) = true := decide_eq_true t2
      try have j2 : decide (T < a) = false := decide_eq_false t2
      try have j3 : decide (146096 < a) = true := decide_eq_true t3
      try have j4 : decide (146097 ≤ a) = true := decide_eq_true (by omega)
      go_wp2_with fail
      refine (week_lives _).mono ?_
      rintro e w6 ⟨rfl, hb6⟩
      have HB6 := Lib.hid (HB5.out.trans (hb6.mono HB5.out.size))
      clear hb6
      go_wp2
      go_ret
      exact ⟨rfl, HB6.out⟩
end Go.Proofs.Ytnoomlakgfdaeaa
