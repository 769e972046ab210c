/- Plain: seven days on. The walk of ferialaw06.WeekOn. -/
import Derived.Test.YtnoomlakgfdaeaaWeekB
namespace Go.Proofs.Ytnoomlakgfdaeaa
open Go.RowKit

/-- which day of its year a day is -/
def od (n : Int) : Int := cum (dY n) (dM n) + dD n
theorem od_eq (n : Int) : od n = n + 719163 - eY (dY n - 1) := by
  have h := (date_ok n).2
  unfold num at h
  unfold od
  omega
theorem od_bd (n : Int) : 1 ≤ od n ∧ od n ≤ 365 + lp (dY n) := by
  obtain ⟨⟨m1, m2, d1, d2⟩, h⟩ := date_ok n
  have c := cum_mono (dY n) (dM n) 13 m1 (by omega) (by omega)
  rw [cum_all] at c
  have b := (cum_bd (dY n) (dM n)).1
  unfold od
  omega

theorem seven_ways (n : Int) : (dM (n + 7) = dM n ∧ dY (n + 7) = dY n ∧ dD (n + 7) = dD n + 7) ∨ (dM (n + 7) ≠ dM n ∧ dY (n + 7) = dY n ∧ dD (n + 7) ≤ 7 ∧ dim (dY n) (dM n) - dD n < 7) ∨
    (dM (n + 7) ≠ dM n ∧ dY (n + 7) = dY n + 1 ∧ dD (n + 7) ≤ 7 ∧ dim (dY n) (dM n) - dD n < 7) := by
  obtain ⟨⟨m1, m2, d1, d2⟩, h⟩ := date_ok n
  have hn : num (dY n) (dM n) (dD n) = eY (dY n - 1) - 719162 + cum (dY n) (dM n) + dD n - 1 := rfl
  have cs := cum_succ (dY n) (dM n) m1 m2
  by_cases c : dD n + 7 ≤ dim (dY n) (dM n)
  · obtain ⟨e1, e2, e3⟩ := date_is (n := n + 7) (y := dY n) (m := dM n) (d := dD n + 7) ⟨m1, m2, by omega, by omega⟩ (by unfold num; omega)
    exact .inl ⟨e2.symm, e1.symm, e3.symm⟩
  · by_cases c2 : dM n < 12
    · have dp := dim_pos (y := dY n) (m := dM n + 1) (by omega) (by omega)
      obtain ⟨e1, e2, e3⟩ := date_is (n := n + 7) (y := dY n) (m := dM n + 1) (d := dD n + 7 - dim (dY n) (dM n)) ⟨by omega, by omega, by omega, by omega⟩ (by unfold num; omega)
      exact .inr (.inl ⟨by omega, e1.symm, by omega, by omega⟩)
    · have c3 : dM n = 12 := by omega
      have cs2 := cs
      rw [c3] at cs2
      rw [show (12 : Int) + 1 = 13 from rfl, cum_all] at cs2
      have es := eY_succ (dY n)
      have dp := dim_pos (y := dY n + 1) (m := 1) (by omega) (by omega)
      have c1 := cum_one (dY n + 1)
      obtain ⟨e1, e2, e3⟩ := date_is (n := n + 7) (y := dY n + 1) (m := 1) (d := dD n + 7 - dim (dY n) (dM n)) ⟨by omega, by omega, by omega, by omega⟩ (by
        unfold num
        rw [show dY n + 1 - 1 = dY n by omega, c1]
        rw [c3] at hn h d2 c ⊢
        omega)
      exact .inr (.inr ⟨by omega, e1.symm, by omega, by omega⟩)

theorem wi_in {a l : Int} (h1 : 1 ≤ a) (h2 : a ≤ l) : wi a l = (a - 1) / 7 + 1 ∧ wo a l = (l - a) / 7 + 1 := by unfold wi wo; rw [if_pos ⟨h1, h2⟩, if_pos ⟨h1, h2⟩]; exact ⟨rfl, rfl⟩

/-- what seven days make -/
theorem on_ways (n : Int) : ∃ i1 f1 j1 g1 i2 f2 j2 g2 : Int, wi (dD n) (dim (dY n) (dM n)) = i1 ∧ wo (dD n) (dim (dY n) (dM n)) = f1 ∧ wi (od n) (365 + lp (dY n)) = j1 ∧ wo (od n) (365 + lp (dY n)) = g1 ∧
    wi (dD (n + 7)) (dim (dY (n + 7)) (dM (n + 7))) = i2 ∧ wo (dD (n + 7)) (dim (dY (n + 7)) (dM (n + 7))) = f2 ∧ wi (od (n + 7)) (365 + lp (dY (n + 7))) = j2 ∧ wo (od (n + 7)) (365 + lp (dY (n + 7))) = g2 ∧
    (1 ≤ i1 ∧ 1 ≤ f1 ∧ 1 ≤ j1 ∧ 1 ≤ g1 ∧ 5 ≤ i1 + f1 ∧ i1 + f1 ≤ 6 ∧ 53 ≤ j1 + g1 ∧ j1 + g1 ≤ 54) ∧
    ((dM (n + 7) = dM n ∧ dY (n + 7) = dY n ∧ i2 = i1 + 1 ∧ f2 = f1 - 1 ∧ j2 = j1 + 1 ∧ g2 = g1 - 1) ∨ (dM (n + 7) ≠ dM n ∧ dY (n + 7) = dY n ∧ i2 = 1 ∧ f1 = 1 ∧ j2 = j1 + 1 ∧ g2 = g1 - 1) ∨ (dM (n + 7) ≠ dM n ∧ dY (n + 7) = dY n + 1 ∧ i2 = 1 ∧ f1 = 1 ∧ j2 = 1 ∧ g1 = 1)) := by
  obtain ⟨⟨m1, m2, d1, d2⟩, h⟩ := date_ok n
  obtain ⟨⟨m1', m2', d1', d2'⟩, h'⟩ := date_ok (n + 7)
  obtain ⟨w1, w2⟩ := wi_in d1 d2
  obtain ⟨w3, w4⟩ := wi_in d1' d2'
  obtain ⟨w5, w6⟩ := wi_in (od_bd n).1 (od_bd n).2
  obtain ⟨w7, w8⟩ := wi_in (od_bd (n + 7)).1 (od_bd (n + 7)).2
  have o1 := od_bd n
  have o2 := od_bd (n + 7)
  have q1 := od_eq n
  have q2 := od_eq (n + 7)
  have l1 := lp_01 (dY n)
  have l2 := lp_01 (dY (n + 7))
  have s1 := eY_succ (dY n)
  have b1 := dim_pos (y := dY n) m1 m2
  have b2 := dim_bd (dY n) (dM n)
  have sw := seven_ways n
  refine ⟨_, _, _, _, _, _, _, _, w1, w2, w5, w6, w3, w4, w7, w8, ⟨by omega, by omega, by omega, by omega, by omega, by omega, by omega, by omega⟩, ?_⟩
  rcases sw with ⟨e1, e2, e3⟩ | ⟨e1, e2, e3, e4⟩ | ⟨e1, e2, e3, e4⟩
  · refine .inl ⟨e1, e2, ?_⟩
    rw [e1, e2] at d2' ⊢
    rw [e2] at o2 q2
    rw [e3] at d2' ⊢
    clear w1 w2 w3 w4 w5 w6 w7 w8
    omega
  · refine .inr (.inl ⟨e1, e2, ?_⟩)
    rw [e2] at o2 q2 ⊢
    clear w1 w2 w3 w4 w5 w6 w7 w8
    omega
  · refine .inr (.inr ⟨e1, e2, ?_⟩)
    rw [e2] at o2 q2
    rw [show dY n + 1 - 1 = dY n by omega] at q2
    clear w1 w2 w3 w4 w5 w6 w7 w8
    omega

theorem u32_bd {a : Int} (h : (Lit.int .u32 a).wf = true) : 0 ≤ a ∧ a ≤ 4294967295 := by
  simp [Lit.wf, IntKind.min, IntKind.max, IntKind.bits, IntKind.signed] at h; omega

theorem kept_cell {w1 w2 : World} {cs : Array Value} {t : TypeId} (hb : Below (w1.alloc (.cells cs t)).heap.size (w1.alloc (.cells cs t)) w2) (j : Nat) {v : Value} (hj : cs[j]? = some v) : w2.cell? ⟨w1.heap.size, j, none⟩ = some v := by
  rw [hb.cell (p := ⟨w1.heap.size, j, none⟩) (by simp), World.cell?_alloc_at _ _ _ _ rfl]
  simpa using hj

theorem kept_on {w2 w3 : World} {o : Obj} (hb : Below (w2.alloc o).heap.size (w2.alloc o) w3) {p : Addr} {v : Value} (h : w2.cell? p = some v) : w3.cell? p = some v := by
  rw [(below_one hb).cell (World.block_lt_of_cell? _ _ h)]
  exact h

set_option maxRecDepth 100000 in
set_option maxHeartbeats 4000000 in
theorem WeekOn_walk (n : Int) (w : World) (hn : (Lit.int .u32 n).wf = true) :
    Calls Try.prog 11 #[.int .u32 n] w (Kept (.bool true) w) := by
  obtain ⟨n0, n1⟩ := u32_bd hn
  clear hn
  obtain ⟨k, hk⟩ : ∃ k, n % 146080 = k := ⟨_, rfl⟩
  have k0 : 0 ≤ k ∧ k ≤ 146079 := by omega
  have wd7 : wd (k + 7) = wd k := by unfold wd; omega
  have wd1 : wd (k + 1) = wd k % 7 + 1 := by unfold wd; omega
  have wk7 : wk (k + 7) = wk k + 1 := by unfold wk; split <;> split <;> omega
  have wb := wd_bd k
  have kb : -100000 ≤ wk k ∧ wk k ≤ 100000 := by unfold wk; split <;> omega
  obtain ⟨i1, f1, j1, g1, i2, f2, j2, g2, v1, v2, v3, v4, v5, v6, v7, v8, ⟨b1, b2, b3, b4, b5, b6, b7, b8⟩, cs⟩ := on_ways k
  obtain ⟨wa, hwa⟩ : ∃ wa, wa = wd k := ⟨_, rfl⟩
  obtain ⟨ka, hka⟩ : ∃ ka, ka = wk k := ⟨_, rfl⟩
  rw [← hwa] at wb wd7 wd1
  rw [← hka] at kb wk7
  obtain ⟨ya, hya⟩ : ∃ ya, ya = dY k := ⟨_, rfl⟩
  obtain ⟨ma, hma⟩ : ∃ ma, ma = dM k := ⟨_, rfl⟩
  obtain ⟨yb, hyb⟩ : ∃ yb, yb = dY (k + 7) := ⟨_, rfl⟩
  obtain ⟨mb, hmb⟩ : ∃ mb, mb = dM (k + 7) := ⟨_, rfl⟩
  rw [← hya, ← hma, ← hyb, ← hmb] at cs
  have fa : shV k = .agg #[.int .i64 k, .int .i64 ya, .int .i64 ma, .int .i64 (dD k), .int .i64 (dim (dY k) (dM k) - dD k + 1), .int .i64 wa, .int .i64 i1, .int .i64 f1, .int .i64 j1, .int .i64 g1] := by
    rw [shV_form, ← hya, ← hma, ← hwa]
    unfold od at v3 v4
    rw [hya, hma, v1, v2, v3, v4]
  have fb : shV (k + 7) = .agg #[.int .i64 (k + 7), .int .i64 yb, .int .i64 mb, .int .i64 (dD (k + 7)), .int .i64 (dim (dY (k + 7)) (dM (k + 7)) - dD (k + 7) + 1), .int .i64 wa, .int .i64 i2, .int .i64 f2, .int .i64 j2, .int .i64 g2] := by
    rw [shV_form, wd7]
    unfold od at v7 v8
    rw [hyb, hmb, v5, v6, v7, v8]
  have fc : shV (k + 1) = .agg #[.int .i64 (k + 1), .int .i64 (dY (k + 1)), .int .i64 (dM (k + 1)), .int .i64 (dD (k + 1)), .int .i64 (dim (dY (k + 1)) (dM (k + 1)) - dD (k + 1) + 1), .int .i64 (wa % 7 + 1), .int .i64 (wi (dD (k + 1)) (dim (dY (k + 1)) (dM (k + 1)))), .int .i64 (wo (dD (k + 1)) (dim (dY (k + 1)) (dM (k + 1)))),
      .int .i64 (wi (cum (dY (k + 1)) (dM (k + 1)) + dD (k + 1)) (365 + lp (dY (k + 1)))), .int .i64 (wo (cum (dY (k + 1)) (dM (k + 1)) + dD (k + 1)) (365 + lp (dY (k + 1))))] := by
    rw [shV_form, wd1]
  obtain ⟨a3, h⟩ : ∃ x, x = dD k := ⟨_, rfl⟩
  rw [← h] at fa
  clear h
  obtain ⟨a4, h⟩ : ∃ x, x = dim (dY k) (dM k) - a3 + 1 := ⟨_, rfl⟩
  rw [← h] at fa
  clear h
  obtain ⟨c3, h⟩ : ∃ x, x = dD (k + 7) := ⟨_, rfl⟩
  rw [← h] at fb
  clear h
  obtain ⟨c4, h⟩ : ∃ x, x = dim (dY (k + 7)) (dM (k + 7)) - c3 + 1 := ⟨_, rfl⟩
  rw [← h] at fb
  clear h
  obtain ⟨e1, e2, e3, e4, e6, e7, e8, e9, FC⟩ : ∃ e1 e2 e3 e4 e6 e7 e8 e9 : Int, Hid (shV (k + 1) = .agg #[.int .i64 (k + 1), .int .i64 e1, .int .i64 e2, .int .i64 e3, .int .i64 e4, .int .i64 (wa % 7 + 1), .int .i64 e6, .int .i64 e7, .int .i64 e8, .int .i64 e9]) :=
    ⟨_, _, _, _, _, _, _, _, Lib.hid fc⟩
  have FA := Lib.hid fa
  have FB := Lib.hid fb
  have WK := Lib.hid wk7
  have HKA := Lib.hid hka
  have HK := Lib.hid hk
  clear fa fb fc wk7 hka hk v1 v2 v3 v4 v5 v6 v7 v8 wd7 wd1 hwa hya hma hyb hmb
  have m7 : 0 ≤ wa % 7 ∧ wa % 7 ≤ 6 := by omega
  rcases cs with ⟨c1, c2, c3, c4, c5, c6⟩ | ⟨c1, c2, c3, c4, c5, c6⟩ | ⟨c1, c2, c3, c4, c5, c6⟩
  all_goals
    subst c3 c4 c5 c6 c2
    first
      | subst c1
      | (have x1 : (ma == mb) = false := beq_eq_false_iff_ne.2 (Ne.symm c1)
         have x2 : (ma != mb) = true := bne_iff_ne.2 (Ne.symm c1)
         clear c1)
    go_enter Try.func11, Try.ntmps11
    go_wp2_with fail
    rw [HK.out]
    refine (shape_yes _ _ (by omega) (by omega)).mono ?_
    rintro e w1 ⟨rfl, hb⟩
    rw [FA.out]
    have HB1 := Lib.hid hb
    clear hb
    go_wp2_with fail
    refine (shape_yes _ _ (by omega) (by omega)).mono ?_
    rintro e w2 ⟨rfl, hb⟩
    rw [FB.out]
    have HB2 := Lib.hid hb
    clear hb
    go_wp2_with fail
    refine (shape_yes _ _ (by omega) (by omega)).mono ?_
    rintro e w3 ⟨rfl, hb⟩
    rw [FC.out]
    have HB3 := Lib.hid hb
    clear hb
    have z1 : w1.heap.size < w2.heap.size := by have := HB2.out.size; simp at this; omega
    have z2 : w2.heap.size < w3.heap.size := by have := HB3.out.size; simp at this; omega
    have z3 : w1.heap.size < w3.heap.size := by omega
    have q1 := kept_on HB3.out (kept_cell HB2.out 1 rfl)
    have q2 := kept_on HB3.out (kept_cell HB2.out 2 rfl)
    have q5 := kept_on HB3.out (kept_cell HB2.out 5 rfl)
    have q6 := kept_on HB3.out (kept_cell HB2.out 6 rfl)
    have q7 := kept_on HB3.out (kept_cell HB2.out 7 rfl)
    have q8 := kept_on HB3.out (kept_cell HB2.out 8 rfl)
    have q9 := kept_on HB3.out (kept_cell HB2.out 9 rfl)
    have r1 := kept_cell HB3.out 1 rfl
    have r2 := kept_cell HB3.out 2 rfl
    have r5 := kept_cell HB3.out 5 rfl
    have r6 := kept_cell HB3.out 6 rfl
    have r7 := kept_cell HB3.out 7 rfl
    have r8 := kept_cell HB3.out 8 rfl
    have r9 := kept_cell HB3.out 9 rfl
    have HW := Lib.hid (below_on (below_on HB1.out (below_one HB2.out)) (below_one HB3.out))
    go_wp2_with fail
    refine (wnum_any _ _ (by omega) (by omega)).mono ?_
    rintro e w' ⟨rfl, rfl⟩
    rw [WK.out]
    go_wp2_with fail
    refine (wnum_any _ _ (by omega) (by omega)).mono ?_
    rintro e w' ⟨rfl, rfl⟩
    rw [← HKA.out]
    go_wp2_with fail
    refine (week_lives _).mono ?_
    rintro e w4 ⟨rfl, hb⟩
    have HB4 := Lib.hid (below_on (HW.out.alloc HW.out.size _) hb)
    clear hb
    go_wp2
    go_ret
    exact ⟨rfl, HB4.out⟩
end Go.Proofs.Ytnoomlakgfdaeaa
