/- The chapter's example; the walk of ferialaw28.CalChecks. -/
import Derived.Test.YticloblhdjnjkaaCalH
namespace Go.Proofs.Yticloblhdjnjkaa
open Go.RowKit

def starL (B : Nat) (j : Nat) : Sl := match j with
  | 0 => ⟨none, 0, []⟩
  | _ + 1 => ⟨some ⟨B, 0, none⟩, 1, [⟨0, 0, 0, 1⟩]⟩
theorem star_chk (B : Nat) : chk (starL B) = (7, 0) := by rfl
theorem star_ok (w : World) (t : TypeId) (j : Nat) : (starL w.heap.size j).ok (w.alloc (.cells #[.int .i64 0, .int .i64 0, .int .i64 0, .int .i64 1] t)) := by
  match j with
  | 0 => exact ⟨fun k hk => absurd hk (by simp [starL]), by simp [starL]⟩
  | j + 1 =>
    refine ⟨fun k hk => ?_, by simp [starL]⟩
    obtain rfl : k = 0 := by simp [starL] at hk; exact hk
    exact ⟨w.heap.size, 0, rfl, by go_simp; rfl, by go_simp; rfl, by go_simp; rfl, by go_simp; rfl⟩

set_option maxRecDepth 100000 in
set_option maxHeartbeats 4000000 in
theorem cal_lives (w : World) : Calls Try.prog 36 #[] w (Kept (.bool true) w) := by
  have hc := check_any (starL w.heap.size) false (w.alloc (.cells #[.int .i64 0, .int .i64 0, .int .i64 0, .int .i64 1] 77)) (star_ok w _)
  rw [star_chk] at hc
  have HC := Lib.hid hc
  clear hc
  go_enter Try.func36, Try.ntmps36
  go_wp2_with fail
  refine HC.out.mono ?_
  rintro e w1 ⟨rfl, hb⟩
  have HB1 := Lib.hid (bel_one hb)
  clear hb
  go_wp2_with fail
  refine (bounds_any _ _).mono ?_
  rintro e w2 ⟨rfl, hb⟩
  rw [show bLo 1 = 1970 from rfl, show bHi 1 = 2369 from rfl]
  have HB2 := Lib.hid (below_on HB1.out hb)
  clear hb
  go_wp2
  go_ret
  exact ⟨rfl, HB2.out⟩

/-- an event's cells, one by one -/
structure Ev (W : World) (B : Nat) (v0 v1 v2 v3 v4 v5 v6 v7 : Value) : Prop where
  c0 : W.cell? ⟨B, 0, none⟩ = some v0
  c1 : W.cell? ⟨B, 1, none⟩ = some v1
  c2 : W.cell? ⟨B, 2, none⟩ = some v2
  c3 : W.cell? ⟨B, 3, none⟩ = some v3
  c4 : W.cell? ⟨B, 4, none⟩ = some v4
  c5 : W.cell? ⟨B, 5, none⟩ = some v5
  c6 : W.cell? ⟨B, 6, none⟩ = some v6
  c7 : W.cell? ⟨B, 7, none⟩ = some v7
theorem Ev.below {w w' : World} {B : Nat} {v0 v1 v2 v3 v4 v5 v6 v7 : Value} (h : Ev w B v0 v1 v2 v3 v4 v5 v6 v7) (hb : Below w.heap.size w w') : Ev w' B v0 v1 v2 v3 v4 v5 v6 v7 := by
  have bl := World.block_lt_of_cell? _ _ h.c0
  exact ⟨(hb.cell (p := ⟨B, 0, none⟩) bl).trans h.c0, (hb.cell (p := ⟨B, 1, none⟩) bl).trans h.c1, (hb.cell (p := ⟨B, 2, none⟩) bl).trans h.c2, (hb.cell (p := ⟨B, 3, none⟩) bl).trans h.c3,
    (hb.cell (p := ⟨B, 4, none⟩) bl).trans h.c4, (hb.cell (p := ⟨B, 5, none⟩) bl).trans h.c5, (hb.cell (p := ⟨B, 6, none⟩) bl).trans h.c6, (hb.cell (p := ⟨B, 7, none⟩) bl).trans h.c7⟩
theorem Ev.box (w : World) (v0 v1 v2 v3 v4 v5 v6 v7 : Value) (t : TypeId) : Ev (w.alloc (.cells #[v0, v1, v2, v3, v4, v5, v6, v7] t)) w.heap.size v0 v1 v2 v3 v4 v5 v6 v7 := by
  refine ⟨?_, ?_, ?_, ?_, ?_, ?_, ?_, ?_⟩
  all_goals (rw [World.cell?_alloc_at _ _ _ _ rfl]; rfl)

set_option maxRecDepth 100000 in
set_option maxHeartbeats 4000000 in
theorem CalChecks_walk (l : Nat → Sl) (b : Bool) (w : World) (hok : ∀ j, (l j).ok w) : Calls Try.prog 10 #[calV l b] w (Kept (.bool true) w) := by
  have h1 := great_any l b
  have h2 := fun W (h : Below w.heap.size w W) => check_any l b W (fun j => (hok j).below h)
  have h3 := fun W (h : Below w.heap.size w W) => rcheck_any l b W (fun j => (hok j).below h)
  obtain ⟨R1, hR1⟩ : ∃ R, R = (chk l).1 := ⟨_, rfl⟩
  obtain ⟨R2, hR2⟩ : ∃ R, R = (chk l).2 := ⟨_, rfl⟩
  simp only [← hR1, ← hR2] at h2 h3
  clear hR1 hR2 hok
  obtain ⟨A0, n0, c0, q0⟩ := Sl.v_form (l 0)
  obtain ⟨A1, n1, c1, q1⟩ := Sl.v_form (l 1)
  obtain ⟨A2, n2, c2, q2⟩ := Sl.v_form (l 2)
  obtain ⟨A3, n3, c3, q3⟩ := Sl.v_form (l 3)
  obtain ⟨A4, n4, c4, q4⟩ := Sl.v_form (l 4)
  obtain ⟨A5, n5, c5, q5⟩ := Sl.v_form (l 5)
  obtain ⟨A6, n6, c6, q6⟩ := Sl.v_form (l 6)
  unfold calV at h1 h2 h3 ⊢
  rw [q0, q1, q2, q3, q4, q5, q6]
  simp only [q0, q1, q2, q3, q4, q5, q6] at h1 h2 h3
  obtain ⟨gb, hgb⟩ : ∃ x, x = greatB l := ⟨_, rfl⟩
  simp only [← hgb] at h1
  clear q0 q1 q2 q3 q4 q5 q6 hgb
  have HX := Lib.hid (Ev.box w (.slice A0 n0 c0) (.slice A1 n1 c1) (.slice A2 n2 c2) (.slice A3 n3 c3) (.bool b) (.slice A4 n4 c4) (.slice A5 n5 c5) (.slice A6 n6 c6) 57)
  have H1 := Lib.hid h1
  have H2 := Lib.hid h2
  have H3 := Lib.hid h3
  clear h1 h2 h3
  cases gb
  · go_enter Try.func10, Try.ntmps10
    go_wp2_with fail
    refine (H1.out _).mono ?_
    rintro e w1 ⟨rfl, hb⟩
    have HE1 := Lib.hid (HX.out.below hb)
    have HB1 := Lib.hid (bel_one hb)
    clear hb
    obtain ⟨d0, d1, d2, d3, d4, d5, d6, d7⟩ := HE1.out
    go_wp2_with fail
    refine (H2.out _ HB1.out).mono ?_
    rintro e w2 ⟨rfl, hb⟩
    have HE2 := Lib.hid (HE1.out.below hb)
    have HB2 := Lib.hid (below_on HB1.out hb)
    clear hb d0 d1 d2 d3 d4 d5 d6 d7
    obtain ⟨d0, d1, d2, d3, d4, d5, d6, d7⟩ := HE2.out
    go_wp2_with fail
    refine (H3.out _ HB2.out).mono ?_
    rintro e w3 ⟨rfl, hb⟩
    have HB3 := Lib.hid (below_on HB2.out hb)
    clear hb d0 d1 d2 d3 d4 d5 d6 d7
    go_wp2_with fail
    refine (cal_lives _).mono ?_
    rintro e w4 ⟨rfl, hb⟩
    have HB4 := Lib.hid (below_on HB3.out hb)
    clear hb
    go_wp2
    go_ret
    exact ⟨rfl, HB4.out⟩
  · go_enter Try.func10, Try.ntmps10
    go_wp2_with fail
    refine (H1.out _).mono ?_
    rintro e w1 ⟨rfl, hb⟩
    have HB1 := Lib.hid (bel_one hb)
    clear hb
    go_wp2_with fail
    refine (cal_lives _).mono ?_
    rintro e w4 ⟨rfl, hb⟩
    have HB4 := Lib.hid (below_on HB1.out hb)
    clear hb
    go_wp2
    go_ret
    exact ⟨rfl, HB4.out⟩
end Go.Proofs.Yticloblhdjnjkaa
