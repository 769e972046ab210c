/- The walk of ferialaw28.CalFields. -/
import Derived.Test.YticloblhdjnjkaaCalM
namespace Go.Proofs.Yticloblhdjnjkaa
open Go.RowKit

set_option maxRecDepth 100000 in
set_option maxHeartbeats 16000000 in
theorem CalFields_walk (l m : Nat → Sl) (b b' : Bool) (f : Int) (w : World) (hl : ∀ j, (l j).ok w) (hm : ∀ j, (m j).ok w) : Calls Try.prog 12 #[calV l b, calV m b', .int .i64 f] w (Kept (.bool true) w) := by
  have g1 := great_any l b
  have g2 := great_any m b'
  have s1 := fun W (h : Below w.heap.size w W) => csame_any l m b b' W (fun j => (hl j).below h) (fun j => (hm j).below h)
  have s2 := fun W (h : Below w.heap.size w W) => rsames_any l m b b' W (fun j => (hl j).below h) (fun j => (hm j).below h)
  have s3 := fun W (h : Below w.heap.size w W) => csame_any m m b' b' W (fun j => (hm j).below h) (fun j => (hm j).below h)
  have t1 := fun W (h : Below w.heap.size w W) (h5 : ∀ j, j < 7 → (l j).xs.length ≤ 500) => field_any f l b W (fun j => (hl j).below h) h5
  have t2 := rfield_any f l b
  have hfo := fld_ok hl f
  have hlen : greatB l = false → ∀ j, j < 7 → (l j).xs.length ≤ 500 := gr_len
  rw [sm_self] at s3
  obtain ⟨SM, hSM⟩ : ∃ x, x = smB l m b b' := ⟨_, rfl⟩
  simp only [← hSM] at s1 s2
  clear hSM
  obtain ⟨A0, n0, c0, q0⟩ := Sl.v_form (l 0)
  obtain ⟨A1, n1, c1, q1⟩ := Sl.v_form (l 1)
  obtain ⟨A2, n2, c2, q2⟩ := Sl.v_form (l 2)
  obtain ⟨A3, n3, c3, q3⟩ := Sl.v_form (l 3)
  obtain ⟨A4, n4, c4, q4⟩ := Sl.v_form (l 4)
  obtain ⟨A5, n5, c5, q5⟩ := Sl.v_form (l 5)
  obtain ⟨A6, n6, c6, q6⟩ := Sl.v_form (l 6)
  obtain ⟨A0', n0', c0', r0⟩ := Sl.v_form (m 0)
  obtain ⟨A1', n1', c1', r1⟩ := Sl.v_form (m 1)
  obtain ⟨A2', n2', c2', r2⟩ := Sl.v_form (m 2)
  obtain ⟨A3', n3', c3', r3⟩ := Sl.v_form (m 3)
  obtain ⟨A4', n4', c4', r4⟩ := Sl.v_form (m 4)
  obtain ⟨A5', n5', c5', r5⟩ := Sl.v_form (m 5)
  obtain ⟨A6', n6', c6', r6⟩ := Sl.v_form (m 6)
  unfold calV at g1 g2 s1 s2 s3 t1 t2 ⊢
  rw [q0, q1, q2, q3, q4, q5, q6, r0, r1, r2, r3, r4, r5, r6]
  simp only [q0, q1, q2, q3, q4, q5, q6] at g1 s1 s2 t1 t2
  simp only [r0, r1, r2, r3, r4, r5, r6] at g2 s1 s2 s3
  have hx1 := (Ev.box w (.slice A0 n0 c0) (.slice A1 n1 c1) (.slice A2 n2 c2) (.slice A3 n3 c3) (.bool b) (.slice A4 n4 c4) (.slice A5 n5 c5) (.slice A6 n6 c6) 57).below ((Below.refl _ _).alloc (Nat.le_refl _) (.cells #[.slice A0' n0' c0', .slice A1' n1' c1', .slice A2' n2' c2', .slice A3' n3' c3', .bool b', .slice A4' n4' c4', .slice A5' n5' c5', .slice A6' n6' c6'] 57))
  have hx2 := Ev.box (w.alloc (.cells #[.slice A0 n0 c0, .slice A1 n1 c1, .slice A2 n2 c2, .slice A3 n3 c3, .bool b, .slice A4 n4 c4, .slice A5 n5 c5, .slice A6 n6 c6] 57)) (.slice A0' n0' c0') (.slice A1' n1' c1') (.slice A2' n2' c2') (.slice A3' n3' c3') (.bool b') (.slice A4' n4' c4') (.slice A5' n5' c5') (.slice A6' n6' c6') 57
  rw [World.size_alloc] at hx2
  obtain ⟨G1, hG1⟩ : ∃ x, x = greatB l := ⟨_, rfl⟩
  obtain ⟨G2, hG2⟩ : ∃ x, x = greatB m := ⟨_, rfl⟩
  rw [← hG1] at hlen
  simp only [← hG1] at g1
  simp only [← hG2] at g2
  obtain ⟨F, hF⟩ : ∃ F, F = fldS l f := ⟨_, rfl⟩
  rw [← hF] at hfo
  simp only [← hF] at t1 t2
  obtain ⟨lo, hlo⟩ : ∃ x, x = bLo f := ⟨_, rfl⟩
  obtain ⟨hi, hhi⟩ : ∃ x, x = bHi f := ⟨_, rfl⟩
  have G1H := Lib.hid g1
  have G2H := Lib.hid g2
  have S1 := Lib.hid s1
  have S2 := Lib.hid s2
  have S3 := Lib.hid s3
  have T1 := Lib.hid t1
  have T2 := Lib.hid t2
  have HFO := Lib.hid hfo
  have HLEN := Lib.hid hlen
  have H1 := Lib.hid hx1
  have H2 := Lib.hid hx2
  have HLO := Lib.hid hlo
  have HHI := Lib.hid hhi
  clear g1 g2 s1 s2 s3 t1 t2 hfo hlen hx1 hx2 hG1 hG2 hF hl hm hlo hhi q0 q1 q2 q3 q4 q5 q6 r0 r1 r2 r3 r4 r5 r6
  have HB0 : Hid (Below w.heap.size w ((w.alloc (.cells #[.slice A0 n0 c0, .slice A1 n1 c1, .slice A2 n2 c2, .slice A3 n3 c3, .bool b, .slice A4 n4 c4, .slice A5 n5 c5, .slice A6 n6 c6] 57)).alloc (.cells #[.slice A0' n0' c0', .slice A1' n1' c1', .slice A2' n2' c2', .slice A3' n3' c3', .bool b', .slice A4' n4' c4', .slice A5' n5' c5', .slice A6' n6' c6'] 57))) := Lib.hid (((Below.refl _ _).alloc (Nat.le_refl _) _).alloc (by simp) _)
  cases G1
  · cases G2
    · have HL5 := Lib.hid (HLEN.out rfl)
      go_enter Try.func12, Try.ntmps12
      go_wp2_with fail
      refine (G1H.out _).mono ?_
      rintro e w1 ⟨rfl, hb⟩
      have X1 := Lib.hid (H1.out.below hb)
      have X2 := Lib.hid (H2.out.below hb)
      have HB1 := Lib.hid (below_on HB0.out hb)
      clear hb
      obtain ⟨e0, e1, e2, e3, e4, e5, e6, e7⟩ := X2.out
      go_wp2_with fail
      refine (G2H.out _).mono ?_
      rintro e w2 ⟨rfl, hb⟩
      have Y1 := Lib.hid (X1.out.below hb)
      have Y2 := Lib.hid (X2.out.below hb)
      have HB2 := Lib.hid (below_on HB1.out hb)
      clear hb e0 e1 e2 e3 e4 e5 e6 e7
      go_wp2_with fail
      refine (bounds_any _ _).mono ?_
      rintro e w3 ⟨rfl, hb⟩
      rw [← HLO.out, ← HHI.out]
      have Z1 := Lib.hid (Y1.out.below hb)
      have Z2 := Lib.hid (Y2.out.below hb)
      have HBB := Lib.hid (below_on HB2.out hb)
      clear hb
      go_wp2_with fail
      refine (rbounds_any _ _).mono ?_
      rintro e w' ⟨rfl, rfl⟩
      rw [← HLO.out, ← HHI.out]
      obtain ⟨d0, d1, d2, d3, d4, d5, d6, d7⟩ := Z1.out
      obtain ⟨e0, e1, e2, e3, e4, e5, e6, e7⟩ := Z2.out
      go_wp2_with fail
      go_region_held3 (fun w' => (Below w.heap.size w w' ∧ w'.cell? ⟨w.heap.size, 0, none⟩ = some (.slice A0 n0 c0) ∧ w'.cell? ⟨w.heap.size, 1, none⟩ = some (.slice A1 n1 c1) ∧ w'.cell? ⟨w.heap.size, 2, none⟩ = some (.slice A2 n2 c2) ∧ w'.cell? ⟨w.heap.size, 3, none⟩ = some (.slice A3 n3 c3) ∧ w'.cell? ⟨w.heap.size, 4, none⟩ = some (.bool b) ∧ w'.cell? ⟨w.heap.size, 5, none⟩ = some (.slice A4 n4 c4) ∧ w'.cell? ⟨w.heap.size, 6, none⟩ = some (.slice A5 n5 c5) ∧ w'.cell? ⟨w.heap.size, 7, none⟩ = some (.slice A6 n6 c6)) ∧ (Below w.heap.size w w' ∧ w'.cell? ⟨w.heap.size + 1, 0, none⟩ = some (.slice A0' n0' c0') ∧ w'.cell? ⟨w.heap.size + 1, 1, none⟩ = some (.slice A1' n1' c1') ∧ w'.cell? ⟨w.heap.size + 1, 2, none⟩ = some (.slice A2' n2' c2') ∧ w'.cell? ⟨w.heap.size + 1, 3, none⟩ = some (.slice A3' n3' c3') ∧ w'.cell? ⟨w.heap.size + 1, 4, none⟩ = some (.bool b') ∧ w'.cell? ⟨w.heap.size + 1, 5, none⟩ = some (.slice A4' n4' c4') ∧ w'.cell? ⟨w.heap.size + 1, 6, none⟩ = some (.slice A5' n5' c5') ∧ w'.cell? ⟨w.heap.size + 1, 7, none⟩ = some (.slice A6' n6' c6')))
        (first | exact ⟨⟨below_drewN HBB.out 1, d0, d1, d2, d3, d4, d5, d6, d7⟩, ⟨below_drewN HBB.out 1, e0, e1, e2, e3, e4, e5, e6, e7⟩⟩ | exact keepEE hb4 (by assumption) | exact keepEE hb5 (by assumption) | exact keepEE hb6 (by assumption) | exact keepEE hb7 (by assumption) | exact keepEE hb8 (by assumption) | exact keepEE hb9 (by assumption) | exact keepEE hb10 (by assumption))
        (first
          | (go_at_call 40; refine (T1.out _ (by assumption : (_ ∧ _) ∧ (_ ∧ _)).1.1 HL5.out).mono ?_; rintro e w4 ⟨l4, rfl, hx4, hok4, hb4⟩)
          | (go_at_call 43; refine (T2.out _).mono ?_; rintro e w5 ⟨rfl, hb5⟩; have hok5 := hok4.below hb5)
          | (go_at_call 39; refine (rsame_any l4 F _ hok5 (HFO.out.below (by assumption : (_ ∧ _) ∧ (_ ∧ _)).1.1)).mono ?_; rintro e w6 ⟨rfl, hb6⟩; rw [hx4, same_refl])
          | (go_at_call 44; first
              | ((with_reducible refine (S1.out _ (by assumption : (_ ∧ _) ∧ (_ ∧ _)).1.1).mono ?_); rintro e w7 ⟨rfl, hb7⟩)
              | ((with_reducible refine (S3.out _ (by assumption : (_ ∧ _) ∧ (_ ∧ _)).1.1).mono ?_); rintro e w9 ⟨rfl, hb9⟩))
          | (go_at_call 45; refine (S2.out _ (by assumption : (_ ∧ _) ∧ (_ ∧ _)).1.1).mono ?_; rintro e w8 ⟨rfl, hb8⟩)
          | (go_at_call 36; refine (cal_lives _).mono ?_; rintro e w10 ⟨rfl, hb10⟩))
      rename_i hh
      have HBE := Lib.hid hh.1.1
      clear hh
      go_wp2
      go_ret
      exact ⟨rfl, HBE.out⟩
    · go_enter Try.func12, Try.ntmps12
      go_wp2_with fail
      refine (G1H.out _).mono ?_
      rintro e w1 ⟨rfl, hb⟩
      have X2 := Lib.hid (H2.out.below hb)
      have HB1 := Lib.hid (below_on HB0.out hb)
      clear hb
      obtain ⟨e0, e1, e2, e3, e4, e5, e6, e7⟩ := X2.out
      go_wp2_with fail
      refine (G2H.out _).mono ?_
      rintro e w2 ⟨rfl, hb⟩
      have HB2 := Lib.hid (below_on HB1.out hb)
      clear hb e0 e1 e2 e3 e4 e5 e6 e7
      go_wp2_with fail
      refine (cal_lives _).mono ?_
      rintro e w4 ⟨rfl, hb⟩
      have HB4 := Lib.hid (below_on HB2.out hb)
      clear hb
      go_wp2
      go_ret
      exact ⟨rfl, HB4.out⟩
  · go_enter Try.func12, Try.ntmps12
    go_wp2_with fail
    refine (G1H.out _).mono ?_
    rintro e w1 ⟨rfl, hb⟩
    have HB1 := Lib.hid (below_on HB0.out hb)
    clear hb
    go_wp2_with fail
    refine (cal_lives _).mono ?_
    rintro e w4 ⟨rfl, hb⟩
    have HB4 := Lib.hid (below_on HB1.out hb)
    clear hb
    go_wp2
    go_ret
    exact ⟨rfl, HB4.out⟩
end Go.Proofs.Yticloblhdjnjkaa
