/- The walk of ferialaw28.CalEach. -/
import Derived.Test.YticloblhdjnjkaaCalQ0
import Derived.Test.YticloblhdjnjkaaCalQ1
import Derived.Test.YticloblhdjnjkaaCalQ2
import Derived.Test.YticloblhdjnjkaaCalQ3
import Derived.Test.YticloblhdjnjkaaCalQ4
import Derived.Test.YticloblhdjnjkaaCalQ5
import Derived.Test.YticloblhdjnjkaaCalQ6
namespace Go.Proofs.Yticloblhdjnjkaa
open Go.RowKit

set_option maxRecDepth 100000 in
set_option maxHeartbeats 8000000 in
theorem each_g1 (l m : Nat → Sl) (b b' : Bool) (f : Int) (w : World) (hl : ∀ j, (l j).ok w) (hm : ∀ j, (m j).ok w) (hg1 : greatB l = true) :
    Calls Try.prog 11 #[calV l b, calV m b', .int .u8 f] w (Kept (.bool true) w) := by
  have g1 := great_any l b
  have g2 := great_any m b'
  have s1 := fun W (h : Below w.heap.size w W) => check_any l b W (fun j => (hl j).below h)
  have s2 := fun W (h : Below w.heap.size w W) => check_any m b' W (fun j => (hm j).below h)
  rw [hg1] at g1
  obtain ⟨A0, n0, c0, q0⟩ := Sl.v_form (l 0)
  obtain ⟨A1, n1, c1, q1⟩ := Sl.v_form (l 1)
  obtain ⟨A2, n2, c2, q2⟩ := Sl.v_form (l 2)
  obtain ⟨A3, n3, c3, q3⟩ := Sl.v_form (l 3)
  obtain ⟨A4, n4, c4, q4⟩ := Sl.v_form (l 4)
  obtain ⟨A5, n5, c5, q5⟩ := Sl.v_form (l 5)
  obtain ⟨A6, n6, c6, q6⟩ := Sl.v_form (l 6)
  obtain ⟨A0', n0', c0', r0⟩ := Sl.v_form (m 0)
  obtain ⟨A1', n1', c1', r1⟩ := Sl.v_form (m 1)
  obtain ⟨A2', n2', c2', r2⟩ := Sl.v_form (m 2)
  obtain ⟨A3', n3', c3', r3⟩ := Sl.v_form (m 3)
  obtain ⟨A4', n4', c4', r4⟩ := Sl.v_form (m 4)
  obtain ⟨A5', n5', c5', r5⟩ := Sl.v_form (m 5)
  obtain ⟨A6', n6', c6', r6⟩ := Sl.v_form (m 6)
  unfold calV at g1 g2 s1 s2 ⊢
  rw [q0, q1, q2, q3, q4, q5, q6, r0, r1, r2, r3, r4, r5, r6]
  simp only [q0, q1, q2, q3, q4, q5, q6] at g1 s1
  simp only [r0, r1, r2, r3, r4, r5, r6] at g2 s2
  have hx1 := (Ev.box w (.slice A0 n0 c0) (.slice A1 n1 c1) (.slice A2 n2 c2) (.slice A3 n3 c3) (.bool b) (.slice A4 n4 c4) (.slice A5 n5 c5) (.slice A6 n6 c6) 57).below ((Below.refl _ _).alloc (Nat.le_refl _) (.cells #[.slice A0' n0' c0', .slice A1' n1' c1', .slice A2' n2' c2', .slice A3' n3' c3', .bool b', .slice A4' n4' c4', .slice A5' n5' c5', .slice A6' n6' c6'] 57))
  have hx2 := Ev.box (w.alloc (.cells #[.slice A0 n0 c0, .slice A1 n1 c1, .slice A2 n2 c2, .slice A3 n3 c3, .bool b, .slice A4 n4 c4, .slice A5 n5 c5, .slice A6 n6 c6] 57)) (.slice A0' n0' c0') (.slice A1' n1' c1') (.slice A2' n2' c2') (.slice A3' n3' c3') (.bool b') (.slice A4' n4' c4') (.slice A5' n5' c5') (.slice A6' n6' c6') 57
  rw [World.size_alloc] at hx2
  have H1 := Lib.hid hx1
  have H2 := Lib.hid hx2
  have G1H := Lib.hid g1
  have G2H := Lib.hid g2
  have S1 := Lib.hid s1
  have S2 := Lib.hid s2
  clear g1 g2 s1 s2 hx1 hx2 hl hm q0 q1 q2 q3 q4 q5 q6 r0 r1 r2 r3 r4 r5 r6
  have HB0 : Hid (Below w.heap.size w ((w.alloc (.cells #[.slice A0 n0 c0, .slice A1 n1 c1, .slice A2 n2 c2, .slice A3 n3 c3, .bool b, .slice A4 n4 c4, .slice A5 n5 c5, .slice A6 n6 c6] 57)).alloc (.cells #[.slice A0' n0' c0', .slice A1' n1' c1', .slice A2' n2' c2', .slice A3' n3' c3', .bool b', .slice A4' n4' c4', .slice A5' n5' c5', .slice A6' n6' c6'] 57))) := Lib.hid (((Below.refl _ _).alloc (Nat.le_refl _) _).alloc (by simp) _)
  go_enter Try.func11, Try.ntmps11
  go_wp2_with fail
  refine (G1H.out _).mono ?_
  rintro e w1 ⟨rfl, hb⟩
  have X1 := Lib.hid (H1.out.below hb)
  have X2 := Lib.hid (H2.out.below hb)
  have HB1 := Lib.hid (below_on HB0.out hb)
  clear hb
  go_wp2_with fail
  refine (cal_lives _).mono ?_
  rintro e w9 ⟨rfl, hb⟩
  have HB9 := Lib.hid (below_on HB1.out hb)
  clear hb
  go_wp2
  go_ret
  exact ⟨rfl, HB9.out⟩

set_option maxRecDepth 100000 in
set_option maxHeartbeats 8000000 in
theorem each_g2 (l m : Nat → Sl) (b b' : Bool) (f : Int) (w : World) (hl : ∀ j, (l j).ok w) (hm : ∀ j, (m j).ok w) (hg1 : greatB l = false) (hg2 : greatB m = true) :
    Calls Try.prog 11 #[calV l b, calV m b', .int .u8 f] w (Kept (.bool true) w) := by
  have g1 := great_any l b
  have g2 := great_any m b'
  have s1 := fun W (h : Below w.heap.size w W) => check_any l b W (fun j => (hl j).below h)
  have s2 := fun W (h : Below w.heap.size w W) => check_any m b' W (fun j => (hm j).below h)
  rw [hg1] at g1
  rw [hg2] at g2
  obtain ⟨A0, n0, c0, q0⟩ := Sl.v_form (l 0)
  obtain ⟨A1, n1, c1, q1⟩ := Sl.v_form (l 1)
  obtain ⟨A2, n2, c2, q2⟩ := Sl.v_form (l 2)
  obtain ⟨A3, n3, c3, q3⟩ := Sl.v_form (l 3)
  obtain ⟨A4, n4, c4, q4⟩ := Sl.v_form (l 4)
  obtain ⟨A5, n5, c5, q5⟩ := Sl.v_form (l 5)
  obtain ⟨A6, n6, c6, q6⟩ := Sl.v_form (l 6)
  obtain ⟨A0', n0', c0', r0⟩ := Sl.v_form (m 0)
  obtain ⟨A1', n1', c1', r1⟩ := Sl.v_form (m 1)
  obtain ⟨A2', n2', c2', r2⟩ := Sl.v_form (m 2)
  obtain ⟨A3', n3', c3', r3⟩ := Sl.v_form (m 3)
  obtain ⟨A4', n4', c4', r4⟩ := Sl.v_form (m 4)
  obtain ⟨A5', n5', c5', r5⟩ := Sl.v_form (m 5)
  obtain ⟨A6', n6', c6', r6⟩ := Sl.v_form (m 6)
  unfold calV at g1 g2 s1 s2 ⊢
  rw [q0, q1, q2, q3, q4, q5, q6, r0, r1, r2, r3, r4, r5, r6]
  simp only [q0, q1, q2, q3, q4, q5, q6] at g1 s1
  simp only [r0, r1, r2, r3, r4, r5, r6] at g2 s2
  have hx1 := (Ev.box w (.slice A0 n0 c0) (.slice A1 n1 c1) (.slice A2 n2 c2) (.slice A3 n3 c3) (.bool b) (.slice A4 n4 c4) (.slice A5 n5 c5) (.slice A6 n6 c6) 57).below ((Below.refl _ _).alloc (Nat.le_refl _) (.cells #[.slice A0' n0' c0', .slice A1' n1' c1', .slice A2' n2' c2', .slice A3' n3' c3', .bool b', .slice A4' n4' c4', .slice A5' n5' c5', .slice A6' n6' c6'] 57))
  have hx2 := Ev.box (w.alloc (.cells #[.slice A0 n0 c0, .slice A1 n1 c1, .slice A2 n2 c2, .slice A3 n3 c3, .bool b, .slice A4 n4 c4, .slice A5 n5 c5, .slice A6 n6 c6] 57)) (.slice A0' n0' c0') (.slice A1' n1' c1') (.slice A2' n2' c2') (.slice A3' n3' c3') (.bool b') (.slice A4' n4' c4') (.slice A5' n5' c5') (.slice A6' n6' c6') 57
  rw [World.size_alloc] at hx2
  have H1 := Lib.hid hx1
  have H2 := Lib.hid hx2
  have G1H := Lib.hid g1
  have G2H := Lib.hid g2
  have S1 := Lib.hid s1
  have S2 := Lib.hid s2
  clear g1 g2 s1 s2 hx1 hx2 hl hm q0 q1 q2 q3 q4 q5 q6 r0 r1 r2 r3 r4 r5 r6
  have HB0 : Hid (Below w.heap.size w ((w.alloc (.cells #[.slice A0 n0 c0, .slice A1 n1 c1, .slice A2 n2 c2, .slice A3 n3 c3, .bool b, .slice A4 n4 c4, .slice A5 n5 c5, .slice A6 n6 c6] 57)).alloc (.cells #[.slice A0' n0' c0', .slice A1' n1' c1', .slice A2' n2' c2', .slice A3' n3' c3', .bool b', .slice A4' n4' c4', .slice A5' n5' c5', .slice A6' n6' c6'] 57))) := Lib.hid (((Below.refl _ _).alloc (Nat.le_refl _) _).alloc (by simp) _)
  go_enter Try.func11, Try.ntmps11
  go_wp2_with fail
  refine (G1H.out _).mono ?_
  rintro e w1 ⟨rfl, hb⟩
  have X1 := Lib.hid (H1.out.below hb)
  have X2 := Lib.hid (H2.out.below hb)
  have HB1 := Lib.hid (below_on HB0.out hb)
  clear hb
  obtain ⟨e0, e1, e2, e3, e4, e5, e6, e7⟩ := X2.out
  go_wp2_with fail
  refine (G2H.out _).mono ?_
  rintro e w2 ⟨rfl, hb⟩
  have Y1 := Lib.hid (X1.out.below hb)
  have Y2 := Lib.hid (X2.out.below hb)
  have HB2 := Lib.hid (below_on HB1.out hb)
  clear hb e0 e1 e2 e3 e4 e5 e6 e7
  go_wp2_with fail
  refine (cal_lives _).mono ?_
  rintro e w9 ⟨rfl, hb⟩
  have HB9 := Lib.hid (below_on HB2.out hb)
  clear hb
  go_wp2
  go_ret
  exact ⟨rfl, HB9.out⟩

set_option maxRecDepth 100000 in
set_option maxHeartbeats 8000000 in
theorem each_e (l m : Nat → Sl) (b b' : Bool) (f : Int) (w : World) (hl : ∀ j, (l j).ok w) (hm : ∀ j, (m j).ok w) (hg1 : greatB l = false) (hg2 : greatB m = false) (hE : ¬ ((chk l).2 = 0 ∧ (chk m).2 = 0)) :
    Calls Try.prog 11 #[calV l b, calV m b', .int .u8 f] w (Kept (.bool true) w) := by
  have g1 := great_any l b
  have g2 := great_any m b'
  have s1 := fun W (h : Below w.heap.size w W) => check_any l b W (fun j => (hl j).below h)
  have s2 := fun W (h : Below w.heap.size w W) => check_any m b' W (fun j => (hm j).below h)
  rw [hg1] at g1
  rw [hg2] at g2
  obtain ⟨N1, hN1⟩ : ∃ x, x = (chk l).1 := ⟨_, rfl⟩
  obtain ⟨N2, hN2⟩ : ∃ x, x = (chk m).1 := ⟨_, rfl⟩
  obtain ⟨E1, hEE1⟩ : ∃ x, x = (chk l).2 := ⟨_, rfl⟩
  obtain ⟨E2, hEE2⟩ : ∃ x, x = (chk m).2 := ⟨_, rfl⟩
  simp only [← hN1, ← hEE1] at s1
  simp only [← hN2, ← hEE2] at s2
  rw [← hEE1] at hE
  try rw [← hEE2] at hE
  obtain ⟨A0, n0, c0, q0⟩ := Sl.v_form (l 0)
  obtain ⟨A1, n1, c1, q1⟩ := Sl.v_form (l 1)
  obtain ⟨A2, n2, c2, q2⟩ := Sl.v_form (l 2)
  obtain ⟨A3, n3, c3, q3⟩ := Sl.v_form (l 3)
  obtain ⟨A4, n4, c4, q4⟩ := Sl.v_form (l 4)
  obtain ⟨A5, n5, c5, q5⟩ := Sl.v_form (l 5)
  obtain ⟨A6, n6, c6, q6⟩ := Sl.v_form (l 6)
  obtain ⟨A0', n0', c0', r0⟩ := Sl.v_form (m 0)
  obtain ⟨A1', n1', c1', r1⟩ := Sl.v_form (m 1)
  obtain ⟨A2', n2', c2', r2⟩ := Sl.v_form (m 2)
  obtain ⟨A3', n3', c3', r3⟩ := Sl.v_form (m 3)
  obtain ⟨A4', n4', c4', r4⟩ := Sl.v_form (m 4)
  obtain ⟨A5', n5', c5', r5⟩ := Sl.v_form (m 5)
  obtain ⟨A6', n6', c6', r6⟩ := Sl.v_form (m 6)
  unfold calV at g1 g2 s1 s2 ⊢
  rw [q0, q1, q2, q3, q4, q5, q6, r0, r1, r2, r3, r4, r5, r6]
  simp only [q0, q1, q2, q3, q4, q5, q6] at g1 s1
  simp only [r0, r1, r2, r3, r4, r5, r6] at g2 s2
  have hx1 := (Ev.box w (.slice A0 n0 c0) (.slice A1 n1 c1) (.slice A2 n2 c2) (.slice A3 n3 c3) (.bool b) (.slice A4 n4 c4) (.slice A5 n5 c5) (.slice A6 n6 c6) 57).below ((Below.refl _ _).alloc (Nat.le_refl _) (.cells #[.slice A0' n0' c0', .slice A1' n1' c1', .slice A2' n2' c2', .slice A3' n3' c3', .bool b', .slice A4' n4' c4', .slice A5' n5' c5', .slice A6' n6' c6'] 57))
  have hx2 := Ev.box (w.alloc (.cells #[.slice A0 n0 c0, .slice A1 n1 c1, .slice A2 n2 c2, .slice A3 n3 c3, .bool b, .slice A4 n4 c4, .slice A5 n5 c5, .slice A6 n6 c6] 57)) (.slice A0' n0' c0') (.slice A1' n1' c1') (.slice A2' n2' c2') (.slice A3' n3' c3') (.bool b') (.slice A4' n4' c4') (.slice A5' n5' c5') (.slice A6' n6' c6') 57
  rw [World.size_alloc] at hx2
  have H1 := Lib.hid hx1
  have H2 := Lib.hid hx2
  have G1H := Lib.hid g1
  have G2H := Lib.hid g2
  have S1 := Lib.hid s1
  have S2 := Lib.hid s2
  clear g1 g2 s1 s2 hx1 hx2 hl hm q0 q1 q2 q3 q4 q5 q6 r0 r1 r2 r3 r4 r5 r6
  clear hN1 hN2 hEE1 hEE2
  have HB0 : Hid (Below w.heap.size w ((w.alloc (.cells #[.slice A0 n0 c0, .slice A1 n1 c1, .slice A2 n2 c2, .slice A3 n3 c3, .bool b, .slice A4 n4 c4, .slice A5 n5 c5, .slice A6 n6 c6] 57)).alloc (.cells #[.slice A0' n0' c0', .slice A1' n1' c1', .slice A2' n2' c2', .slice A3' n3' c3', .bool b', .slice A4' n4' c4', .slice A5' n5' c5', .slice A6' n6' c6'] 57))) := Lib.hid (((Below.refl _ _).alloc (Nat.le_refl _) _).alloc (by simp) _)
  have way : (E1 != 0) = true ∨ ((E1 != 0) = false ∧ (E2 != 0) = true) := by
    by_cases c : E1 = 0
    · right
      refine ⟨by rw [c]; rfl, ?_⟩
      rw [bne_iff_ne]
      intro c2
      exact hE ⟨c, c2⟩
    · left
      rw [bne_iff_ne]
      exact c
  clear hE
  rcases way with x1 | ⟨x1, x2⟩
  · go_enter Try.func11, Try.ntmps11
    go_wp2_with fail
    refine (G1H.out _).mono ?_
    rintro e w1 ⟨rfl, hb⟩
    have X1 := Lib.hid (H1.out.below hb)
    have X2 := Lib.hid (H2.out.below hb)
    have HB1 := Lib.hid (below_on HB0.out hb)
    clear hb
    obtain ⟨e0, e1, e2, e3, e4, e5, e6, e7⟩ := X2.out
    go_wp2_with fail
    refine (G2H.out _).mono ?_
    rintro e w2 ⟨rfl, hb⟩
    have Y1 := Lib.hid (X1.out.below hb)
    have Y2 := Lib.hid (X2.out.below hb)
    have HB2 := Lib.hid (below_on HB1.out hb)
    clear hb e0 e1 e2 e3 e4 e5 e6 e7
    obtain ⟨d0, d1, d2, d3, d4, d5, d6, d7⟩ := Y1.out
    go_wp2_with fail
    refine (S1.out _ HB2.out).mono ?_
    rintro e w3 ⟨rfl, hb⟩
    have Z2 := Lib.hid (Y2.out.below hb)
    have HB3 := Lib.hid (below_on HB2.out hb)
    clear hb d0 d1 d2 d3 d4 d5 d6 d7
    obtain ⟨e0, e1, e2, e3, e4, e5, e6, e7⟩ := Z2.out
    go_wp2_with fail
    refine (S2.out _ HB3.out).mono ?_
    rintro e w4 ⟨rfl, hb⟩
    have HB4 := Lib.hid (below_on HB3.out hb)
    clear hb e0 e1 e2 e3 e4 e5 e6 e7
    go_wp2_with fail
    refine (cal_lives _).mono ?_
    rintro e w9 ⟨rfl, hb⟩
    have HB9 := Lib.hid (below_on HB4.out hb)
    clear hb
    go_wp2
    go_ret
    exact ⟨rfl, HB9.out⟩
  · go_enter Try.func11, Try.ntmps11
    go_wp2_with fail
    refine (G1H.out _).mono ?_
    rintro e w1 ⟨rfl, hb⟩
    have X1 := Lib.hid (H1.out.below hb)
    have X2 := Lib.hid (H2.out.below hb)
    have HB1 := Lib.hid (below_on HB0.out hb)
    clear hb
    obtain ⟨e0, e1, e2, e3, e4, e5, e6, e7⟩ := X2.out
    go_wp2_with fail
    refine (G2H.out _).mono ?_
    rintro e w2 ⟨rfl, hb⟩
    have Y1 := Lib.hid (X1.out.below hb)
    have Y2 := Lib.hid (X2.out.below hb)
    have HB2 := Lib.hid (below_on HB1.out hb)
    clear hb e0 e1 e2 e3 e4 e5 e6 e7
    obtain ⟨d0, d1, d2, d3, d4, d5, d6, d7⟩ := Y1.out
    go_wp2_with fail
    refine (S1.out _ HB2.out).mono ?_
    rintro e w3 ⟨rfl, hb⟩
    have Z2 := Lib.hid (Y2.out.below hb)
    have HB3 := Lib.hid (below_on HB2.out hb)
    clear hb d0 d1 d2 d3 d4 d5 d6 d7
    obtain ⟨e0, e1, e2, e3, e4, e5, e6, e7⟩ := Z2.out
    go_wp2_with fail
    refine (S2.out _ HB3.out).mono ?_
    rintro e w4 ⟨rfl, hb⟩
    have HB4 := Lib.hid (below_on HB3.out hb)
    clear hb e0 e1 e2 e3 e4 e5 e6 e7
    go_wp2_with fail
    refine (cal_lives _).mono ?_
    rintro e w9 ⟨rfl, hb⟩
    have HB9 := Lib.hid (below_on HB4.out hb)
    clear hb
    go_wp2
    go_ret
    exact ⟨rfl, HB9.out⟩

theorem CalEach_walk (l m : Nat → Sl) (b b' : Bool) (f : Int) (w : World) (hl : ∀ j, (l j).ok w) (hm : ∀ j, (m j).ok w) (hf : (Lit.int .u8 f).wf = true) :
    Calls Try.prog 11 #[calV l b, calV m b', .int .u8 f] w (Kept (.bool true) w) := by
  obtain ⟨f0, f1⟩ := u8_bd hf
  cases hg1 : greatB l
  · cases hg2 : greatB m
    · by_cases hE : (chk l).2 = 0 ∧ (chk m).2 = 0
      · rcases (show f % 7 = 0 ∨ f % 7 = 1 ∨ f % 7 = 2 ∨ f % 7 = 3 ∨ f % 7 = 4 ∨ f % 7 = 5 ∨ f % 7 = 6 by omega) with h | h | h | h | h | h | h
        · exact each_0 l m b b' f w hl hm f0 f1 h hg1 hg2 hE.1 hE.2
        · exact each_1 l m b b' f w hl hm f0 f1 h hg1 hg2 hE.1 hE.2
        · exact each_2 l m b b' f w hl hm f0 f1 h hg1 hg2 hE.1 hE.2
        · exact each_3 l m b b' f w hl hm f0 f1 h hg1 hg2 hE.1 hE.2
        · exact each_4 l m b b' f w hl hm f0 f1 h hg1 hg2 hE.1 hE.2
        · exact each_5 l m b b' f w hl hm f0 f1 h hg1 hg2 hE.1 hE.2
        · exact each_6 l m b b' f w hl hm f0 f1 h hg1 hg2 hE.1 hE.2
      · exact each_e l m b b' f w hl hm hg1 hg2 hE
    · exact each_g2 l m b b' f w hl hm hg1 hg2
  · exact each_g1 l m b b' f w hl hm hg1
end Go.Proofs.Yticloblhdjnjkaa
