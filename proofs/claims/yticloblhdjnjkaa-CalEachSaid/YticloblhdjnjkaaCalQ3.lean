/- The walk of ferialaw28.CalEach where the field is number 3. -/
import Derived.Test.YticloblhdjnjkaaCalP
namespace Go.Proofs.Yticloblhdjnjkaa
open Go.RowKit

set_option maxRecDepth 100000 in
set_option maxHeartbeats 16000000 in
theorem each_3 (l m : Nat → Sl) (b b' : Bool) (f : Int) (w : World) (hl : ∀ j, (l j).ok w) (hm : ∀ j, (m j).ok w) (f0 : 0 ≤ f) (f1 : f ≤ 255) (hr : f % 7 = 3) (hg1 : greatB l = false) (hg2 : greatB m = false) (hE1 : (chk l).2 = 0) (hE2 : (chk m).2 = 0) :
    Calls Try.prog 11 #[calV l b, calV m b', .int .u8 f] w (Kept (.bool true) w) := by
  have g1 := great_any l b
  have g2 := great_any m b'
  have s1 := fun W (h : Below w.heap.size w W) => check_any l b W (fun j => (hl j).below h)
  have s2 := fun W (h : Below w.heap.size w W) => check_any m b' W (fun j => (hm j).below h)
  have hln := put_len (l := l) (m := m) 3 (gr_len hg1) (gr_len hg2)
  have hF : fldS (putF l m 3) 3 = fldS m 3 := put_fld l m 3 (by omega)
  have s3 := fun W (h : Below w.heap.size w W) => check_any (putF l m 3) b W (fun j => (put_ok 3 hl hm j).below h)
  have t1 := fun W (h : Below w.heap.size w W) => field_any 3 (putF l m 3) b W (fun j => (put_ok 3 hl hm j).below h) hln
  have t2 := fun W (h : Below w.heap.size w W) => field_any 3 m b' W (fun j => (hm j).below h) (gr_len hg2)
  rw [hF] at t1
  rw [chk_put 3 hE1 hE2] at s3
  rw [hg1] at g1
  rw [hg2] at g2
  dsimp only at s3
  rw [hE1] at s1
  rw [hE2] at s2
  obtain ⟨N1, hN1⟩ : ∃ x, x = (chk l).1 := ⟨_, rfl⟩
  obtain ⟨N2, hN2⟩ : ∃ x, x = (chk m).1 := ⟨_, rfl⟩
  simp only [← hN1] at s1
  simp only [← hN2] at s2
  obtain ⟨F, hFF⟩ : ∃ F, F = fldS m 3 := ⟨_, rfl⟩
  simp only [← hFF] at t1 t2
  have hcv : calV (putF l m 3) b = .agg #[(l 0).v, (l 1).v, (l 2).v, (m 3).v, .bool b, (l 4).v, (l 5).v, (l 6).v] := by
    unfold calV putF
    rfl
  rw [hcv] at s3 t1
  obtain ⟨A0, n0, c0, q0⟩ := Sl.v_form (l 0)
  obtain ⟨A1, n1, c1, q1⟩ := Sl.v_form (l 1)
  obtain ⟨A2, n2, c2, q2⟩ := Sl.v_form (l 2)
  obtain ⟨A3, n3, c3, q3⟩ := Sl.v_form (l 3)
  obtain ⟨A4, n4, c4, q4⟩ := Sl.v_form (l 4)
  obtain ⟨A5, n5, c5, q5⟩ := Sl.v_form (l 5)
  obtain ⟨A6, n6, c6, q6⟩ := Sl.v_form (l 6)
  obtain ⟨A0', n0', c0', r0⟩ := Sl.v_form (m 0)
  obtain ⟨A1', n1', c1', r1⟩ := Sl.v_form (m 1)
  obtain ⟨A2', n2', c2', r2⟩ := Sl.v_form (m 2)
  obtain ⟨A3', n3', c3', r3⟩ := Sl.v_form (m 3)
  obtain ⟨A4', n4', c4', r4⟩ := Sl.v_form (m 4)
  obtain ⟨A5', n5', c5', r5⟩ := Sl.v_form (m 5)
  obtain ⟨A6', n6', c6', r6⟩ := Sl.v_form (m 6)
  unfold calV at g1 g2 s1 s2 t2 ⊢
  rw [q0, q1, q2, q3, q4, q5, q6, r0, r1, r2, r3, r4, r5, r6]
  simp only [q0, q1, q2, q3, q4, q5, q6] at g1 s1 s3 t1
  simp only [r0, r1, r2, r3, r4, r5, r6] at g2 s2 s3 t1 t2
  have hx1 := (Ev.box w (.slice A0 n0 c0) (.slice A1 n1 c1) (.slice A2 n2 c2) (.slice A3 n3 c3) (.bool b) (.slice A4 n4 c4) (.slice A5 n5 c5) (.slice A6 n6 c6) 57).below ((Below.refl _ _).alloc (Nat.le_refl _) (.cells #[.slice A0' n0' c0', .slice A1' n1' c1', .slice A2' n2' c2', .slice A3' n3' c3', .bool b', .slice A4' n4' c4', .slice A5' n5' c5', .slice A6' n6' c6'] 57))
  have hx2 := Ev.box (w.alloc (.cells #[.slice A0 n0 c0, .slice A1 n1 c1, .slice A2 n2 c2, .slice A3 n3 c3, .bool b, .slice A4 n4 c4, .slice A5 n5 c5, .slice A6 n6 c6] 57)) (.slice A0' n0' c0') (.slice A1' n1' c1') (.slice A2' n2' c2') (.slice A3' n3' c3') (.bool b') (.slice A4' n4' c4') (.slice A5' n5' c5') (.slice A6' n6' c6') 57
  rw [World.size_alloc] at hx2
  have H1 := Lib.hid hx1
  have H2 := Lib.hid hx2
  have G1H := Lib.hid g1
  have G2H := Lib.hid g2
  have S1 := Lib.hid s1
  have S2 := Lib.hid s2
  have S3 := Lib.hid s3
  have T1 := Lib.hid t1
  have T2 := Lib.hid t2
  clear g1 g2 s1 s2 s3 t1 t2 hx1 hx2 hln hF hN1 hN2 hFF hcv hl hm hg1 hg2 hE1 hE2 q0 q1 q2 q3 q4 q5 q6 r0 r1 r2 r3 r4 r5 r6
  have HB0 : Hid (Below w.heap.size w ((w.alloc (.cells #[.slice A0 n0 c0, .slice A1 n1 c1, .slice A2 n2 c2, .slice A3 n3 c3, .bool b, .slice A4 n4 c4, .slice A5 n5 c5, .slice A6 n6 c6] 57)).alloc (.cells #[.slice A0' n0' c0', .slice A1' n1' c1', .slice A2' n2' c2', .slice A3' n3' c3', .bool b', .slice A4' n4' c4', .slice A5' n5' c5', .slice A6' n6' c6'] 57))) := Lib.hid (((Below.refl _ _).alloc (Nat.le_refl _) _).alloc (by simp) _)
  have HFZ : Hid (((w.alloc (.cells #[.slice A0 n0 c0, .slice A1 n1 c1, .slice A2 n2 c2, .slice A3 n3 c3, .bool b, .slice A4 n4 c4, .slice A5 n5 c5, .slice A6 n6 c6] 57)).alloc (.cells #[.slice A0' n0' c0', .slice A1' n1' c1', .slice A2' n2' c2', .slice A3' n3' c3', .bool b', .slice A4' n4' c4', .slice A5' n5' c5', .slice A6' n6' c6'] 57)).frozen? ⟨w.heap.size, 3, none⟩ = false) := Lib.hid (by go_simp)
  have hsz : w.heap.size < ((w.alloc (.cells #[.slice A0 n0 c0, .slice A1 n1 c1, .slice A2 n2 c2, .slice A3 n3 c3, .bool b, .slice A4 n4 c4, .slice A5 n5 c5, .slice A6 n6 c6] 57)).alloc (.cells #[.slice A0' n0' c0', .slice A1' n1' c1', .slice A2' n2' c2', .slice A3' n3' c3', .bool b', .slice A4' n4' c4', .slice A5' n5' c5', .slice A6' n6' c6'] 57)).heap.size := by simp; omega
  have HSZ := Lib.hid hsz
  clear hsz
  go_enter Try.func11, Try.ntmps11
  go_wp2_with fail
  refine (G1H.out _).mono ?_
  rintro e w1 ⟨rfl, hb⟩
  have X1 := Lib.hid (H1.out.below hb)
  have X2 := Lib.hid (H2.out.below hb)
  have HB1 := Lib.hid (below_on HB0.out hb)
  have FZ1 := Lib.hid ((hb.frozen (p := ⟨w.heap.size, 3, none⟩) HSZ.out).trans HFZ.out)
  have SZ1 := Lib.hid (Nat.lt_of_lt_of_le HSZ.out hb.size)
  clear hb
  obtain ⟨e0, e1, e2, e3, e4, e5, e6, e7⟩ := X2.out
  go_wp2_with fail
  refine (G2H.out _).mono ?_
  rintro e w2 ⟨rfl, hb⟩
  have Y1 := Lib.hid (X1.out.below hb)
  have Y2 := Lib.hid (X2.out.below hb)
  have HB2 := Lib.hid (below_on HB1.out hb)
  have FZ2 := Lib.hid ((hb.frozen (p := ⟨w.heap.size, 3, none⟩) SZ1.out).trans FZ1.out)
  have SZ2 := Lib.hid (Nat.lt_of_lt_of_le SZ1.out hb.size)
  clear hb e0 e1 e2 e3 e4 e5 e6 e7
  obtain ⟨d0, d1, d2, d3, d4, d5, d6, d7⟩ := Y1.out
  go_wp2_with fail
  refine (S1.out _ HB2.out).mono ?_
  rintro e w3 ⟨rfl, hb⟩
  have Z1 := Lib.hid (Y1.out.below hb)
  have Z2 := Lib.hid (Y2.out.below hb)
  have HB3 := Lib.hid (below_on HB2.out hb)
  have FZ3 := Lib.hid ((hb.frozen (p := ⟨w.heap.size, 3, none⟩) SZ2.out).trans FZ2.out)
  have SZ3 := Lib.hid (Nat.lt_of_lt_of_le SZ2.out hb.size)
  clear hb d0 d1 d2 d3 d4 d5 d6 d7
  obtain ⟨e0, e1, e2, e3, e4, e5, e6, e7⟩ := Z2.out
  go_wp2_with fail
  refine (S2.out _ HB3.out).mono ?_
  rintro e w4 ⟨rfl, hb⟩
  have V1 := Lib.hid (Z1.out.below hb)
  have V2 := Lib.hid (Z2.out.below hb)
  have HB4 := Lib.hid (below_on HB3.out hb)
  have fz := (hb.frozen (p := ⟨w.heap.size, 3, none⟩) SZ3.out).trans FZ3.out
  have sz := Nat.lt_of_lt_of_le SZ3.out hb.size
  clear hb e0 e1 e2 e3 e4 e5 e6 e7
  obtain ⟨d0, d1, d2, d3, d4, d5, d6, d7⟩ := V1.out
  obtain ⟨e0, e1, e2, e3, e4, e5, e6, e7⟩ := V2.out
  have HB5 : Hid (Below w.heap.size w (w4.setCell ⟨w.heap.size, 3, none⟩ (.slice A3' n3' c3'))) := Lib.hid (HB4.out.setCell (Nat.le_refl _) _)
  go_wp2_with fail
  refine (S3.out _ HB5.out).mono ?_
  rintro e w5 ⟨rfl, hb⟩
  have SZ5 : Hid (w.heap.size < w4.heap.size) := Lib.hid sz
  have k0 : w5.cell? ⟨w.heap.size, 0, none⟩ = some (.slice A0 n0 c0) := (hb.cell (p := ⟨w.heap.size, 0, none⟩) (by simpa using SZ5.out)).trans (by go_simp)
  have k1 : w5.cell? ⟨w.heap.size, 1, none⟩ = some (.slice A1 n1 c1) := (hb.cell (p := ⟨w.heap.size, 1, none⟩) (by simpa using SZ5.out)).trans (by go_simp)
  have k2 : w5.cell? ⟨w.heap.size, 2, none⟩ = some (.slice A2 n2 c2) := (hb.cell (p := ⟨w.heap.size, 2, none⟩) (by simpa using SZ5.out)).trans (by go_simp)
  have k3 : w5.cell? ⟨w.heap.size, 3, none⟩ = some (.slice A3' n3' c3') := (hb.cell (p := ⟨w.heap.size, 3, none⟩) (by simpa using SZ5.out)).trans (by go_simp)
  have k4 : w5.cell? ⟨w.heap.size, 4, none⟩ = some (.bool b) := (hb.cell (p := ⟨w.heap.size, 4, none⟩) (by simpa using SZ5.out)).trans (by go_simp)
  have k5 : w5.cell? ⟨w.heap.size, 5, none⟩ = some (.slice A4 n4 c4) := (hb.cell (p := ⟨w.heap.size, 5, none⟩) (by simpa using SZ5.out)).trans (by go_simp)
  have k6 : w5.cell? ⟨w.heap.size, 6, none⟩ = some (.slice A5 n5 c5) := (hb.cell (p := ⟨w.heap.size, 6, none⟩) (by simpa using SZ5.out)).trans (by go_simp)
  have k7 : w5.cell? ⟨w.heap.size, 7, none⟩ = some (.slice A6 n6 c6) := (hb.cell (p := ⟨w.heap.size, 7, none⟩) (by simpa using SZ5.out)).trans (by go_simp)
  have m0 : w5.cell? ⟨w.heap.size + 1, 0, none⟩ = some (.slice A0' n0' c0') := (hb.cell (p := ⟨w.heap.size + 1, 0, none⟩) (by simpa using World.block_lt_of_cell? _ _ e0)).trans (by go_simp)
  have m1 : w5.cell? ⟨w.heap.size + 1, 1, none⟩ = some (.slice A1' n1' c1') := (hb.cell (p := ⟨w.heap.size + 1, 1, none⟩) (by simpa using World.block_lt_of_cell? _ _ e0)).trans (by go_simp)
  have m2 : w5.cell? ⟨w.heap.size + 1, 2, none⟩ = some (.slice A2' n2' c2') := (hb.cell (p := ⟨w.heap.size + 1, 2, none⟩) (by simpa using World.block_lt_of_cell? _ _ e0)).trans (by go_simp)
  have m3 : w5.cell? ⟨w.heap.size + 1, 3, none⟩ = some (.slice A3' n3' c3') := (hb.cell (p := ⟨w.heap.size + 1, 3, none⟩) (by simpa using World.block_lt_of_cell? _ _ e0)).trans (by go_simp)
  have m4 : w5.cell? ⟨w.heap.size + 1, 4, none⟩ = some (.bool b') := (hb.cell (p := ⟨w.heap.size + 1, 4, none⟩) (by simpa using World.block_lt_of_cell? _ _ e0)).trans (by go_simp)
  have m5 : w5.cell? ⟨w.heap.size + 1, 5, none⟩ = some (.slice A4' n4' c4') := (hb.cell (p := ⟨w.heap.size + 1, 5, none⟩) (by simpa using World.block_lt_of_cell? _ _ e0)).trans (by go_simp)
  have m6 : w5.cell? ⟨w.heap.size + 1, 6, none⟩ = some (.slice A5' n5' c5') := (hb.cell (p := ⟨w.heap.size + 1, 6, none⟩) (by simpa using World.block_lt_of_cell? _ _ e0)).trans (by go_simp)
  have m7 : w5.cell? ⟨w.heap.size + 1, 7, none⟩ = some (.slice A6' n6' c6') := (hb.cell (p := ⟨w.heap.size + 1, 7, none⟩) (by simpa using World.block_lt_of_cell? _ _ e0)).trans (by go_simp)
  have HBB := Lib.hid (below_on HB5.out hb)
  clear hb fz sz d0 d1 d2 d3 d4 d5 d6 d7 e0 e1 e2 e3 e4 e5 e6 e7
  have htm : f.tmod 7 = 3 := by rw [Int.tmod_eq_emod_of_nonneg f0]; exact hr
  have hwr : IntKind.i64.wrap 3 = 3 := by decide
  go_wp2_with fail
  go_region_held3 (fun w' => (Below w.heap.size w w' ∧ w'.cell? ⟨w.heap.size, 0, none⟩ = some (.slice A0 n0 c0) ∧ w'.cell? ⟨w.heap.size, 1, none⟩ = some (.slice A1 n1 c1) ∧ w'.cell? ⟨w.heap.size, 2, none⟩ = some (.slice A2 n2 c2) ∧ w'.cell? ⟨w.heap.size, 3, none⟩ = some (.slice A3' n3' c3') ∧ w'.cell? ⟨w.heap.size, 4, none⟩ = some (.bool b) ∧ w'.cell? ⟨w.heap.size, 5, none⟩ = some (.slice A4 n4 c4) ∧ w'.cell? ⟨w.heap.size, 6, none⟩ = some (.slice A5 n5 c5) ∧ w'.cell? ⟨w.heap.size, 7, none⟩ = some (.slice A6 n6 c6)) ∧ (Below w.heap.size w w' ∧ w'.cell? ⟨w.heap.size + 1, 0, none⟩ = some (.slice A0' n0' c0') ∧ w'.cell? ⟨w.heap.size + 1, 1, none⟩ = some (.slice A1' n1' c1') ∧ w'.cell? ⟨w.heap.size + 1, 2, none⟩ = some (.slice A2' n2' c2') ∧ w'.cell? ⟨w.heap.size + 1, 3, none⟩ = some (.slice A3' n3' c3') ∧ w'.cell? ⟨w.heap.size + 1, 4, none⟩ = some (.bool b') ∧ w'.cell? ⟨w.heap.size + 1, 5, none⟩ = some (.slice A4' n4' c4') ∧ w'.cell? ⟨w.heap.size + 1, 6, none⟩ = some (.slice A5' n5' c5') ∧ w'.cell? ⟨w.heap.size + 1, 7, none⟩ = some (.slice A6' n6' c6')))
    (first | exact ⟨⟨below_drewN HBB.out 1, k0, k1, k2, k3, k4, k5, k6, k7⟩, ⟨below_drewN HBB.out 1, m0, m1, m2, m3, m4, m5, m6, m7⟩⟩ | exact keepEE hb6 (by assumption) | exact keepEE hb7 (by assumption) | exact keepEE hb8 (by assumption) | exact keepEE hb9 (by assumption))
    (first
      | (go_at_call 40; first
          | ((with_reducible refine (T1.out _ (by assumption : (_ ∧ _) ∧ (_ ∧ _)).1.1).mono ?_); rintro e w6 ⟨l6, rfl, hx6, hok6, hb6⟩)
          | ((with_reducible refine (T2.out _ (by assumption : (_ ∧ _) ∧ (_ ∧ _)).1.1).mono ?_); rintro e w7 ⟨l7, rfl, hx7, hok7, hb7⟩; have hok6' := hok6.below hb7))
      | (go_at_call 39; refine (rsame_any l6 l7 _ hok6' hok7).mono ?_; rintro e w8 ⟨rfl, hb8⟩; rw [hx6, hx7, same_refl])
      | (go_at_call 36; refine (cal_lives _).mono ?_; rintro e w9 ⟨rfl, hb9⟩))
  rename_i hh
  have HBE := Lib.hid hh.1.1
  clear hh
  go_wp2
  go_ret
  exact ⟨rfl, HBE.out⟩
end Go.Proofs.Yticloblhdjnjkaa
