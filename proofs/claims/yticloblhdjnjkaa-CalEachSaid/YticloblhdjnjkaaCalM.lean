/- Contract of the reference's Same; the walk of ferialaw28.CalFields. -/
import Derived.Test.YticloblhdjnjkaaCalL
namespace Go.Proofs.Yticloblhdjnjkaa
open Go.RowKit

theorem keepE {w W w2 : World} {B : Nat} {v0 v1 v2 v3 v4 v5 v6 v7 : Value} (hb : Below W.heap.size W w2)
    (h : Below w.heap.size w W ∧ W.cell? ⟨B, 0, none⟩ = some v0 ∧ W.cell? ⟨B, 1, none⟩ = some v1 ∧ W.cell? ⟨B, 2, none⟩ = some v2 ∧ W.cell? ⟨B, 3, none⟩ = some v3 ∧ W.cell? ⟨B, 4, none⟩ = some v4 ∧ W.cell? ⟨B, 5, none⟩ = some v5 ∧ W.cell? ⟨B, 6, none⟩ = some v6 ∧ W.cell? ⟨B, 7, none⟩ = some v7) :
    Below w.heap.size w w2 ∧ w2.cell? ⟨B, 0, none⟩ = some v0 ∧ w2.cell? ⟨B, 1, none⟩ = some v1 ∧ w2.cell? ⟨B, 2, none⟩ = some v2 ∧ w2.cell? ⟨B, 3, none⟩ = some v3 ∧ w2.cell? ⟨B, 4, none⟩ = some v4 ∧ w2.cell? ⟨B, 5, none⟩ = some v5 ∧ w2.cell? ⟨B, 6, none⟩ = some v6 ∧ w2.cell? ⟨B, 7, none⟩ = some v7 := by
  obtain ⟨h0, c0, c1, c2, c3, c4, c5, c6, c7⟩ := h
  have bl := World.block_lt_of_cell? _ _ c0
  exact ⟨below_on h0 hb, (hb.cell (p := ⟨B, 0, none⟩) bl).trans c0, (hb.cell (p := ⟨B, 1, none⟩) bl).trans c1, (hb.cell (p := ⟨B, 2, none⟩) bl).trans c2, (hb.cell (p := ⟨B, 3, none⟩) bl).trans c3,
    (hb.cell (p := ⟨B, 4, none⟩) bl).trans c4, (hb.cell (p := ⟨B, 5, none⟩) bl).trans c5, (hb.cell (p := ⟨B, 6, none⟩) bl).trans c6, (hb.cell (p := ⟨B, 7, none⟩) bl).trans c7⟩
theorem keepEE {w W w2 : World} {B C : Nat} {v0 v1 v2 v3 v4 v5 v6 v7 u0 u1 u2 u3 u4 u5 u6 u7 : Value} (hb : Below W.heap.size W w2)
    (h : (Below w.heap.size w W ∧ W.cell? ⟨B, 0, none⟩ = some v0 ∧ W.cell? ⟨B, 1, none⟩ = some v1 ∧ W.cell? ⟨B, 2, none⟩ = some v2 ∧ W.cell? ⟨B, 3, none⟩ = some v3 ∧ W.cell? ⟨B, 4, none⟩ = some v4 ∧ W.cell? ⟨B, 5, none⟩ = some v5 ∧ W.cell? ⟨B, 6, none⟩ = some v6 ∧ W.cell? ⟨B, 7, none⟩ = some v7) ∧
      (Below w.heap.size w W ∧ W.cell? ⟨C, 0, none⟩ = some u0 ∧ W.cell? ⟨C, 1, none⟩ = some u1 ∧ W.cell? ⟨C, 2, none⟩ = some u2 ∧ W.cell? ⟨C, 3, none⟩ = some u3 ∧ W.cell? ⟨C, 4, none⟩ = some u4 ∧ W.cell? ⟨C, 5, none⟩ = some u5 ∧ W.cell? ⟨C, 6, none⟩ = some u6 ∧ W.cell? ⟨C, 7, none⟩ = some u7)) :
    (Below w.heap.size w w2 ∧ w2.cell? ⟨B, 0, none⟩ = some v0 ∧ w2.cell? ⟨B, 1, none⟩ = some v1 ∧ w2.cell? ⟨B, 2, none⟩ = some v2 ∧ w2.cell? ⟨B, 3, none⟩ = some v3 ∧ w2.cell? ⟨B, 4, none⟩ = some v4 ∧ w2.cell? ⟨B, 5, none⟩ = some v5 ∧ w2.cell? ⟨B, 6, none⟩ = some v6 ∧ w2.cell? ⟨B, 7, none⟩ = some v7) ∧
      (Below w.heap.size w w2 ∧ w2.cell? ⟨C, 0, none⟩ = some u0 ∧ w2.cell? ⟨C, 1, none⟩ = some u1 ∧ w2.cell? ⟨C, 2, none⟩ = some u2 ∧ w2.cell? ⟨C, 3, none⟩ = some u3 ∧ w2.cell? ⟨C, 4, none⟩ = some u4 ∧ w2.cell? ⟨C, 5, none⟩ = some u5 ∧ w2.cell? ⟨C, 6, none⟩ = some u6 ∧ w2.cell? ⟨C, 7, none⟩ = some u7) :=
  ⟨keepE hb h.1, keepE hb h.2⟩

set_option maxRecDepth 100000 in
set_option maxHeartbeats 8000000 in
theorem rsames_any (l m : Nat → Sl) (b b' : Bool) (w : World) (hl : ∀ j, (l j).ok w) (hm : ∀ j, (m j).ok w) : Calls Try.prog 45 #[calV l b, calV m b'] w (Kept (.bool (smB l m b b')) w) := by
  obtain ⟨R, hR⟩ : ∃ R, R = smB l m b b' := ⟨_, rfl⟩
  rw [← hR]
  have hrl := fun (f : Int) => rfield_any f l b
  have hrm := fun (f : Int) => rfield_any f m b'
  obtain ⟨A0, n0, c0, q0⟩ := Sl.v_form (l 0)
  obtain ⟨A1, n1, c1, q1⟩ := Sl.v_form (l 1)
  obtain ⟨A2, n2, c2, q2⟩ := Sl.v_form (l 2)
  obtain ⟨A3, n3, c3, q3⟩ := Sl.v_form (l 3)
  obtain ⟨A4, n4, c4, q4⟩ := Sl.v_form (l 4)
  obtain ⟨A5, n5, c5, q5⟩ := Sl.v_form (l 5)
  obtain ⟨A6, n6, c6, q6⟩ := Sl.v_form (l 6)
  obtain ⟨A0', n0', c0', r0⟩ := Sl.v_form (m 0)
  obtain ⟨A1', n1', c1', r1⟩ := Sl.v_form (m 1)
  obtain ⟨A2', n2', c2', r2⟩ := Sl.v_form (m 2)
  obtain ⟨A3', n3', c3', r3⟩ := Sl.v_form (m 3)
  obtain ⟨A4', n4', c4', r4⟩ := Sl.v_form (m 4)
  obtain ⟨A5', n5', c5', r5⟩ := Sl.v_form (m 5)
  obtain ⟨A6', n6', c6', r6⟩ := Sl.v_form (m 6)
  unfold calV at hrl hrm ⊢
  rw [q0, q1, q2, q3, q4, q5, q6, r0, r1, r2, r3, r4, r5, r6]
  simp only [q0, q1, q2, q3, q4, q5, q6] at hrl
  simp only [r0, r1, r2, r3, r4, r5, r6] at hrm
  have hx1 := (Ev.box w (.slice A0 n0 c0) (.slice A1 n1 c1) (.slice A2 n2 c2) (.slice A3 n3 c3) (.bool b) (.slice A4 n4 c4) (.slice A5 n5 c5) (.slice A6 n6 c6) 57).below ((Below.refl _ _).alloc (Nat.le_refl _) (.cells #[.slice A0' n0' c0', .slice A1' n1' c1', .slice A2' n2' c2', .slice A3' n3' c3', .bool b', .slice A4' n4' c4', .slice A5' n5' c5', .slice A6' n6' c6'] 57))
  have hx2 := Ev.box (w.alloc (.cells #[.slice A0 n0 c0, .slice A1 n1 c1, .slice A2 n2 c2, .slice A3 n3 c3, .bool b, .slice A4 n4 c4, .slice A5 n5 c5, .slice A6 n6 c6] 57)) (.slice A0' n0' c0') (.slice A1' n1' c1') (.slice A2' n2' c2') (.slice A3' n3' c3') (.bool b') (.slice A4' n4' c4') (.slice A5' n5' c5') (.slice A6' n6' c6') 57
  rw [World.size_alloc] at hx2
  have HR := Lib.hid hR
  have H1 := Lib.hid hx1
  have H2 := Lib.hid hx2
  have HL := Lib.hid hl
  have HM := Lib.hid hm
  have HRL := Lib.hid hrl
  have HRM := Lib.hid hrm
  have fl : ∀ k : Nat, k < 7 → fldS l (k : Int) = l k := fun k hk => by rw [fld_in l (by omega) (by omega)]; simp
  have fm : ∀ k : Nat, k < 7 → fldS m (k : Int) = m k := fun k hk => by rw [fld_in m (by omega) (by omega)]; simp
  have HFL := Lib.hid fl
  have HFM := Lib.hid fm
  clear hR hx1 hx2 hl hm fl fm hrl hrm q0 q1 q2 q3 q4 q5 q6 r0 r1 r2 r3 r4 r5 r6
  go_enter Try.func45, Try.ntmps45
  go_wp2_with fail
  go_loopw [5] (fun i wr => ∃ k : Nat, k ≤ 7 ∧ i = .int .i64 k ∧ Hid (smF l m (b == b') k (7 - k) = R) ∧ Hid (Below w.heap.size w wr ∧ Ev wr w.heap.size (.slice A0 n0 c0) (.slice A1 n1 c1) (.slice A2 n2 c2) (.slice A3 n3 c3) (.bool b) (.slice A4 n4 c4) (.slice A5 n5 c5) (.slice A6 n6 c6) ∧ Ev wr (w.heap.size + 1) (.slice A0' n0' c0') (.slice A1' n1' c1') (.slice A2' n2' c2') (.slice A3' n3' c3') (.bool b') (.slice A4' n4' c4') (.slice A5' n5' c5') (.slice A6' n6' c6'))) (fun i _ => 7 - (intOf i).toNat)
  case atStart => exact ⟨0, by omega, rfl, Lib.hid (by rw [HR.out]; rfl), Lib.hid ⟨((Below.refl _ _).alloc (Nat.le_refl _) _).alloc (by simp) _, H1.out, H2.out⟩⟩
  case round =>
    obtain ⟨k, hk, rfl, HC, HB⟩ := hrel
    have HBB := Lib.hid HB.out.1
    obtain ⟨d0, d1, d2, d3, d4, d5, d6, d7⟩ := HB.out.2.1
    obtain ⟨e0, e1, e2, e3, e4, e5, e6, e7⟩ := HB.out.2.2
    by_cases hlt : k < 7
    · have on := sm_on hlt HC.out
      have hit := sm_hit hlt HC.out
      obtain ⟨v, hv⟩ : ∃ v, v = sameL (l k).xs (m k).xs := ⟨_, rfl⟩
      rw [← hv] at on hit
      have HV := Lib.hid hv
      have HON := Lib.hid on
      have HIT := Lib.hid hit
      clear hv on hit
      go_wp2_with fail
      go_region_held3 (fun w' => (Below w.heap.size w w' ∧ w'.cell? ⟨w.heap.size, 0, none⟩ = some (.slice A0 n0 c0) ∧ w'.cell? ⟨w.heap.size, 1, none⟩ = some (.slice A1 n1 c1) ∧ w'.cell? ⟨w.heap.size, 2, none⟩ = some (.slice A2 n2 c2) ∧ w'.cell? ⟨w.heap.size, 3, none⟩ = some (.slice A3 n3 c3) ∧ w'.cell? ⟨w.heap.size, 4, none⟩ = some (.bool b) ∧ w'.cell? ⟨w.heap.size, 5, none⟩ = some (.slice A4 n4 c4) ∧ w'.cell? ⟨w.heap.size, 6, none⟩ = some (.slice A5 n5 c5) ∧ w'.cell? ⟨w.heap.size, 7, none⟩ = some (.slice A6 n6 c6)) ∧ (Below w.heap.size w w' ∧ w'.cell? ⟨w.heap.size + 1, 0, none⟩ = some (.slice A0' n0' c0') ∧ w'.cell? ⟨w.heap.size + 1, 1, none⟩ = some (.slice A1' n1' c1') ∧ w'.cell? ⟨w.heap.size + 1, 2, none⟩ = some (.slice A2' n2' c2') ∧ w'.cell? ⟨w.heap.size + 1, 3, none⟩ = some (.slice A3' n3' c3') ∧ w'.cell? ⟨w.heap.size + 1, 4, none⟩ = some (.bool b') ∧ w'.cell? ⟨w.heap.size + 1, 5, none⟩ = some (.slice A4' n4' c4') ∧ w'.cell? ⟨w.heap.size + 1, 6, none⟩ = some (.slice A5' n5' c5') ∧ w'.cell? ⟨w.heap.size + 1, 7, none⟩ = some (.slice A6' n6' c6')))
        (first | exact ⟨⟨below_drewN HBB.out 1, d0, d1, d2, d3, d4, d5, d6, d7⟩, ⟨below_drewN HBB.out 1, e0, e1, e2, e3, e4, e5, e6, e7⟩⟩ | exact keepEE hb2 (by assumption))
        (first
          | (go_at_call 43; first
              | ((with_reducible refine (HRL.out _ _).mono ?_); rintro e w2 ⟨rfl, hb2⟩; rw [HFL.out k hlt])
              | ((with_reducible refine (HRM.out _ _).mono ?_); rintro e w2 ⟨rfl, hb2⟩; rw [HFM.out k hlt]))
          | (go_at_call 39; refine (rsame_any (l k) (m k) _ ((HL.out k).below (by assumption : (_ ∧ _) ∧ (_ ∧ _)).1.1) ((HM.out k).below (by assumption : (_ ∧ _) ∧ (_ ∧ _)).1.1)).mono ?_; rintro e w2 ⟨rfl, hb2⟩; rw [← HV.out]))
      rename_i hh
      obtain ⟨⟨hbb, d0', d1', d2', d3', d4', d5', d6', d7'⟩, ⟨_, e0', e1', e2', e3', e4', e5', e6', e7'⟩⟩ := hh
      have HB4 : Hid (Below w.heap.size w w2 ∧ Ev w2 w.heap.size (.slice A0 n0 c0) (.slice A1 n1 c1) (.slice A2 n2 c2) (.slice A3 n3 c3) (.bool b) (.slice A4 n4 c4) (.slice A5 n5 c5) (.slice A6 n6 c6) ∧ Ev w2 (w.heap.size + 1) (.slice A0' n0' c0') (.slice A1' n1' c1') (.slice A2' n2' c2') (.slice A3' n3' c3') (.bool b') (.slice A4' n4' c4') (.slice A5' n5' c5') (.slice A6' n6' c6')) := Lib.hid ⟨hbb, ⟨d0', d1', d2', d3', d4', d5', d6', d7'⟩, ⟨e0', e1', e2', e3', e4', e5', e6', e7'⟩⟩
      clear hb2 hbb d0 d1 d2 d3 d4 d5 d6 d7 e0 e1 e2 e3 e4 e5 e6 e7 d0' d1' d2' d3' d4' d5' d6' d7' e0' e1' e2' e3' e4' e5' e6' e7'
      cases v
      · have HC' := Lib.hid (HIT.out rfl)
        go_wp2
        go_ret
        exact ⟨ret_val (congrArg Value.bool HC'.out), HB4.out.1⟩
      · have HC' := Lib.hid (HON.out rfl)
        go_wp2
        go_roundw
        case rel => exact ⟨k + 1, by omega, by go_num, HC', HB4⟩
        case measure => simp [intOf]; omega
    · obtain rfl : k = 7 := by omega
      have HC' : Hid ((b == b') = R) := Lib.hid HC.out
      go_wp2
      go_ret
      exact ⟨ret_val (congrArg Value.bool HC'.out), HB.out.1⟩

end Go.Proofs.Yticloblhdjnjkaa
