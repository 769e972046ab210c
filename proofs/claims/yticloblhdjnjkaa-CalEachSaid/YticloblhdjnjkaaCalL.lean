/- Contracts for chapter 28: cal.Field; are two events the same (cal.Same, the reference's Same)? -/
import Derived.Test.YticloblhdjnjkaaCalK
namespace Go.Proofs.Yticloblhdjnjkaa
open Go.RowKit

/-- are the fields k, k + 1, .. (so many) the same, and z? -/
def smF (l m : Nat → Sl) (z : Bool) : Nat → Nat → Bool
  | _, 0 => z
  | k, n + 1 => if sameL (l k).xs (m k).xs then smF l m z (k + 1) n else false
def smB (l m : Nat → Sl) (b b' : Bool) : Bool := smF l m (b == b') 0 7
theorem sm_on {l m : Nat → Sl} {z : Bool} {k : Nat} {R : Bool} (hk : k < 7) (h : smF l m z k (7 - k) = R) (hg : sameL (l k).xs (m k).xs = true) : smF l m z (k + 1) (7 - (k + 1)) = R := by
  rw [show 7 - k = (7 - (k + 1)) + 1 by omega] at h
  unfold smF at h
  rw [if_pos hg] at h
  exact h
theorem sm_hit {l m : Nat → Sl} {z : Bool} {k : Nat} {R : Bool} (hk : k < 7) (h : smF l m z k (7 - k) = R) (hg : sameL (l k).xs (m k).xs = false) : false = R := by
  rw [show 7 - k = (7 - (k + 1)) + 1 by omega] at h
  unfold smF at h
  rw [if_neg (by rw [hg]; decide)] at h
  exact h
theorem sm_self (l : Nat → Sl) (b : Bool) : smB l l b b = true := by
  unfold smB smF smF smF smF smF smF smF smF
  simp only [same_refl, if_true, beq_self_eq_true]

set_option maxRecDepth 100000 in
set_option maxHeartbeats 4000000 in
theorem field_any (f : Int) (l : Nat → Sl) (b : Bool) (w : World) (hok : ∀ j, (l j).ok w) (h5 : ∀ j, j < 7 → (l j).xs.length ≤ 500) : Calls Try.prog 40 #[calV l b, .int .i64 f] w (CloneP (fldS l f) w) := by
  have hfo := fld_ok hok f
  have hf5 : (fldS l f).xs.length ≤ 500 := by
    unfold fldS
    split
    · simp
    · exact h5 _ (by omega)
  have hbox := calAt_box l b w 57
  have hcl := fun (W : World) (h : Below w.heap.size w W) => clone_any (fldS l f) W (hfo.below h) hf5
  have hfin : ∀ W e w', Below w.heap.size w W → CloneP (fldS l f) W e w' → CloneP (fldS l f) w e w' := fun W e w' hb ⟨l', h1, h2, h3, h4⟩ => ⟨l', h1, h2, h3, below_on hb h4⟩
  obtain ⟨A0, n0, c0, q0⟩ := Sl.v_form (l 0)
  obtain ⟨A1, n1, c1, q1⟩ := Sl.v_form (l 1)
  obtain ⟨A2, n2, c2, q2⟩ := Sl.v_form (l 2)
  obtain ⟨A3, n3, c3, q3⟩ := Sl.v_form (l 3)
  obtain ⟨A4, n4, c4, q4⟩ := Sl.v_form (l 4)
  obtain ⟨A5, n5, c5, q5⟩ := Sl.v_form (l 5)
  obtain ⟨A6, n6, c6, q6⟩ := Sl.v_form (l 6)
  unfold calV
  rw [q0, q1, q2, q3, q4, q5, q6] at hbox ⊢
  have HX := Lib.hid hbox
  have HC := Lib.hid hcl
  have HF := Lib.hid hfin
  clear hok h5 hfo hf5 hbox hcl hfin q0 q1 q2 q3 q4 q5 q6
  go_enter Try.func40, Try.ntmps40
  go_wp2_with fail
  refine (list_any _ _ l b _ HX.out).mono ?_
  rintro e w1 ⟨rfl, hb⟩
  have HB := Lib.hid (bel_one hb)
  clear hb
  go_wp2_with fail
  refine (HC.out _ HB.out).mono ?_
  rintro e w2 ⟨l', rfl, h2, h3, h4⟩
  have HE := Lib.hid (HF.out _ _ _ HB.out ⟨l', rfl, h2, h3, h4⟩)
  clear h2 h3 h4
  go_wp2
  go_ret
  exact HE.out

set_option maxRecDepth 100000 in
set_option maxHeartbeats 4000000 in
theorem csame_any (l m : Nat → Sl) (b b' : Bool) (w : World) (hl : ∀ j, (l j).ok w) (hm : ∀ j, (m j).ok w) : Calls Try.prog 44 #[calV l b, calV m b'] w (Kept (.bool (smB l m b b')) w) := by
  obtain ⟨R, hR⟩ : ∃ R, R = smB l m b b' := ⟨_, rfl⟩
  rw [← hR]
  have hb1 : CalAt ((w.alloc (.cells #[(l 0).v, (l 1).v, (l 2).v, (l 3).v, .bool b, (l 4).v, (l 5).v, (l 6).v] 57)).alloc (.cells #[(m 0).v, (m 1).v, (m 2).v, (m 3).v, .bool b', (m 4).v, (m 5).v, (m 6).v] 57)) w.heap.size l b :=
    (calAt_box l b w 57).below ((Below.refl _ _).alloc (Nat.le_refl _) _)
  have hb2 := calAt_box m b' (w.alloc (.cells #[(l 0).v, (l 1).v, (l 2).v, (l 3).v, .bool b, (l 4).v, (l 5).v, (l 6).v] 57)) 57
  rw [World.size_alloc] at hb2
  obtain ⟨A0, n0, c0, q0⟩ := Sl.v_form (l 0)
  obtain ⟨A1, n1, c1, q1⟩ := Sl.v_form (l 1)
  obtain ⟨A2, n2, c2, q2⟩ := Sl.v_form (l 2)
  obtain ⟨A3, n3, c3, q3⟩ := Sl.v_form (l 3)
  obtain ⟨A4, n4, c4, q4⟩ := Sl.v_form (l 4)
  obtain ⟨A5, n5, c5, q5⟩ := Sl.v_form (l 5)
  obtain ⟨A6, n6, c6, q6⟩ := Sl.v_form (l 6)
  obtain ⟨A0', n0', c0', r0⟩ := Sl.v_form (m 0)
  obtain ⟨A1', n1', c1', r1⟩ := Sl.v_form (m 1)
  obtain ⟨A2', n2', c2', r2⟩ := Sl.v_form (m 2)
  obtain ⟨A3', n3', c3', r3⟩ := Sl.v_form (m 3)
  obtain ⟨A4', n4', c4', r4⟩ := Sl.v_form (m 4)
  obtain ⟨A5', n5', c5', r5⟩ := Sl.v_form (m 5)
  obtain ⟨A6', n6', c6', r6⟩ := Sl.v_form (m 6)
  unfold calV
  rw [q0, q1, q2, q3, q4, q5, q6, r0, r1, r2, r3, r4, r5, r6] at hb1 hb2 ⊢
  have HR := Lib.hid hR
  have H1 := Lib.hid hb1
  have H2 := Lib.hid hb2
  have HL := Lib.hid hl
  have HM := Lib.hid hm
  have fl : ∀ k : Nat, k < 7 → fldS l (k : Int) = l k := fun k hk => by rw [fld_in l (by omega) (by omega)]; simp
  have fm : ∀ k : Nat, k < 7 → fldS m (k : Int) = m k := fun k hk => by rw [fld_in m (by omega) (by omega)]; simp
  have HFL := Lib.hid fl
  have HFM := Lib.hid fm
  clear hR hb1 hb2 hl hm fl fm q0 q1 q2 q3 q4 q5 q6 r0 r1 r2 r3 r4 r5 r6
  go_enter Try.func44, Try.ntmps44
  go_wp2_with fail
  go_loopw [6] (fun i wr => ∃ k : Nat, k ≤ 7 ∧ i = .int .i64 k ∧ Hid (smF l m (b == b') k (7 - k) = R) ∧ Hid (Below w.heap.size w wr ∧ CalAt wr w.heap.size l b ∧ CalAt wr (w.heap.size + 1) m b')) (fun i _ => 7 - (intOf i).toNat)
  case atStart => exact ⟨0, by omega, rfl, Lib.hid (by rw [HR.out]; rfl), Lib.hid ⟨((Below.refl _ _).alloc (Nat.le_refl _) _).alloc (by simp) _, H1.out, H2.out⟩⟩
  case round =>
    obtain ⟨k, hk, rfl, HC, HB⟩ := hrel
    by_cases hlt : k < 7
    · have on := sm_on hlt HC.out
      have hit := sm_hit hlt HC.out
      obtain ⟨v, hv⟩ : ∃ v, v = sameL (l k).xs (m k).xs := ⟨_, rfl⟩
      rw [← hv] at on hit
      have HV := Lib.hid hv
      have HON := Lib.hid on
      have HIT := Lib.hid hit
      clear hv on hit
      go_wp2_with fail
      refine (list_any _ _ l b _ HB.out.2.1).mono ?_
      rintro e w2 ⟨rfl, hb⟩
      rw [HFL.out k hlt]
      have HB2 : Hid (Below w.heap.size w w2 ∧ CalAt w2 w.heap.size l b ∧ CalAt w2 (w.heap.size + 1) m b') := Lib.hid ⟨below_on HB.out.1 hb, HB.out.2.1.below hb, HB.out.2.2.below hb⟩
      clear hb
      go_wp2_with fail
      refine (list_any _ _ m b' _ HB2.out.2.2).mono ?_
      rintro e w3 ⟨rfl, hb⟩
      rw [HFM.out k hlt]
      have HB3 : Hid (Below w.heap.size w w3 ∧ CalAt w3 w.heap.size l b ∧ CalAt w3 (w.heap.size + 1) m b') := Lib.hid ⟨below_on HB2.out.1 hb, HB2.out.2.1.below hb, HB2.out.2.2.below hb⟩
      clear hb
      go_wp2_with fail
      refine (equal_any (l k) (m k) _ ((HL.out k).below HB3.out.1) ((HM.out k).below HB3.out.1)).mono ?_
      rintro e w4 ⟨rfl, hb⟩
      rw [← HV.out]
      have HB4 : Hid (Below w.heap.size w w4 ∧ CalAt w4 w.heap.size l b ∧ CalAt w4 (w.heap.size + 1) m b') := Lib.hid ⟨below_on HB3.out.1 hb, HB3.out.2.1.below hb, HB3.out.2.2.below hb⟩
      clear hb
      cases v
      · have HC' := Lib.hid (HIT.out rfl)
        go_wp2
        go_ret
        exact ⟨ret_val (congrArg Value.bool HC'.out), HB4.out.1⟩
      · have HC' := Lib.hid (HON.out rfl)
        go_wp2
        go_roundw
        case rel => exact ⟨k + 1, by omega, by go_num, HC', HB4⟩
        case measure => simp [intOf]; omega
    · obtain rfl : k = 7 := by omega
      have HC' : Hid ((b == b') = R) := Lib.hid HC.out
      have c1 := HB.out.2.1.c4
      have c2 := HB.out.2.2.c4
      go_wp2
      go_ret
      exact ⟨ret_val (congrArg Value.bool HC'.out), HB.out.1⟩
end Go.Proofs.Yticloblhdjnjkaa
