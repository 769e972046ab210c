/- Contract of the reference's Check; the chapter's example; the walk of ferialaw28.CalChecks. -/
import Derived.Test.YticloblhdjnjkaaCalG
namespace Go.Proofs.Yticloblhdjnjkaa
open Go.RowKit

/-- the reference's word for an item that may not stand in a field -/
def oddR (f n : Int) (i : It) : Bool := if f = 0 then (i.k == 0 || i.k == 3) || decide (1 < i.s) else i.k == 0 && (decide (1 < n) || i.s != 1)
def badR (f n : Int) (i : It) : Bool := oddR f n i || !itB i (bLo f) (bHi f)
theorem badR_eq (f n : Int) (i : It) : badR f n i = (oddB f n i || !itB i (bLo f) (bHi f)) := by
  unfold badR
  cases hi : itB i (bLo f) (bHi f) with
  | false => simp
  | true =>
    rw [Bool.not_true, Bool.or_false, Bool.or_false]
    unfold oddR oddB
    by_cases hf : f = 0
    · rw [if_pos hf, if_pos hf]
    · rw [if_neg hf, if_neg hf]
      cases hk : i.k == 0 with
      | false => rfl
      | true =>
        have hk' : i.k = 0 := by simpa using hk
        rw [itB_0 hk'] at hi
        unfold stB at hi
        simp only [Bool.and_eq_true, decide_eq_true_eq] at hi
        rw [show (i.s != 1) = decide (1 < i.s) by
          rw [Bool.eq_iff_iff, bne_iff_ne, decide_eq_true_eq]
          omega]
theorem any_hit {q : It → Bool} {xs : List It} {j : Nat} (hj : j < xs.length) (h : q (xs.getD j ⟨0, 0, 0, 0⟩) = true) : xs.any q = true := by
  simp only [List.getD, List.getElem?_eq_getElem hj, Option.getD_some] at h
  exact List.any_eq_true.2 ⟨_, List.getElem_mem hj, h⟩
theorem any_none {q : It → Bool} {xs : List It} (h : ∀ j, j < xs.length → q (xs.getD j ⟨0, 0, 0, 0⟩) = false) : xs.any q = false := by
  rw [List.any_eq_false]
  intro x hx
  obtain ⟨j, hj, rfl⟩ := List.getElem_of_mem hx
  have := h j hj
  simp only [List.getD, List.getElem?_eq_getElem hj, Option.getD_some] at this
  simp [this]
theorem flt_hit {f : Int} {xs : List It} {j : Nat} (hj : j < xs.length) (hm : (xs.length : Int) ≤ mst f) (h : badR f xs.length (xs.getD j ⟨0, 0, 0, 0⟩) = true) : flt f xs = 1 := by
  unfold flt
  rw [if_neg (by omega), if_neg (by omega)]
  rw [badR_eq] at h
  by_cases c : (xs.any fun i => !itB i (bLo f) (bHi f)) = true
  · rw [if_pos c]
  · rw [if_neg c]
    have hb : (!itB (xs.getD j ⟨0, 0, 0, 0⟩) (bLo f) (bHi f)) = false := by
      cases e : (!itB (xs.getD j ⟨0, 0, 0, 0⟩) (bLo f) (bHi f)) with
      | false => rfl
      | true => exact absurd (any_hit (q := fun i => !itB i (bLo f) (bHi f)) hj e) c
    rw [hb, Bool.or_false] at h
    rw [if_pos (any_hit hj h)]
theorem flt_none {f : Int} {xs : List It} (h0 : 0 < xs.length) (hm : (xs.length : Int) ≤ mst f) (h : ∀ j, j < xs.length → badR f xs.length (xs.getD j ⟨0, 0, 0, 0⟩) = false) : flt f xs = 0 := by
  unfold flt
  rw [if_neg (by omega), if_neg (by omega)]
  have h1 : (xs.any fun i => !itB i (bLo f) (bHi f)) = false := any_none fun j hj => by
    have := h j hj
    rw [badR_eq, Bool.or_eq_false_iff] at this
    exact this.2
  have h2 : xs.any (oddB f xs.length) = false := any_none fun j hj => by
    have := h j hj
    rw [badR_eq, Bool.or_eq_false_iff] at this
    exact this.1
  rw [h1, h2]
  rfl
theorem flt_zero {xs : List It} (h : xs.length = 0) (f : Int) : flt f xs = if f = 0 then 0 else 11 := by unfold flt; rw [if_pos h]
theorem flt_long {f : Int} {xs : List It} (h0 : 0 < xs.length) (h : mst f < (xs.length : Int)) : flt f xs = 5 := by unfold flt; rw [if_neg (by omega), if_pos h]
theorem flt_all {f : Int} {xs : List It} (hm : (xs.length : Int) ≤ mst f) (hf : xs.length = 0 → f = 0) (h : ∀ j, j < xs.length → badR f xs.length (xs.getD j ⟨0, 0, 0, 0⟩) = false) : flt f xs = 0 := by
  by_cases h0 : xs.length = 0
  · rw [flt_zero h0, if_pos (hf h0)]
  · exact flt_none (by omega) hm h

theorem oddR_ways (f n : Int) (i : It) :
    ((f == 0) = true ∧ (i.k == 0) = true ∧ decide (1 < n) = true ∧ oddR f n i = true) ∨ ((f == 0) = true ∧ (i.k == 0) = true ∧ decide (1 < n) = false ∧ (i.s != 1) = true ∧ oddR f n i = true) ∨
    ((f == 0) = true ∧ (i.k == 0) = true ∧ decide (1 < n) = false ∧ (i.s != 1) = false ∧ oddR f n i = true) ∨ ((f == 0) = true ∧ (i.k == 0) = false ∧ (i.k == 3) = true ∧ oddR f n i = true) ∨
    ((f == 0) = true ∧ (i.k == 0) = false ∧ (i.k == 3) = false ∧ decide (1 < i.s) = true ∧ oddR f n i = true) ∨
    ((f == 0) = false ∧ (i.k == 0) = true ∧ decide (1 < n) = true ∧ oddR f n i = true) ∨ ((f == 0) = false ∧ (i.k == 0) = true ∧ decide (1 < n) = false ∧ (i.s != 1) = true ∧ oddR f n i = true) ∨
    ((f == 0) = true ∧ (i.k == 0) = false ∧ (i.k == 3) = false ∧ decide (1 < i.s) = false ∧ oddR f n i = false) ∨ ((f == 0) = false ∧ (i.k == 0) = true ∧ decide (1 < n) = false ∧ (i.s != 1) = false ∧ oddR f n i = false) ∨
    ((f == 0) = false ∧ (i.k == 0) = false ∧ oddR f n i = false) := by
  unfold oddR
  by_cases hf : f = 0
  · subst hf
    cases (i.k == 0) <;> cases (i.k == 3) <;> cases decide (1 < i.s) <;> cases decide (1 < n) <;> cases (i.s != 1) <;> simp
  · rw [if_neg hf, beq_eq_false_iff_ne.2 hf]
    cases (i.k == 0) <;> cases (i.k == 3) <;> cases decide (1 < i.s) <;> cases decide (1 < n) <;> cases (i.s != 1) <;> simp

set_option maxRecDepth 100000 in
set_option maxHeartbeats 16000000 in
theorem rcheck_any (l : Nat → Sl) (b : Bool) (w : World) (hok : ∀ j, (l j).ok w) : Calls Try.prog 38 #[calV l b] w (Kept (.tuple #[.int .i64 (chk l).1, .int .i64 (chk l).2]) w) := by
  obtain ⟨R, hR⟩ : ∃ R, R = chk l := ⟨_, rfl⟩
  rw [← hR]
  have hbox := calAt_box l b w 57
  have hrf := fun (f : Int) => rfield_any f l b
  obtain ⟨A0, n0, c0, q0⟩ := Sl.v_form (l 0)
  obtain ⟨A1, n1, c1, q1⟩ := Sl.v_form (l 1)
  obtain ⟨A2, n2, c2, q2⟩ := Sl.v_form (l 2)
  obtain ⟨A3, n3, c3, q3⟩ := Sl.v_form (l 3)
  obtain ⟨A4, n4, c4, q4⟩ := Sl.v_form (l 4)
  obtain ⟨A5, n5, c5, q5⟩ := Sl.v_form (l 5)
  obtain ⟨A6, n6, c6, q6⟩ := Sl.v_form (l 6)
  unfold calV at hrf ⊢
  rw [q0, q1, q2, q3, q4, q5, q6] at hbox ⊢
  simp only [q0, q1, q2, q3, q4, q5, q6] at hrf
  have hcs : ∀ W, CalAt W w.heap.size l b → W.cell? ⟨w.heap.size, 0, none⟩ = some (.slice A0 n0 c0) ∧ W.cell? ⟨w.heap.size, 1, none⟩ = some (.slice A1 n1 c1) ∧ W.cell? ⟨w.heap.size, 2, none⟩ = some (.slice A2 n2 c2) ∧ W.cell? ⟨w.heap.size, 3, none⟩ = some (.slice A3 n3 c3) ∧
      W.cell? ⟨w.heap.size, 4, none⟩ = some (.bool b) ∧ W.cell? ⟨w.heap.size, 5, none⟩ = some (.slice A4 n4 c4) ∧ W.cell? ⟨w.heap.size, 6, none⟩ = some (.slice A5 n5 c5) ∧ W.cell? ⟨w.heap.size, 7, none⟩ = some (.slice A6 n6 c6) := fun W h => by
    obtain ⟨d0, d1, d2, d3, d4, d5, d6, d7⟩ := h
    rw [q0] at d0
    rw [q1] at d1
    rw [q2] at d2
    rw [q3] at d3
    rw [q4] at d5
    rw [q5] at d6
    rw [q6] at d7
    exact ⟨d0, d1, d2, d3, d4, d5, d6, d7⟩
  have HR := Lib.hid hR
  have HO := Lib.hid hok
  have HX := Lib.hid hbox
  have HRF := Lib.hid hrf
  have HCS := Lib.hid hcs
  have fl : ∀ k : Nat, k < 7 → (fldS l (k : Int)).v = .slice (l k).A (l k).xs.length (l k).c := fun k hk => by rw [fld_in l (by omega) (by omega)]; rfl
  have HFL := Lib.hid fl
  clear hR q0 q1 q2 q3 q4 q5 q6 hbox fl hrf hcs hok
  go_enter Try.func38, Try.ntmps38
  go_wp2_with fail
  go_loopw [4] (fun i wr => ∃ k : Nat, k ≤ 7 ∧ i = .int .i64 k ∧ Hid (chkF (fun j => flt j (l j).xs) k (7 - k) = R) ∧ Hid (Below w.heap.size w wr ∧ CalAt wr w.heap.size l b)) (fun i _ => 7 - (intOf i).toNat)
  case atStart => exact ⟨0, by omega, rfl, Lib.hid (by rw [HR.out]; rfl), Lib.hid ⟨(Below.refl _ _).alloc (Nat.le_refl _) _, HX.out⟩⟩
  case round =>
    obtain ⟨k, hk, rfl, HC, HB⟩ := hrel
    obtain ⟨wo, rfl⟩ : ∃ wo : World, wo = wr := ⟨_, rfl⟩
    by_cases hlt : k < 7
    · have on := chk_on hlt HC.out
      have hit := chk_hit hlt HC.out
      obtain ⟨d0, d1, d2, d3, d4, d5, d6, d7⟩ := HCS.out wo HB.out.2
      have hv := HFL.out k hlt
      have hb1 := b_bd k
      have hb2 := b_ord (f := k) (by omega) (by omega)
      have mb := mst_bd k
      have f0 := flt_zero (xs := (l k).xs) (f := k)
      have f5 := flt_long (xs := (l k).xs) (f := k)
      have f1 := fun j hj hm => flt_hit (xs := (l k).xs) (f := k) (j := j) hj hm
      have fa := flt_all (xs := (l k).xs) (f := k)
      have hok := (HO.out k).below HB.out.1
      have hlen := (HO.out k).2
      unfold badR at f1 fa
      obtain ⟨xs, hxs⟩ : ∃ xs, xs = (l k).xs := ⟨_, rfl⟩
      obtain ⟨g, hg⟩ : ∃ g, g = flt (k : Int) (l k).xs := ⟨_, rfl⟩
      simp only [← hg] at on hit f0 f5 f1 fa
      obtain ⟨A, hA⟩ : ∃ A, A = (l k).A := ⟨_, rfl⟩
      obtain ⟨c, hc⟩ : ∃ c, c = (l k).c := ⟨_, rfl⟩
      have hi : ItsAt wo A xs := by rw [hA, hxs]; exact hok.1
      rw [← hxs] at hv hlen f0 f5
      simp only [← hxs] at f1 fa
      obtain ⟨n, hn⟩ : ∃ n, n = xs.length := ⟨_, rfl⟩
      rw [← hA, ← hn, ← hc] at hv
      rw [← hn] at hlen f0 f5
      simp only [← hn] at f1 fa
      obtain ⟨lo, hlo⟩ : ∃ x, x = bLo k := ⟨_, rfl⟩
      obtain ⟨hi', hhi⟩ : ∃ x, x = bHi k := ⟨_, rfl⟩
      obtain ⟨M, hM⟩ : ∃ M, M = mst k := ⟨_, rfl⟩
      rw [← hlo, ← hhi] at hb1 hb2
      simp only [← hlo, ← hhi, ← hM] at f1 fa
      rw [← hM] at mb f5
      have HON := Lib.hid on
      have HIT := Lib.hid hit
      have HV := Lib.hid hv
      have HF0 := Lib.hid f0
      have HF5 := Lib.hid f5
      have HF1 := Lib.hid f1
      have HFA := Lib.hid fa
      have HI := Lib.hid hi
      have HN := Lib.hid hn
      have HLO := Lib.hid hlo
      have HHI := Lib.hid hhi
      have HM := Lib.hid hM
      have bl := World.block_lt_of_cell? _ _ d0
      clear on hit hv f0 f5 f1 fa hok hxs hg hA hc hi hn hlo hhi hM
      go_wp2_with fail
      refine (HRF.out _ _).mono ?_
      rintro e w2 ⟨rfl, hb⟩
      rw [HV.out]
      have HB2 : Hid (Below w.heap.size w w2 ∧ CalAt w2 w.heap.size l b) := Lib.hid ⟨below_on HB.out.1 hb, HB.out.2.below hb⟩
      have HI2 := Lib.hid (HI.out.below hb)
      clear hb d0 d1 d2 d3 d4 d5 d6 d7 bl
      go_wp2_with fail
      refine (rbounds_any _ _).mono ?_
      rintro e w' ⟨rfl, rfl⟩
      rw [← HLO.out, ← HHI.out]
      by_cases hz : n = 0 ∧ 0 < k
      · obtain ⟨hz1, hz2⟩ := hz
        have hg : g = 11 := by rw [HF0.out hz1, if_neg (by omega)]
        have HC' := Lib.hid (HIT.out (by omega))
        subst hz1
        have g1 : decide ((0 : Int) < k) = true := decide_eq_true (by omega)
        subst hg
        go_wp2
        go_ret2
        exact ⟨ret_ii (by rw [HC'.out]) (by rw [HC'.out]), HB2.out.1⟩
      have hz3 : n = 0 → (k : Int) = 0 := fun h => by omega
      have HZ3 := Lib.hid hz3
      clear hz3
      have hway : ((n : Int) == 0) = false ∨ (((n : Int) == 0) = true ∧ decide (0 < k) = false ∧ decide ((0 : Int) < k) = false) := by
        by_cases e : n = 0
        · exact .inr ⟨beq_iff_eq.2 (by omega), decide_eq_false (by omega), decide_eq_false (by omega)⟩
        · exact .inl (beq_eq_false_iff_ne.2 (by omega))
      by_cases hgt : M < (n : Int)
      · have hg : g = 5 := HF5.out (by omega) hgt
        have HC' := Lib.hid (HIT.out (by omega))
        have g1 : decide (M < (n : Int)) = true := decide_eq_true hgt
        have g0 : ((n : Int) == 0) = false := beq_eq_false_iff_ne.2 (by omega)
        subst hg
        clear hway hz
        go_wp2_with fail
        refine (rmost_any _ _).mono ?_
        rintro e w' ⟨rfl, rfl⟩
        rw [← HM.out]
        go_wp2
        go_ret2
        exact ⟨ret_ii (by rw [HC'.out]) (by rw [HC'.out]), HB2.out.1⟩
      have g1 : decide (M < (n : Int)) = false := decide_eq_false hgt
      have hle : (n : Int) ≤ M := by omega
      rcases hway with g0 | ⟨g0, g0', g0''⟩
      all_goals
        go_wp2_with fail
        refine (rmost_any _ _).mono ?_
        rintro e w' ⟨rfl, rfl⟩
        rw [← HM.out]
        go_wp2_with fail
        go_loopw [8] (fun i wr => ∃ j : Nat, j ≤ n ∧ i = .int .i64 j ∧ Hid (∀ q, q < j → (oddR k n (xs.getD q ⟨0, 0, 0, 0⟩) || !itB (xs.getD q ⟨0, 0, 0, 0⟩) lo hi') = false) ∧ Hid (Below w.heap.size w wr ∧ CalAt wr w.heap.size l b ∧ ItsAt wr A xs)) (fun i _ => n - (intOf i).toNat)
        case atStart => exact ⟨0, by omega, rfl, Lib.hid (fun q hq => absurd hq (by omega)), Lib.hid ⟨HB2.out.1, HB2.out.2, HI2.out⟩⟩
        case round =>
          obtain ⟨j, hj, rfl, HQ, HW⟩ := hrel
          by_cases hjn : j < n
          · obtain ⟨B, off, rfl, i0, i1, i2, i3⟩ := HW.out.2.2 j (by rw [← HN.out]; exact hjn)
            have hone := HF1.out j hjn hle
            have hnx := fun (h : (oddR k n (xs.getD j ⟨0, 0, 0, 0⟩) || !itB (xs.getD j ⟨0, 0, 0, 0⟩) lo hi') = false) (q : Nat) (hq : q < j + 1) => (show (oddR k n (xs.getD q ⟨0, 0, 0, 0⟩) || !itB (xs.getD q ⟨0, 0, 0, 0⟩) lo hi') = false from by
              by_cases e : q = j
              · rw [e]; exact h
              · exact HQ.out q (by omega))
            obtain ⟨x, hx⟩ : ∃ x, x = xs.getD j ⟨0, 0, 0, 0⟩ := ⟨_, rfl⟩
            rw [← hx] at i0 i1 i2 i3 hone hnx
            have HH := Lib.hid hone
            have HNX := Lib.hid hnx
            clear hx hone hnx
            have bl := World.block_lt_of_cell? _ _ i0
            obtain ⟨ik, ia, it, is⟩ := x
            dsimp only at i0 i1 i2 i3
            rcases oddR_ways k n ⟨ik, ia, it, is⟩ with ⟨o1, o2, o3, eo⟩ | ⟨o1, o2, o3, o4, eo⟩ | ⟨o1, o2, o3, o4, eo⟩ | ⟨o1, o2, o3, eo⟩ | ⟨o1, o2, o3, o4, eo⟩ | ⟨o1, o2, o3, eo⟩ | ⟨o1, o2, o3, o4, eo⟩ | ⟨o1, o2, o3, o4, eo⟩ | ⟨o1, o2, o3, o4, eo⟩ | ⟨o1, o2, eo⟩
            iterate 7
              · have HG := Lib.hid (HIT.out (by rw [HH.out (by rw [eo]; rfl)]; omega))
                have HG1 := Lib.hid (HH.out (by rw [eo]; rfl))
                clear eo
                go_wp2
                go_ret2
                exact ⟨ret_ii (by rw [HG.out]) (by rw [HG.out, HG1.out]), HW.out.1⟩
            iterate 3
              · have HEO := Lib.hid eo
                clear eo
                go_wp2_with fail
                refine (rimay_any _ _ _ _ _ _ _ hb1.1 hb2 (by omega)).mono ?_
                rintro e w3 ⟨rfl, hb⟩
                have HW3 : Hid (Below w.heap.size w w3 ∧ CalAt w3 w.heap.size l b ∧ ItsAt w3 (some ⟨B, off, none⟩) xs) := Lib.hid ⟨below_on HW.out.1 hb, HW.out.2.1.below hb, HW.out.2.2.below hb⟩
                clear hb i0 i1 i2 i3
                obtain ⟨v, hv⟩ : ∃ v, v = itB ⟨ik, ia, it, is⟩ lo hi' := ⟨_, rfl⟩
                rw [← hv] at HH HNX ⊢
                clear hv
                cases v
                · have HG1 := Lib.hid (HH.out (by rw [HEO.out]; rfl))
                  have HG := Lib.hid (HIT.out (by rw [HG1.out]; omega))
                  go_wp2
                  go_ret2
                  exact ⟨ret_ii (by rw [HG.out]) (by rw [HG.out, HG1.out]), HW3.out.1⟩
                · have HQ' := Lib.hid (HNX.out (by rw [HEO.out]; rfl))
                  go_wp2
                  go_roundw
                  case rel => exact ⟨j + 1, by omega, by go_num, HQ', HW3⟩
                  case measure => simp [intOf]; omega
          · obtain rfl : j = n := by omega
            have HC' := Lib.hid (HON.out (HFA.out hle HZ3.out HQ.out))
            go_wp2
            go_roundw
            case rel => exact ⟨k + 1, by omega, by go_num, HC', Lib.hid ⟨HW.out.1, HW.out.2.1⟩⟩
            case measure => simp [intOf]; omega
    · obtain rfl : k = 7 := by omega
      have HC' : Hid ((7, 0) = R) := Lib.hid HC.out
      go_wp2
      go_ret2
      exact ⟨ret_ii (by rw [← HC'.out]) (by rw [← HC'.out]), HB.out.1⟩
end Go.Proofs.Yticloblhdjnjkaa
