/- The walk of ferialaw10.UnitWhich. -/
import Derived.Test.YtnoomlakgfdaeaaUnitD
import Derived.Test.YtnoomlakgfdaeaaUnitE
namespace Go.Proofs.Ytnoomlakgfdaeaa
open Go.RowKit

theorem rnames_kept (w : World) : Calls Try.prog 44 #[] w fun e w' => e = .returned (.slice (some ⟨w.heap.size, 0, none⟩) 7 7) ∧ Below w.heap.size w w' ∧ ∀ k, k < 7 → w'.cell? ⟨w.heap.size, k, none⟩ = some (.string (nmU k)) :=
  (rnames_any w).mono fun e w' ⟨he, hw⟩ => ⟨he, hw ▸ (Below.refl _ _).alloc (Nat.le_refl _) _, fun k hk => hw ▸ str_cells w _ k hk⟩
theorem lIF_succ (L : Nat → ByteArray) (s : ByteArray) (k : Nat) : lIF L s (k + 1) = if L k = s then (k : Int) else lIF L s k := rfl

set_option maxRecDepth 100000 in
set_option maxHeartbeats 8000000 in
theorem which_A (k0 : Nat) (hk : k0 ≤ 6) (t : Int) (ht : inW t = true) (s : ByteArray) (w : World) : Calls Try.prog 5 #[.int .i64 (k0 : Int), .int .i64 t, .string s] w (Kept (.bool true) w) := by
  have hu : uB (k0 : Int) = true := decide_eq_true (by omega)
  have hN : uNm (k0 : Int) = nmU k0 := by unfold uNm; rw [if_neg (by omega)]; rfl
  have hw1 := fun W => uwhich_yes (k0 : Int) t W hu ht
  have hw2 := fun W => rwhichu_any (k0 : Int) t W hu ht
  obtain ⟨V, hV⟩ : ∃ V, V = uWh k0 t := ⟨_, rfl⟩
  simp only [← hV] at hw1 hw2
  have W2 := Lib.hid hw2
  clear hV hw2
  have W1 := Lib.hid hw1
  have HU := Lib.hid hu
  have HNM := Lib.hid hN
  have hfi := fI_eq nmU_inj s
  have hof := fun W => uof_any s W
  obtain ⟨I, hI⟩ : ∃ I, I = fIF nmU s 0 7 := ⟨_, rfl⟩
  rw [← hI] at hfi
  simp only [← hI] at hof
  have HL : Hid (lIF nmU s 7 = I) := Lib.hid hfi.1.symm
  have lo := hfi.2.1
  have hi := hfi.2.2
  have HOF := Lib.hid hof
  obtain ⟨z, hz⟩ : ∃ z, z = uSz (k0 : Int) := ⟨_, rfl⟩
  have HZ := Lib.hid hz
  clear hw1 hu hN hfi hof hI hz
  have HT := Lib.hid ht
  clear ht
  go_enter Try.func5, Try.ntmps5
  go_wp2_with fail
  refine (W1.out _).mono ?_
  rintro e w1 ⟨rfl, hb⟩
  have HB1 := Lib.hid hb
  clear hb
  go_wp2_with fail
  refine (rumay_any _ _).mono ?_
  rintro e w' ⟨rfl, rfl⟩
  rw [HU.out]
  go_wp2_with fail
  refine (rmin_any _ _).mono ?_
  rintro e w' ⟨rfl, rfl⟩
  rw [HT.out]
  go_wp2_with fail
  refine (W2.out _).mono ?_
  rintro e w' ⟨rfl, rfl⟩
  go_wp2_with fail
  refine (size_any _ _).mono ?_
  rintro e w2 ⟨rfl, hb⟩
  rw [← HZ.out]
  have HB2 := Lib.hid (below_on HB1.out hb)
  clear hb
  go_wp2_with fail
  refine (rsize_any _ _).mono ?_
  rintro e w' ⟨rfl, rfl⟩
  rw [← HZ.out]
  go_wp2_with fail
  refine (rnames_kept _).mono ?_
  rintro e w3 ⟨rfl, hb, hcell⟩
  have HB3 := Lib.hid (below_on HB2.out hb)
  have HC := Lib.hid hcell
  clear hb hcell
  go_wp2_with fail
  refine (rumay_any _ _).mono ?_
  rintro e w' ⟨rfl, rfl⟩
  rw [HU.out]
  have hnm := HC.out k0 (by omega)
  obtain ⟨N, hNN⟩ : ∃ N, N = nmU k0 := ⟨_, rfl⟩
  rw [← hNN] at hnm
  have HNN := Lib.hid hNN
  clear hNN
  have bl := World.block_lt_of_cell? _ _ hnm
  go_wp2_with fail
  go_loop [12, 13] (fun v i => ∃ k : Nat, k ≤ 7 ∧ i = .int .i64 k ∧ v = .int .i64 (lIF nmU s k)) (fun _ i => 7 - (intOf i).toNat)
  case atStart => exact ⟨0, by omega, rfl, rfl⟩
  case round =>
    obtain ⟨k, hkk, rfl, rfl⟩ := hrel
    by_cases hlt : k < 7
    · have hc := HC.out k hlt
      have blk := World.block_lt_of_cell? _ _ hc
      have hs := lIF_succ nmU s k
      obtain ⟨x, hx⟩ : ∃ x, x = nmU k := ⟨_, rfl⟩
      obtain ⟨v, hv⟩ : ∃ v, v = lIF nmU s k := ⟨_, rfl⟩
      rw [← hx] at hc hs
      rw [← hv] at hs ⊢
      clear hx hv
      by_cases e : x = s
      · have HS : Hid (lIF nmU s (k + 1) = (k : Int)) := Lib.hid (by rw [hs, if_pos e])
        have e1 : (x.toList == s.toList) = true := by rw [beq_str, decide_eq_true e]
        clear e hs
        go_wp2
        go_round
        case rel => exact ⟨k + 1, by omega, by go_num, by rw [HS.out]⟩
        case measure => simp [intOf]; omega
      · have HS : Hid (lIF nmU s (k + 1) = v) := Lib.hid (by rw [hs, if_neg e])
        have e1 : (x.toList == s.toList) = false := by rw [beq_str, decide_eq_false e]
        clear e hs
        go_wp2
        go_round
        case rel => exact ⟨k + 1, by omega, by go_num, by rw [HS.out]⟩
        case measure => simp [intOf]; omega
    · obtain rfl : k = 7 := by omega
      rw [HL.out]
      rcases (show 0 < I ∨ I = 0 ∨ I = -1 by omega) with hI | rfl | rfl
      · have em : max I 0 = I := Int.max_eq_left (by omega)
        have ed : decide (0 ≤ I) = true := decide_eq_true (by omega)
        have HEM := Lib.hid em
        have HED := Lib.hid ed
        clear em ed
        go_wp2_with fail
        refine (HOF.out _).mono ?_
        rintro e w4 ⟨rfl, hb⟩
        rw [HEM.out, HED.out]
        have HB4 := Lib.hid (below_on HB3.out hb)
        clear hb
        go_wp2_with fail
        refine (uname_any _ _).mono ?_
        rintro e w5 ⟨rfl, hb⟩
        rw [HNM.out, ← HNN.out]
        have HB5 := Lib.hid (below_on HB4.out hb)
        clear hb
        go_wp2_with fail
        refine (unit_lives _).mono ?_
        rintro e w6 ⟨rfl, hb⟩
        have HB6 := Lib.hid (below_on HB5.out hb)
        clear hb
        go_wp2
        go_ret
        exact ⟨rfl, HB6.out⟩
      · have em : max (0 : Int) 0 = 0 := rfl
        have ed : decide ((0 : Int) ≤ 0) = true := rfl
        have HEM := Lib.hid em
        have HED := Lib.hid ed
        clear em ed
        go_wp2_with fail
        refine (HOF.out _).mono ?_
        rintro e w4 ⟨rfl, hb⟩
        rw [HEM.out, HED.out]
        have HB4 := Lib.hid (below_on HB3.out hb)
        clear hb
        go_wp2_with fail
        refine (uname_any _ _).mono ?_
        rintro e w5 ⟨rfl, hb⟩
        rw [HNM.out, ← HNN.out]
        have HB5 := Lib.hid (below_on HB4.out hb)
        clear hb
        go_wp2_with fail
        refine (unit_lives _).mono ?_
        rintro e w6 ⟨rfl, hb⟩
        have HB6 := Lib.hid (below_on HB5.out hb)
        clear hb
        go_wp2
        go_ret
        exact ⟨rfl, HB6.out⟩
      · have em : max (-1 : Int) 0 = 0 := rfl
        have ed : decide ((0 : Int) ≤ -1) = false := rfl
        have HEM := Lib.hid em
        have HED := Lib.hid ed
        clear em ed
        go_wp2_with fail
        refine (HOF.out _).mono ?_
        rintro e w4 ⟨rfl, hb⟩
        rw [HEM.out, HED.out]
        have HB4 := Lib.hid (below_on HB3.out hb)
        clear hb
        go_wp2_with fail
        refine (uname_any _ _).mono ?_
        rintro e w5 ⟨rfl, hb⟩
        rw [HNM.out, ← HNN.out]
        have HB5 := Lib.hid (below_on HB4.out hb)
        clear hb
        go_wp2_with fail
        refine (unit_lives _).mono ?_
        rintro e w6 ⟨rfl, hb⟩
        have HB6 := Lib.hid (below_on HB5.out hb)
        clear hb
        go_wp2
        go_ret
        exact ⟨rfl, HB6.out⟩

set_option maxRecDepth 100000 in
set_option maxHeartbeats 8000000 in
theorem which_B (k0 : Nat) (hk : k0 ≤ 6) (t : Int) (ht : inW t = false) (s : ByteArray) (w : World) : Calls Try.prog 5 #[.int .i64 (k0 : Int), .int .i64 t, .string s] w (Kept (.bool true) w) := by
  have hu : uB (k0 : Int) = true := decide_eq_true (by omega)
  have hN : uNm (k0 : Int) = nmU k0 := by unfold uNm; rw [if_neg (by omega)]; rfl
  have hw1 := fun W => uwhich_no (k0 : Int) t W (by unfold whB; rw [ht, Bool.and_false])
  have W1 := Lib.hid hw1
  have HU := Lib.hid hu
  have HNM := Lib.hid hN
  have hfi := fI_eq nmU_inj s
  have hof := fun W => uof_any s W
  obtain ⟨I, hI⟩ : ∃ I, I = fIF nmU s 0 7 := ⟨_, rfl⟩
  rw [← hI] at hfi
  simp only [← hI] at hof
  have HL : Hid (lIF nmU s 7 = I) := Lib.hid hfi.1.symm
  have lo := hfi.2.1
  have hi := hfi.2.2
  have HOF := Lib.hid hof
  obtain ⟨z, hz⟩ : ∃ z, z = uSz (k0 : Int) := ⟨_, rfl⟩
  have HZ := Lib.hid hz
  clear hw1 hu hN hfi hof hI hz
  have HT := Lib.hid ht
  clear ht
  go_enter Try.func5, Try.ntmps5
  go_wp2_with fail
  refine (W1.out _).mono ?_
  rintro e w1 ⟨rfl, hb⟩
  have HB1 := Lib.hid hb
  clear hb
  go_wp2_with fail
  refine (rumay_any _ _).mono ?_
  rintro e w' ⟨rfl, rfl⟩
  rw [HU.out]
  go_wp2_with fail
  refine (rmin_any _ _).mono ?_
  rintro e w' ⟨rfl, rfl⟩
  rw [HT.out]
  go_wp2_with fail
  refine (size_any _ _).mono ?_
  rintro e w2 ⟨rfl, hb⟩
  rw [← HZ.out]
  have HB2 := Lib.hid (below_on HB1.out hb)
  clear hb
  go_wp2_with fail
  refine (rsize_any _ _).mono ?_
  rintro e w' ⟨rfl, rfl⟩
  rw [← HZ.out]
  go_wp2_with fail
  refine (rnames_kept _).mono ?_
  rintro e w3 ⟨rfl, hb, hcell⟩
  have HB3 := Lib.hid (below_on HB2.out hb)
  have HC := Lib.hid hcell
  clear hb hcell
  go_wp2_with fail
  refine (rumay_any _ _).mono ?_
  rintro e w' ⟨rfl, rfl⟩
  rw [HU.out]
  have hnm := HC.out k0 (by omega)
  obtain ⟨N, hNN⟩ : ∃ N, N = nmU k0 := ⟨_, rfl⟩
  rw [← hNN] at hnm
  have HNN := Lib.hid hNN
  clear hNN
  have bl := World.block_lt_of_cell? _ _ hnm
  go_wp2_with fail
  go_loop [12, 13] (fun v i => ∃ k : Nat, k ≤ 7 ∧ i = .int .i64 k ∧ v = .int .i64 (lIF nmU s k)) (fun _ i => 7 - (intOf i).toNat)
  case atStart => exact ⟨0, by omega, rfl, rfl⟩
  case round =>
    obtain ⟨k, hkk, rfl, rfl⟩ := hrel
    by_cases hlt : k < 7
    · have hc := HC.out k hlt
      have blk := World.block_lt_of_cell? _ _ hc
      have hs := lIF_succ nmU s k
      obtain ⟨x, hx⟩ : ∃ x, x = nmU k := ⟨_, rfl⟩
      obtain ⟨v, hv⟩ : ∃ v, v = lIF nmU s k := ⟨_, rfl⟩
      rw [← hx] at hc hs
      rw [← hv] at hs ⊢
      clear hx hv
      by_cases e : x = s
      · have HS : Hid (lIF nmU s (k + 1) = (k : Int)) := Lib.hid (by rw [hs, if_pos e])
        have e1 : (x.toList == s.toList) = true := by rw [beq_str, decide_eq_true e]
        clear e hs
        go_wp2
        go_round
        case rel => exact ⟨k + 1, by omega, by go_num, by rw [HS.out]⟩
        case measure => simp [intOf]; omega
      · have HS : Hid (lIF nmU s (k + 1) = v) := Lib.hid (by rw [hs, if_neg e])
        have e1 : (x.toList == s.toList) = false := by rw [beq_str, decide_eq_false e]
        clear e hs
        go_wp2
        go_round
        case rel => exact ⟨k + 1, by omega, by go_num, by rw [HS.out]⟩
        case measure => simp [intOf]; omega
    · obtain rfl : k = 7 := by omega
      rw [HL.out]
      rcases (show 0 < I ∨ I = 0 ∨ I = -1 by omega) with hI | rfl | rfl
      · have em : max I 0 = I := Int.max_eq_left (by omega)
        have ed : decide (0 ≤ I) = true := decide_eq_true (by omega)
        have HEM := Lib.hid em
        have HED := Lib.hid ed
        clear em ed
        go_wp2_with fail
        refine (HOF.out _).mono ?_
        rintro e w4 ⟨rfl, hb⟩
        rw [HEM.out, HED.out]
        have HB4 := Lib.hid (below_on HB3.out hb)
        clear hb
        go_wp2_with fail
        refine (uname_any _ _).mono ?_
        rintro e w5 ⟨rfl, hb⟩
        rw [HNM.out, ← HNN.out]
        have HB5 := Lib.hid (below_on HB4.out hb)
        clear hb
        go_wp2_with fail
        refine (unit_lives _).mono ?_
        rintro e w6 ⟨rfl, hb⟩
        have HB6 := Lib.hid (below_on HB5.out hb)
        clear hb
        go_wp2
        go_ret
        exact ⟨rfl, HB6.out⟩
      · have em : max (0 : Int) 0 = 0 := rfl
        have ed : decide ((0 : Int) ≤ 0) = true := rfl
        have HEM := Lib.hid em
        have HED := Lib.hid ed
        clear em ed
        go_wp2_with fail
        refine (HOF.out _).mono ?_
        rintro e w4 ⟨rfl, hb⟩
        rw [HEM.out, HED.out]
        have HB4 := Lib.hid (below_on HB3.out hb)
        clear hb
        go_wp2_with fail
        refine (uname_any _ _).mono ?_
        rintro e w5 ⟨rfl, hb⟩
        rw [HNM.out, ← HNN.out]
        have HB5 := Lib.hid (below_on HB4.out hb)
        clear hb
        go_wp2_with fail
        refine (unit_lives _).mono ?_
        rintro e w6 ⟨rfl, hb⟩
        have HB6 := Lib.hid (below_on HB5.out hb)
        clear hb
        go_wp2
        go_ret
        exact ⟨rfl, HB6.out⟩
      · have em : max (-1 : Int) 0 = 0 := rfl
        have ed : decide ((0 : Int) ≤ -1) = false := rfl
        have HEM := Lib.hid em
        have HED := Lib.hid ed
        clear em ed
        go_wp2_with fail
        refine (HOF.out _).mono ?_
        rintro e w4 ⟨rfl, hb⟩
        rw [HEM.out, HED.out]
        have HB4 := Lib.hid (below_on HB3.out hb)
        clear hb
        go_wp2_with fail
        refine (uname_any _ _).mono ?_
        rintro e w5 ⟨rfl, hb⟩
        rw [HNM.out, ← HNN.out]
        have HB5 := Lib.hid (below_on HB4.out hb)
        clear hb
        go_wp2_with fail
        refine (unit_lives _).mono ?_
        rintro e w6 ⟨rfl, hb⟩
        have HB6 := Lib.hid (below_on HB5.out hb)
        clear hb
        go_wp2
        go_ret
        exact ⟨rfl, HB6.out⟩

set_option maxRecDepth 100000 in
set_option maxHeartbeats 8000000 in
theorem which_C (u : Int) (hu : uB u = false) (t : Int)  (s : ByteArray) (w : World) : Calls Try.prog 5 #[.int .i64 u, .int .i64 t, .string s] w (Kept (.bool true) w) := by
  have hN : uNm u = ⟨#[]⟩ := by
    have := of_decide_eq_false hu
    unfold uNm
    rw [if_pos (by omega)]
    rfl
  have hw1 := fun W => uwhich_no u t W (by unfold whB; rw [hu, Bool.false_and])
  have W1 := Lib.hid hw1
  have HU := Lib.hid hu
  have HNM := Lib.hid hN
  have hfi := fI_eq nmU_inj s
  have hof := fun W => uof_any s W
  obtain ⟨I, hI⟩ : ∃ I, I = fIF nmU s 0 7 := ⟨_, rfl⟩
  rw [← hI] at hfi
  simp only [← hI] at hof
  have HL : Hid (lIF nmU s 7 = I) := Lib.hid hfi.1.symm
  have lo := hfi.2.1
  have hi := hfi.2.2
  have HOF := Lib.hid hof
  obtain ⟨z, hz⟩ : ∃ z, z = uSz u := ⟨_, rfl⟩
  have HZ := Lib.hid hz
  clear hw1 hu hN hfi hof hI hz
  go_enter Try.func5, Try.ntmps5
  go_wp2_with fail
  refine (W1.out _).mono ?_
  rintro e w1 ⟨rfl, hb⟩
  have HB1 := Lib.hid hb
  clear hb
  go_wp2_with fail
  refine (rumay_any _ _).mono ?_
  rintro e w' ⟨rfl, rfl⟩
  rw [HU.out]
  go_wp2_with fail
  refine (size_any _ _).mono ?_
  rintro e w2 ⟨rfl, hb⟩
  rw [← HZ.out]
  have HB2 := Lib.hid (below_on HB1.out hb)
  clear hb
  go_wp2_with fail
  refine (rsize_any _ _).mono ?_
  rintro e w' ⟨rfl, rfl⟩
  rw [← HZ.out]
  go_wp2_with fail
  refine (rnames_kept _).mono ?_
  rintro e w3 ⟨rfl, hb, hcell⟩
  have HB3 := Lib.hid (below_on HB2.out hb)
  have HC := Lib.hid hcell
  clear hb hcell
  go_wp2_with fail
  refine (rumay_any _ _).mono ?_
  rintro e w' ⟨rfl, rfl⟩
  rw [HU.out]
  go_wp2_with fail
  go_loop [12, 13] (fun v i => ∃ k : Nat, k ≤ 7 ∧ i = .int .i64 k ∧ v = .int .i64 (lIF nmU s k)) (fun _ i => 7 - (intOf i).toNat)
  case atStart => exact ⟨0, by omega, rfl, rfl⟩
  case round =>
    obtain ⟨k, hkk, rfl, rfl⟩ := hrel
    by_cases hlt : k < 7
    · have hc := HC.out k hlt
      have blk := World.block_lt_of_cell? _ _ hc
      have hs := lIF_succ nmU s k
      obtain ⟨x, hx⟩ : ∃ x, x = nmU k := ⟨_, rfl⟩
      obtain ⟨v, hv⟩ : ∃ v, v = lIF nmU s k := ⟨_, rfl⟩
      rw [← hx] at hc hs
      rw [← hv] at hs ⊢
      clear hx hv
      by_cases e : x = s
      · have HS : Hid (lIF nmU s (k + 1) = (k : Int)) := Lib.hid (by rw [hs, if_pos e])
        have e1 : (x.toList == s.toList) = true := by rw [beq_str, decide_eq_true e]
        clear e hs
        go_wp2
        go_round
        case rel => exact ⟨k + 1, by omega, by go_num, by rw [HS.out]⟩
        case measure => simp [intOf]; omega
      · have HS : Hid (lIF nmU s (k + 1) = v) := Lib.hid (by rw [hs, if_neg e])
        have e1 : (x.toList == s.toList) = false := by rw [beq_str, decide_eq_false e]
        clear e hs
        go_wp2
        go_round
        case rel => exact ⟨k + 1, by omega, by go_num, by rw [HS.out]⟩
        case measure => simp [intOf]; omega
    · obtain rfl : k = 7 := by omega
      rw [HL.out]
      rcases (show 0 < I ∨ I = 0 ∨ I = -1 by omega) with hI | rfl | rfl
      · have em : max I 0 = I := Int.max_eq_left (by omega)
        have ed : decide (0 ≤ I) = true := decide_eq_true (by omega)
        have HEM := Lib.hid em
        have HED := Lib.hid ed
        clear em ed
        go_wp2_with fail
        refine (HOF.out _).mono ?_
        rintro e w4 ⟨rfl, hb⟩
        rw [HEM.out, HED.out]
        have HB4 := Lib.hid (below_on HB3.out hb)
        clear hb
        go_wp2_with fail
        refine (uname_any _ _).mono ?_
        rintro e w5 ⟨rfl, hb⟩
        rw [HNM.out]
        have HB5 := Lib.hid (below_on HB4.out hb)
        clear hb
        go_wp2_with fail
        refine (unit_lives _).mono ?_
        rintro e w6 ⟨rfl, hb⟩
        have HB6 := Lib.hid (below_on HB5.out hb)
        clear hb
        go_wp2
        go_ret
        exact ⟨rfl, HB6.out⟩
      · have em : max (0 : Int) 0 = 0 := rfl
        have ed : decide ((0 : Int) ≤ 0) = true := rfl
        have HEM := Lib.hid em
        have HED := Lib.hid ed
        clear em ed
        go_wp2_with fail
        refine (HOF.out _).mono ?_
        rintro e w4 ⟨rfl, hb⟩
        rw [HEM.out, HED.out]
        have HB4 := Lib.hid (below_on HB3.out hb)
        clear hb
        go_wp2_with fail
        refine (uname_any _ _).mono ?_
        rintro e w5 ⟨rfl, hb⟩
        rw [HNM.out]
        have HB5 := Lib.hid (below_on HB4.out hb)
        clear hb
        go_wp2_with fail
        refine (unit_lives _).mono ?_
        rintro e w6 ⟨rfl, hb⟩
        have HB6 := Lib.hid (below_on HB5.out hb)
        clear hb
        go_wp2
        go_ret
        exact ⟨rfl, HB6.out⟩
      · have em : max (-1 : Int) 0 = 0 := rfl
        have ed : decide ((0 : Int) ≤ -1) = false := rfl
        have HEM := Lib.hid em
        have HED := Lib.hid ed
        clear em ed
        go_wp2_with fail
        refine (HOF.out _).mono ?_
        rintro e w4 ⟨rfl, hb⟩
        rw [HEM.out, HED.out]
        have HB4 := Lib.hid (below_on HB3.out hb)
        clear hb
        go_wp2_with fail
        refine (uname_any _ _).mono ?_
        rintro e w5 ⟨rfl, hb⟩
        rw [HNM.out]
        have HB5 := Lib.hid (below_on HB4.out hb)
        clear hb
        go_wp2_with fail
        refine (unit_lives _).mono ?_
        rintro e w6 ⟨rfl, hb⟩
        have HB6 := Lib.hid (below_on HB5.out hb)
        clear hb
        go_wp2
        go_ret
        exact ⟨rfl, HB6.out⟩

theorem UnitWhich_walk (u t : Int) (s : ByteArray) (w : World) (hs : s.size ≤ 9223372036854775807) : Calls Try.prog 5 #[.int .i64 u, .int .i64 t, .string s] w (Kept (.bool true) w) := by
  cases hu : uB u
  · exact which_C u hu t s w
  · obtain ⟨u0, u1⟩ := of_decide_eq_true hu
    obtain ⟨k0, rfl⟩ := Int.eq_ofNat_of_zero_le u0
    cases ht : inW t
    · exact which_B k0 (by omega) t ht s w
    · exact which_A k0 (by omega) t ht s w
end Go.Proofs.Ytnoomlakgfdaeaa
