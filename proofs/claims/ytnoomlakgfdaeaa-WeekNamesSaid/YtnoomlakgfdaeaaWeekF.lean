/- The walk of ferialaw06.WeekNames. -/
import Derived.Test.YtnoomlakgfdaeaaWeekE
import Derived.Deep.RegionHeld3
namespace Go.Proofs.Ytnoomlakgfdaeaa
open Go.RowKit

theorem keepN {w W w2 : World} {g k : Nat} {v : Value} (hb : Below W.heap.size W w2) (h : Below w.heap.size w W ∧ W.cell? ⟨g, k, none⟩ = some v) : Below w.heap.size w w2 ∧ w2.cell? ⟨g, k, none⟩ = some v :=
  ⟨below_on h.1 hb, (hb.cell (World.block_lt_of_cell? _ _ h.2)).trans h.2⟩

set_option maxRecDepth 100000 in
set_option maxHeartbeats 8000000 in
theorem wn_yes (j : Nat) (hj : j < 7) (s : ByteArray) (w : World) (hs : s.size ≤ 140737488351232) : Calls Try.prog 15 #[.int .i64 ((j : Int) + 1), .string s] w (Kept (.bool true) w) := by
  have hfw := fW_eq smW_inj (sml s)
  have hof := fun W => wof_any s W (by omega)
  have hsm := fun W => rsmall_any s W hs
  have hsk := fun (k : Nat) (W : World) => rsmall_any (nmW k) W (by rw [nmW_size]; omega)
  obtain ⟨I, hI⟩ : ∃ I, I = fIW smW (sml s) 0 7 := ⟨_, rfl⟩
  rw [← hI] at hfw
  simp only [← hI] at hof
  obtain ⟨ss, hss⟩ : ∃ x, x = sml s := ⟨_, rfl⟩
  rw [← hss] at hfw
  simp only [← hss] at hsm
  have HL : Hid (lIW smW ss 7 = I) := Lib.hid hfw.1.symm
  have lo := hfw.2.1
  have hi := hfw.2.2
  have HOF := Lib.hid hof
  have HSM := Lib.hid hsm
  have HSK := Lib.hid hsk
  have hof2 := fun W => wof_any (nmW j) W (by rw [nmW_size]; omega)
  have hat := fW_at smW_inj j hj
  rw [show smW j = sml (nmW j) from rfl] at hat
  rw [hat] at hof2
  rw [show wofV (j : Int) = .tuple #[.int .i64 ((j : Int) + 1), .bool true] by unfold wofV; rw [if_neg (by omega)]] at hof2
  have hnm := fun W => wname_yes j hj W
  have hsz := nmW_size j
  obtain ⟨N, hN⟩ : ∃ N, N = nmW j := ⟨_, rfl⟩
  simp only [← hN] at hof2 hnm hsz
  have n1 : N.toList ≠ [] := fun h => by
    rw [ByteArray.toList_eq] at h
    have : N.size = 0 := by
      have e : N.size = N.data.toList.length := by simp
      rw [e, h]
      rfl
    omega
  have n2 : N.toList.isEmpty = false := by
    cases h : N.toList with
    | nil => exact absurd h n1
    | cons a r => rfl
  have n3 : (N.toList == []) = false := by rw [beq_eq_false_iff_ne]; exact n1
  have HNN := Lib.hid hN
  have g1 : decide ((1 : Int) ≤ (j : Int) + 1) = true := decide_eq_true (by omega)
  have g2 : decide ((j : Int) + 1 ≤ 7) = true := decide_eq_true (by omega)
  clear n1 hsz hat hN
  have HOF2 := Lib.hid hof2
  have HNM := Lib.hid hnm
  clear hfw hof hsm hsk hI hss hof2 hnm
  go_enter Try.func15, Try.ntmps15
  go_wp2_with fail
  refine (rwnames_any _).mono ?_
  rintro e w1 ⟨rfl, hb, hcell⟩
  have HB1 := Lib.hid hb
  have HC := Lib.hid hcell
  clear hb hcell
  have hnj := HC.out j hj
  rw [← HNN.out] at hnj
  have bl := World.block_lt_of_cell? _ _ hnj
  go_wp2_with fail
  go_loopw [7, 8] (fun v i wr => ∃ k : Nat, k ≤ 7 ∧ i = .int .i64 k ∧ v = .int .i64 (lIW smW ss k + 1) ∧ Hid (Below w.heap.size w wr ∧ ∀ q, q < 7 → wr.cell? ⟨w.heap.size, q, none⟩ = some (.string (nmW q)))) (fun _ i _ => 7 - (intOf i).toNat)
  case atStart => exact ⟨0, by omega, rfl, rfl, Lib.hid ⟨HB1.out, HC.out⟩⟩
  case round =>
    obtain ⟨k, hkk, rfl, rfl, HW⟩ := hrel
    by_cases hlt : k < 7
    · have hc := HW.out.2 k hlt
      have hsk := HSK.out k
      have hs' := lIW_succ smW ss k
      have hlo := lW_lo smW ss k
      rw [show smW k = sml (nmW k) from rfl] at hs'
      obtain ⟨x, hx⟩ : ∃ x, x = nmW k := ⟨_, rfl⟩
      obtain ⟨v, hv⟩ : ∃ v, v = lIW smW ss k := ⟨_, rfl⟩
      rw [← hx] at hc
      simp only [← hx] at hsk hs'
      rw [← hv] at hs' hlo ⊢
      obtain ⟨sx, hsx⟩ : ∃ y, y = sml x := ⟨_, rfl⟩
      simp only [← hsx] at hsk hs'
      have blk := World.block_lt_of_cell? _ _ hc
      have HSX := Lib.hid hsk
      have HS' := Lib.hid hs'
      clear hx hv hsx hsk hs'
      by_cases e : sx = ss
      · have HS : Hid (lIW smW ss (k + 1) = (k : Int)) := Lib.hid (by rw [HS'.out, if_pos e])
        have e1 : (ss.toList == sx.toList) = true := by rw [bw_str, decide_eq_true e.symm]
        clear e
        go_wp2_with fail
        go_region_held3 (fun w' => Below w.heap.size w w' ∧ w'.cell? ⟨w.heap.size, k, none⟩ = some (.string x))
          (first | exact ⟨below_draws HW.out.1 1, hc⟩ | exact keepN hb2 (by assumption) | exact keepN hb3 (by assumption))
          (first
            | (go_at_call 65; first
                | ((with_reducible refine (HSM.out _).mono ?_); rintro e w2 ⟨rfl, hb2⟩)
                | ((with_reducible refine (HSX.out _).mono ?_); rintro e w3 ⟨rfl, hb3⟩)))
        have hW3 : Below w.heap.size w w3 ∧ ∀ q, q < 7 → w3.cell? ⟨w.heap.size, q, none⟩ = some (.string (nmW q)) := by
          refine ⟨(by assumption : _ ∧ _).1, fun q hq => ?_⟩
          have c := HW.out.2 q hq
          have c1 := (hb2.cell (p := ⟨w.heap.size, q, none⟩) (World.block_lt_of_cell? _ _ c)).trans c
          exact (hb3.cell (World.block_lt_of_cell? _ _ c1)).trans c1
        have HW3 := Lib.hid hW3
        clear hW3 hb2 hb3 hc
        rename_i hh
        clear hh
        go_wp2
        go_roundw
        case rel => exact ⟨k + 1, by omega, by go_num, by rw [HS.out], HW3⟩
        case measure => simp [intOf]; omega
      · have HS : Hid (lIW smW ss (k + 1) = v) := Lib.hid (by rw [HS'.out, if_neg e])
        have e1 : (ss.toList == sx.toList) = false := by rw [bw_str, decide_eq_false (fun h => e h.symm)]
        clear e
        go_wp2_with fail
        go_region_held3 (fun w' => Below w.heap.size w w' ∧ w'.cell? ⟨w.heap.size, k, none⟩ = some (.string x))
          (first | exact ⟨below_draws HW.out.1 1, hc⟩ | exact keepN hb2 (by assumption) | exact keepN hb3 (by assumption))
          (first
            | (go_at_call 65; first
                | ((with_reducible refine (HSM.out _).mono ?_); rintro e w2 ⟨rfl, hb2⟩)
                | ((with_reducible refine (HSX.out _).mono ?_); rintro e w3 ⟨rfl, hb3⟩)))
        have hW3 : Below w.heap.size w w3 ∧ ∀ q, q < 7 → w3.cell? ⟨w.heap.size, q, none⟩ = some (.string (nmW q)) := by
          refine ⟨(by assumption : _ ∧ _).1, fun q hq => ?_⟩
          have c := HW.out.2 q hq
          have c1 := (hb2.cell (p := ⟨w.heap.size, q, none⟩) (World.block_lt_of_cell? _ _ c)).trans c
          exact (hb3.cell (World.block_lt_of_cell? _ _ c1)).trans c1
        have HW3 := Lib.hid hW3
        clear hW3 hb2 hb3 hc
        rename_i hh
        clear hh
        go_wp2
        go_roundw
        case rel => exact ⟨k + 1, by omega, by go_num, by rw [HS.out], HW3⟩
        case measure => simp [intOf]; omega
    · obtain rfl : k = 7 := by omega
      rw [HL.out]
      by_cases hI : 0 ≤ I
      · have hv : wofV I = .tuple #[.int .i64 (I + 1), .bool true] := by unfold wofV; rw [if_neg (by omega)]
        have HV := Lib.hid hv
        clear hv
        go_wp2_with fail
        refine (HOF.out _).mono ?_
        rintro e w4 ⟨rfl, hb⟩
        rw [HV.out]
        have HB4 := Lib.hid (below_on HW.out.1 hb)
        clear hb
        go_wp2_with fail
        refine (HOF2.out _).mono ?_
        rintro e w5 ⟨rfl, hb⟩
        have HB5 := Lib.hid (below_on HB4.out hb)
        clear hb
        go_wp2_with fail
        refine (HNM.out _).mono ?_
        rintro e w6 ⟨rfl, hb⟩
        have HB6 := Lib.hid (below_on HB5.out hb)
        clear hb
        go_wp2_with fail
        refine (week_lives _).mono ?_
        rintro e w7 ⟨rfl, hb⟩
        have HB7 := Lib.hid (below_on HB6.out hb)
        clear hb
        go_wp2
        go_ret
        exact ⟨rfl, HB7.out⟩
      · have e0 : I = -1 := by omega
        subst e0
        have hv : wofV (-1) = .tuple #[.int .i64 0, .bool false] := rfl
        have HV := Lib.hid hv
        clear hv hI
        go_wp2_with fail
        refine (HOF.out _).mono ?_
        rintro e w4 ⟨rfl, hb⟩
        rw [HV.out]
        have HB4 := Lib.hid (below_on HW.out.1 hb)
        clear hb
        go_wp2_with fail
        refine (HOF2.out _).mono ?_
        rintro e w5 ⟨rfl, hb⟩
        have HB5 := Lib.hid (below_on HB4.out hb)
        clear hb
        go_wp2_with fail
        refine (HNM.out _).mono ?_
        rintro e w6 ⟨rfl, hb⟩
        have HB6 := Lib.hid (below_on HB5.out hb)
        clear hb
        go_wp2_with fail
        refine (week_lives _).mono ?_
        rintro e w7 ⟨rfl, hb⟩
        have HB7 := Lib.hid (below_on HB6.out hb)
        clear hb
        go_wp2
        go_ret
        exact ⟨rfl, HB7.out⟩

set_option maxRecDepth 100000 in
set_option maxHeartbeats 8000000 in
theorem wn_no (d : Int) (hd : d < 1 ∨ 7 < d) (s : ByteArray) (w : World) (hs : s.size ≤ 140737488351232) : Calls Try.prog 15 #[.int .i64 d, .string s] w (Kept (.bool true) w) := by
  have hfw := fW_eq smW_inj (sml s)
  have hof := fun W => wof_any s W (by omega)
  have hsm := fun W => rsmall_any s W hs
  have hsk := fun (k : Nat) (W : World) => rsmall_any (nmW k) W (by rw [nmW_size]; omega)
  obtain ⟨I, hI⟩ : ∃ I, I = fIW smW (sml s) 0 7 := ⟨_, rfl⟩
  rw [← hI] at hfw
  simp only [← hI] at hof
  obtain ⟨ss, hss⟩ : ∃ x, x = sml s := ⟨_, rfl⟩
  rw [← hss] at hfw
  simp only [← hss] at hsm
  have HL : Hid (lIW smW ss 7 = I) := Lib.hid hfw.1.symm
  have lo := hfw.2.1
  have hi := hfw.2.2
  have HOF := Lib.hid hof
  have HSM := Lib.hid hsm
  have HSK := Lib.hid hsk
  have hof2 := fun W => wof_any ⟨#[]⟩ W (by decide)
  rw [fW_none] at hof2
  rw [show wofV (-1) = .tuple #[.int .i64 0, .bool false] from rfl] at hof2
  have hnm := fun W => wname_no d W hd
  have way : decide (1 ≤ d) = false ∨ (decide (1 ≤ d) = true ∧ decide (d ≤ 7) = false) := by
    rcases hd with h | h
    · exact .inl (decide_eq_false (by omega))
    · exact .inr ⟨decide_eq_true (by omega), decide_eq_false (by omega)⟩
  clear hd
  have HOF2 := Lib.hid hof2
  have HNM := Lib.hid hnm
  clear hfw hof hsm hsk hI hss hof2 hnm
  rcases way with x1 | ⟨x1, x2⟩
  all_goals
    go_enter Try.func15, Try.ntmps15
    go_wp2_with fail
    refine (rwnames_any _).mono ?_
    rintro e w1 ⟨rfl, hb, hcell⟩
    have HB1 := Lib.hid hb
    have HC := Lib.hid hcell
    clear hb hcell
    go_wp2_with fail
    go_loopw [7, 8] (fun v i wr => ∃ k : Nat, k ≤ 7 ∧ i = .int .i64 k ∧ v = .int .i64 (lIW smW ss k + 1) ∧ Hid (Below w.heap.size w wr ∧ ∀ q, q < 7 → wr.cell? ⟨w.heap.size, q, none⟩ = some (.string (nmW q)))) (fun _ i _ => 7 - (intOf i).toNat)
    case atStart => exact ⟨0, by omega, rfl, rfl, Lib.hid ⟨HB1.out, HC.out⟩⟩
    case round =>
      obtain ⟨k, hkk, rfl, rfl, HW⟩ := hrel
      by_cases hlt : k < 7
      · have hc := HW.out.2 k hlt
        have hsk := HSK.out k
        have hs' := lIW_succ smW ss k
        have hlo := lW_lo smW ss k
        rw [show smW k = sml (nmW k) from rfl] at hs'
        obtain ⟨x, hx⟩ : ∃ x, x = nmW k := ⟨_, rfl⟩
        obtain ⟨v, hv⟩ : ∃ v, v = lIW smW ss k := ⟨_, rfl⟩
        rw [← hx] at hc
        simp only [← hx] at hsk hs'
        rw [← hv] at hs' hlo ⊢
        obtain ⟨sx, hsx⟩ : ∃ y, y = sml x := ⟨_, rfl⟩
        simp only [← hsx] at hsk hs'
        have blk := World.block_lt_of_cell? _ _ hc
        have HSX := Lib.hid hsk
        have HS' := Lib.hid hs'
        clear hx hv hsx hsk hs'
        by_cases e : sx = ss
        · have HS : Hid (lIW smW ss (k + 1) = (k : Int)) := Lib.hid (by rw [HS'.out, if_pos e])
          have e1 : (ss.toList == sx.toList) = true := by rw [bw_str, decide_eq_true e.symm]
          clear e
          go_wp2_with fail
          go_region_held3 (fun w' => Below w.heap.size w w' ∧ w'.cell? ⟨w.heap.size, k, none⟩ = some (.string x))
            (first | exact ⟨below_draws HW.out.1 1, hc⟩ | exact keepN hb2 (by assumption) | exact keepN hb3 (by assumption))
            (first
              | (go_at_call 65; first
                  | ((with_reducible refine (HSM.out _).mono ?_); rintro e w2 ⟨rfl, hb2⟩)
                  | ((with_reducible refine (HSX.out _).mono ?_); rintro e w3 ⟨rfl, hb3⟩)))
          have hW3 : Below w.heap.size w w3 ∧ ∀ q, q < 7 → w3.cell? ⟨w.heap.size, q, none⟩ = some (.string (nmW q)) := by
            refine ⟨(by assumption : _ ∧ _).1, fun q hq => ?_⟩
            have c := HW.out.2 q hq
            have c1 := (hb2.cell (p := ⟨w.heap.size, q, none⟩) (World.block_lt_of_cell? _ _ c)).trans c
            exact (hb3.cell (World.block_lt_of_cell? _ _ c1)).trans c1
          have HW3 := Lib.hid hW3
          clear hW3 hb2 hb3 hc
          rename_i hh
          clear hh
          go_wp2
          go_roundw
          case rel => exact ⟨k + 1, by omega, by go_num, by rw [HS.out], HW3⟩
          case measure => simp [intOf]; omega
        · have HS : Hid (lIW smW ss (k + 1) = v) := Lib.hid (by rw [HS'.out, if_neg e])
          have e1 : (ss.toList == sx.toList) = false := by rw [bw_str, decide_eq_false (fun h => e h.symm)]
          clear e
          go_wp2_with fail
          go_region_held3 (fun w' => Below w.heap.size w w' ∧ w'.cell? ⟨w.heap.size, k, none⟩ = some (.string x))
            (first | exact ⟨below_draws HW.out.1 1, hc⟩ | exact keepN hb2 (by assumption) | exact keepN hb3 (by assumption))
            (first
              | (go_at_call 65; first
                  | ((with_reducible refine (HSM.out _).mono ?_); rintro e w2 ⟨rfl, hb2⟩)
                  | ((with_reducible refine (HSX.out _).mono ?_); rintro e w3 ⟨rfl, hb3⟩)))
          have hW3 : Below w.heap.size w w3 ∧ ∀ q, q < 7 → w3.cell? ⟨w.heap.size, q, none⟩ = some (.string (nmW q)) := by
            refine ⟨(by assumption : _ ∧ _).1, fun q hq => ?_⟩
            have c := HW.out.2 q hq
            have c1 := (hb2.cell (p := ⟨w.heap.size, q, none⟩) (World.block_lt_of_cell? _ _ c)).trans c
            exact (hb3.cell (World.block_lt_of_cell? _ _ c1)).trans c1
          have HW3 := Lib.hid hW3
          clear hW3 hb2 hb3 hc
          rename_i hh
          clear hh
          go_wp2
          go_roundw
          case rel => exact ⟨k + 1, by omega, by go_num, by rw [HS.out], HW3⟩
          case measure => simp [intOf]; omega
      · obtain rfl : k = 7 := by omega
        rw [HL.out]
        by_cases hI : 0 ≤ I
        · have hv : wofV I = .tuple #[.int .i64 (I + 1), .bool true] := by unfold wofV; rw [if_neg (by omega)]
          have HV := Lib.hid hv
          clear hv
          go_wp2_with fail
          refine (HOF.out _).mono ?_
          rintro e w4 ⟨rfl, hb⟩
          rw [HV.out]
          have HB4 := Lib.hid (below_on HW.out.1 hb)
          clear hb
          go_wp2_with fail
          refine (HOF2.out _).mono ?_
          rintro e w5 ⟨rfl, hb⟩
          have HB5 := Lib.hid (below_on HB4.out hb)
          clear hb
          go_wp2_with fail
          refine (HNM.out _).mono ?_
          rintro e w6 ⟨rfl, hb⟩
          have HB6 := Lib.hid (below_on HB5.out hb)
          clear hb
          go_wp2_with fail
          refine (week_lives _).mono ?_
          rintro e w7 ⟨rfl, hb⟩
          have HB7 := Lib.hid (below_on HB6.out hb)
          clear hb
          go_wp2
          go_ret
          exact ⟨rfl, HB7.out⟩
        · have e0 : I = -1 := by omega
          subst e0
          have hv : wofV (-1) = .tuple #[.int .i64 0, .bool false] := rfl
          have HV := Lib.hid hv
          clear hv hI
          go_wp2_with fail
          refine (HOF.out _).mono ?_
          rintro e w4 ⟨rfl, hb⟩
          rw [HV.out]
          have HB4 := Lib.hid (below_on HW.out.1 hb)
          clear hb
          go_wp2_with fail
          refine (HOF2.out _).mono ?_
          rintro e w5 ⟨rfl, hb⟩
          have HB5 := Lib.hid (below_on HB4.out hb)
          clear hb
          go_wp2_with fail
          refine (HNM.out _).mono ?_
          rintro e w6 ⟨rfl, hb⟩
          have HB6 := Lib.hid (below_on HB5.out hb)
          clear hb
          go_wp2_with fail
          refine (week_lives _).mono ?_
          rintro e w7 ⟨rfl, hb⟩
          have HB7 := Lib.hid (below_on HB6.out hb)
          clear hb
          go_wp2
          go_ret
          exact ⟨rfl, HB7.out⟩

theorem WeekNames_walk (d : Int) (s : ByteArray) (w : World) (hs : s.size ≤ 140737488351232) : Calls Try.prog 15 #[.int .i64 d, .string s] w (Kept (.bool true) w) := by
  by_cases h : d < 1 ∨ 7 < d
  · exact wn_no d h s w hs
  · obtain ⟨j, hj⟩ := Int.eq_ofNat_of_zero_le (a := d - 1) (by omega)
    obtain rfl : d = (j : Int) + 1 := by omega
    exact wn_yes j (by omega) s w hs
end Go.Proofs.Ytnoomlakgfdaeaa
