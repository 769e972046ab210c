/- Contract: how far a text's stem is right (moment.wrong). -/
import Derived.Test.YtnoomlakgfdaeaaMomJ
namespace Go.Proofs.Ytnoomlakgfdaeaa
open Go.RowKit

/-- a byte at a place, in the walk's own words -/
theorem ok_ways {k : Nat} {c : Int} (h : (k = 8 ∧ c = 84) ∨ (k ≠ 8 ∧ 48 ≤ c ∧ c ≤ 57)) : (((k : Int) == 8) = true ∧ (c == 84) = true) ∨ (((k : Int) == 8) = false ∧ ((k : Int) != 8) = true ∧ decide (48 ≤ c) = true ∧ decide (c ≤ 57) = true) := by
  rcases h with ⟨h1, h2⟩ | ⟨h1, h2, h3⟩
  · exact .inl ⟨beq_iff_eq.2 (by omega), beq_iff_eq.2 h2⟩
  · exact .inr ⟨beq_eq_false_iff_ne.2 (by omega), by rw [bne_iff_ne]; omega, decide_eq_true h2, decide_eq_true h3⟩
theorem no_ways {k : Nat} {c : Int} (h : ¬ ((k = 8 ∧ c = 84) ∨ (k ≠ 8 ∧ 48 ≤ c ∧ c ≤ 57))) : (((k : Int) == 8) = true ∧ (c == 84) = false ∧ ((k : Int) != 8) = false) ∨ (((k : Int) == 8) = false ∧ ((k : Int) != 8) = true ∧ decide (48 ≤ c) = false) ∨ (((k : Int) == 8) = false ∧ ((k : Int) != 8) = true ∧ decide (48 ≤ c) = true ∧ decide (c ≤ 57) = false) := by
  by_cases h1 : k = 8
  · have h2 : c ≠ 84 := fun e => h (.inl ⟨h1, e⟩)
    refine .inl ⟨beq_iff_eq.2 (by omega), beq_eq_false_iff_ne.2 h2, ?_⟩
    rw [Bool.eq_false_iff]
    intro e
    rw [bne_iff_ne] at e
    omega
  · right
    by_cases h2 : 48 ≤ c
    · exact .inr ⟨beq_eq_false_iff_ne.2 (by omega), by rw [bne_iff_ne]; omega, decide_eq_true h2, decide_eq_false (fun h3 => h (.inr ⟨h1, h2, h3⟩))⟩
    · exact .inl ⟨beq_eq_false_iff_ne.2 (by omega), by rw [bne_iff_ne]; omega, decide_eq_false h2⟩
theorem okC_int {k : Nat} {c : UInt8} : okC k c ↔ ((k = 8 ∧ (c.toNat : Int) = 84) ∨ (k ≠ 8 ∧ 48 ≤ (c.toNat : Int) ∧ (c.toNat : Int) ≤ 57)) := by
  unfold okC isD
  omega

theorem ret_ii2 {a b c d : Int} (h1 : a = c) (h2 : b = d) : Ending.returned (.tuple #[.int .i64 a, .int .i64 b]) = .returned (.tuple #[.int .i64 c, .int .i64 d]) := by rw [h1, h2]
set_option maxHeartbeats 4000000 in
theorem wrong_gen (s : ByteArray) (w : World) (m : Nat) (hm : m ≤ s.size) (h15 : m ≤ 15) (hall : ∀ j, j < m → okS s j) (R : Int × Int)
    (hR : (m < 15 ∧ (∃ h : m < s.size, ¬ okC m s[m]) ∧ R = ((m : Int), 3)) ∨ (m = s.size ∧ m < 15 ∧ R = ((m : Int), 2)) ∨ (m = 15 ∧ R = (0, 0))) :
    Calls Try.prog 77 #[.string s] w fun e w' => e = .returned (.tuple #[.int .i64 R.1, .int .i64 R.2]) ∧ w = w' := by
  have HA := Lib.hid hall
  have HR := Lib.hid hR
  clear hall hR
  by_cases hsz : s.size < 15
  · go_enter Try.func77, Try.ntmps77
    go_wp2_with fail
    go_step3
    go_wp2_with fail
    go_step3
    go_wp2_with fail
    go_loop [9] (fun i => ∃ k : Nat, k ≤ m ∧ i = .int .i64 k) (fun i => 16 - (intOf i).toNat)
    case atStart => exact ⟨0, Nat.zero_le _, rfl⟩
    case round =>
      obtain ⟨k, hk, rfl⟩ := hrel
      by_cases hlt : k < m
      · have hks : k < s.size := by omega
        have hok := okC_int.1 (HA.out k hlt hks)
        have e14 : ((k : Int) == 14) = false := beq_eq_false_iff_ne.2 (by omega)
        rcases ok_ways hok with ⟨o1, o2⟩ | ⟨o1, o2, o3, o4⟩
        all_goals
          clear hok
          go_wp2
          go_round
          case rel => exact ⟨k + 1, by omega, by go_num⟩
          case measure => simp [intOf]; omega
      · obtain rfl : k = m := by omega
        rcases HR.out with ⟨r1, ⟨r2, r3⟩, r4⟩ | ⟨r1, r2, r4⟩ | ⟨r1, r4⟩
        · have hno := no_ways (fun h => r3 (okC_int.2 h))
          have HR4 := Lib.hid r4
          clear r3 r4
          rcases hno with ⟨o1, o2, o3⟩ | ⟨o1, o2, o3⟩ | ⟨o1, o2, o3, o4⟩
          all_goals
            go_wp2
            try rw [Exit.noGoto_ret]
            go_ret2
            exact ⟨ret_ii2 (by rw [HR4.out]) (by rw [HR4.out]), rfl⟩
        · have HR4 := Lib.hid r4
          clear r4
          go_wp2
          try rw [Exit.noGoto_ret]
          go_ret2
          exact ⟨ret_ii2 (by rw [HR4.out]; show (s.size : Int) = k; omega) (by rw [HR4.out]), rfl⟩
        · omega
  · by_cases hsz2 : s.size ≤ 15
    · have hge : 15 ≤ s.size := by omega
      go_enter Try.func77, Try.ntmps77
      go_wp2_with fail
      go_step3
      go_wp2_with fail
      go_step3
      go_wp2_with fail
      go_loop [9] (fun i => ∃ k : Nat, k ≤ m ∧ i = .int .i64 k) (fun i => 16 - (intOf i).toNat)
      case atStart => exact ⟨0, Nat.zero_le _, rfl⟩
      case round =>
        obtain ⟨k, hk, rfl⟩ := hrel
        by_cases hlt : k < m
        · have hks : k < s.size := by omega
          have hok := okC_int.1 (HA.out k hlt hks)
          by_cases h14 : k = 14
          · obtain rfl : k = 14 := h14
            have hd : 48 ≤ (s[14].toNat : Int) ∧ (s[14].toNat : Int) ≤ 57 := by
              rcases hok with ⟨h, _⟩ | ⟨_, h⟩
              · omega
              · exact h
            have r4 : R = (0, 0) := by
              rcases HR.out with ⟨r1, _⟩ | ⟨r1, r2, _⟩ | ⟨_, r4⟩
              · omega
              · omega
              · exact r4
            have HR4 := Lib.hid r4
            clear r4
            clear hok
            go_wp2
            try rw [Exit.noGoto_ret]
            go_ret2
            exact ⟨ret_ii2 (by rw [HR4.out]) (by rw [HR4.out]), rfl⟩
          have e14 : ((k : Int) == 14) = false := beq_eq_false_iff_ne.2 (by omega)
          rcases ok_ways hok with ⟨o1, o2⟩ | ⟨o1, o2, o3, o4⟩
          all_goals
            clear hok
            go_wp2
            go_round
            case rel => exact ⟨k + 1, by omega, by go_num⟩
            case measure => simp [intOf]; omega
        · obtain rfl : k = m := by omega
          rcases HR.out with ⟨r1, ⟨r2, r3⟩, r4⟩ | ⟨r1, r2, r4⟩ | ⟨r1, r4⟩
          · have hno := no_ways (fun h => r3 (okC_int.2 h))
            have HR4 := Lib.hid r4
            clear r3 r4
            rcases hno with ⟨o1, o2, o3⟩ | ⟨o1, o2, o3⟩ | ⟨o1, o2, o3, o4⟩
            all_goals
              go_wp2
              try rw [Exit.noGoto_ret]
              go_ret2
              exact ⟨ret_ii2 (by rw [HR4.out]) (by rw [HR4.out]), rfl⟩
          · omega
          · have HR4 := Lib.hid r4
            clear r4
            go_wp2
            try rw [Exit.noGoto_ret]
            go_ret2
            exact ⟨ret_ii2 (by rw [HR4.out]) (by rw [HR4.out]), rfl⟩
    · have hge : 15 < s.size := by omega
      go_enter Try.func77, Try.ntmps77
      go_wp2_with fail
      go_step3
      go_wp2_with fail
      go_step3
      go_wp2_with fail
      go_loop [9] (fun i => ∃ k : Nat, k ≤ m ∧ i = .int .i64 k) (fun i => 16 - (intOf i).toNat)
      case atStart => exact ⟨0, Nat.zero_le _, rfl⟩
      case round =>
        obtain ⟨k, hk, rfl⟩ := hrel
        by_cases hlt : k < m
        · have hks : k < s.size := by omega
          have hok := okC_int.1 (HA.out k hlt hks)
          by_cases h14 : k = 14
          · obtain rfl : k = 14 := h14
            have hd : 48 ≤ (s[14].toNat : Int) ∧ (s[14].toNat : Int) ≤ 57 := by
              rcases hok with ⟨h, _⟩ | ⟨_, h⟩
              · omega
              · exact h
            have r4 : R = (0, 0) := by
              rcases HR.out with ⟨r1, _⟩ | ⟨r1, r2, _⟩ | ⟨_, r4⟩
              · omega
              · omega
              · exact r4
            have HR4 := Lib.hid r4
            clear r4
            clear hok
            go_wp2
            try rw [Exit.noGoto_ret]
            go_ret2
            exact ⟨ret_ii2 (by rw [HR4.out]) (by rw [HR4.out]), rfl⟩
          have e14 : ((k : Int) == 14) = false := beq_eq_false_iff_ne.2 (by omega)
          rcases ok_ways hok with ⟨o1, o2⟩ | ⟨o1, o2, o3, o4⟩
          all_goals
            clear hok
            go_wp2
            go_round
            case rel => exact ⟨k + 1, by omega, by go_num⟩
            case measure => simp [intOf]; omega
        · obtain rfl : k = m := by omega
          rcases HR.out with ⟨r1, ⟨r2, r3⟩, r4⟩ | ⟨r1, r2, r4⟩ | ⟨r1, r4⟩
          · have hno := no_ways (fun h => r3 (okC_int.2 h))
            have HR4 := Lib.hid r4
            clear r3 r4
            rcases hno with ⟨o1, o2, o3⟩ | ⟨o1, o2, o3⟩ | ⟨o1, o2, o3, o4⟩
            all_goals
              go_wp2
              try rw [Exit.noGoto_ret]
              go_ret2
              exact ⟨ret_ii2 (by rw [HR4.out]) (by rw [HR4.out]), rfl⟩
          · omega
          · have HR4 := Lib.hid r4
            clear r4
            go_wp2
            try rw [Exit.noGoto_ret]
            go_ret2
            exact ⟨ret_ii2 (by rw [HR4.out]) (by rw [HR4.out]), rfl⟩
end Go.Proofs.Ytnoomlakgfdaeaa
