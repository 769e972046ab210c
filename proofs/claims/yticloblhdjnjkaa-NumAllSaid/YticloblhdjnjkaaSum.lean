/- Contracts: num.Sum (a closure that counts, called in a loop) and the reference's Sum, both and Gcd. -/
import Derived.Test.YticloblhdjnjkaaTimes
namespace Go.Proofs.Yticloblhdjnjkaa
open Go.RowKit

def stepS (s : Option Int) (z : Int) : Option Int := s.bind fun x => if -9223372036854775808 ≤ x + z ∧ x + z ≤ 9223372036854775807 then some (x + z) else none
def sumO (zs : List Int) : Option Int := zs.foldl stepS (some 0)
theorem step_none (zs : List Int) : zs.foldl stepS none = none := by
  induction zs with
  | nil => rfl
  | cons z zs ih => exact ih
theorem sumO_snoc (zs : List Int) (k : Nat) (h : k < zs.length) : sumO (zs.take (k + 1)) = stepS (sumO (zs.take k)) (zs.getD k 0) := by
  unfold sumO
  rw [List.take_succ_eq_append_getElem h, List.foldl_append]
  simp [List.getD, h]
theorem sumO_stop (zs : List Int) (k : Nat) (h : sumO (zs.take k) = none) : sumO zs = none := by
  have e : sumO zs = (zs.drop k).foldl stepS (sumO (zs.take k)) := by
    unfold sumO
    rw [← List.foldl_append, List.take_append_drop]
  rw [e, h, step_none]
/-- what a sum answers -/
def sumV (zs : List Int) : Value :=
  match sumO zs with
  | some s => .tuple #[.int .i64 s, .bool true]
  | none => .tuple #[.int .i64 0, .bool false]
theorem sumV_some {zs : List Int} {s : Int} (h : sumO zs = some s) : sumV zs = .tuple #[.int .i64 s, .bool true] := by unfold sumV; rw [h]
theorem sumV_none {zs : List Int} (h : sumO zs = none) : sumV zs = .tuple #[.int .i64 0, .bool false] := by unfold sumV; rw [h]
theorem step_yes {s z : Int} (h : -9223372036854775808 ≤ s + z ∧ s + z ≤ 9223372036854775807) : stepS (some s) z = some (s + z) := by simp [stepS, h]
theorem step_no {s z : Int} (h : ¬ (-9223372036854775808 ≤ s + z ∧ s + z ≤ 9223372036854775807)) : stepS (some s) z = none := by
  simp only [stepS, Option.bind_some]; rw [if_neg h]

set_option maxHeartbeats 1000000 in
theorem rsum_any (A : Option Addr) (c : Nat) (zs : List Int) (w : World) (hl : zs.length ≤ 140737488351232) (h : IntsAt w A zs) :
    Calls Try.prog 32 #[.slice A zs.length c] w fun e w' => e = .returned (sumV zs) ∧ w = w' := by
  obtain ⟨n0, hn⟩ : ∃ n, n = zs.length := ⟨_, rfl⟩
  rw [← hn] at hl ⊢
  have HN := Lib.hid hn
  have HI := Lib.hid h
  clear hn h
  go_enter Try.func32, Try.ntmps32
  go_wp2
  go_loop [4, 5] (fun t i => ∃ (k : Nat) (s : Int), k ≤ n0 ∧ i = .int .i64 k ∧ t = .int .i64 s ∧ Hid (sumO (zs.take k) = some s) ∧ -9223372036854775808 ≤ s ∧ s ≤ 9223372036854775807) (fun _ i => n0 - (intOf i).toNat)
  case atStart => exact ⟨0, 0, Nat.zero_le _, rfl, rfl, Lib.hid rfl, by omega, by omega⟩
  case round =>
    obtain ⟨k, s, hk, rfl, rfl, HS, s0, s1⟩ := hrel
    by_cases hlt : k < n0
    · obtain ⟨b, off, rfl, hc⟩ := HI.out.1 k (by rw [← HN.out]; exact hlt)
      have hb := HI.out.2 k
      have hsn := sumO_snoc zs k (by rw [← HN.out]; exact hlt)
      rw [HS.out] at hsn
      obtain ⟨z, hz⟩ : ∃ z, z = zs.getD k 0 := ⟨_, rfl⟩
      rw [← hz] at hc hb hsn
      have HSN := Lib.hid hsn
      clear hz hsn
      obtain ⟨z0, z1⟩ := hb
      have cs : (decide (0 < z) = true ∧ decide (9223372036854775807 - z < s) = true ∧ ¬ (-9223372036854775808 ≤ s + z ∧ s + z ≤ 9223372036854775807)) ∨
          (decide (0 < z) = true ∧ decide (9223372036854775807 - z < s) = false ∧ decide (z < 0) = false ∧ (-9223372036854775808 ≤ s + z ∧ s + z ≤ 9223372036854775807)) ∨
          (decide (0 < z) = false ∧ decide (z < 0) = true ∧ decide (s < -9223372036854775808 - z) = true ∧ ¬ (-9223372036854775808 ≤ s + z ∧ s + z ≤ 9223372036854775807)) ∨
          (decide (0 < z) = false ∧ decide (z < 0) = true ∧ decide (s < -9223372036854775808 - z) = false ∧ (-9223372036854775808 ≤ s + z ∧ s + z ≤ 9223372036854775807)) ∨
          (decide (0 < z) = false ∧ decide (z < 0) = false ∧ (-9223372036854775808 ≤ s + z ∧ s + z ≤ 9223372036854775807)) := by
        simp only [decide_eq_true_eq, decide_eq_false_iff_not]
        omega
      rcases cs with ⟨c1, c2, f⟩ | ⟨c1, c2, c3, f⟩ | ⟨c1, c2, c3, f⟩ | ⟨c1, c2, c3, f⟩ | ⟨c1, c2, f⟩
      · have F := Lib.hid (sumV_none (sumO_stop zs (k + 1) (HSN.out.trans (step_no f))))
        clear f
        have zp : 0 < z := by simpa using c1
        go_wp2
        go_ret2
        exact ⟨ret_val F.out.symm, rfl⟩
      · have F := Lib.hid (HSN.out.trans (step_yes f))
        have zp : 0 < z := by simpa using c1
        obtain ⟨f0, f1⟩ := f
        go_wp2
        go_round
        case rel => exact ⟨k + 1, s + z, by omega, by go_num, rfl, F, f0, f1⟩
        case measure => simp [intOf]; omega
      · have F := Lib.hid (sumV_none (sumO_stop zs (k + 1) (HSN.out.trans (step_no f))))
        clear f
        have zp : z < 0 := by simpa using c2
        go_wp2
        go_ret2
        exact ⟨ret_val F.out.symm, rfl⟩
      · have F := Lib.hid (HSN.out.trans (step_yes f))
        have zp : z < 0 := by simpa using c2
        obtain ⟨f0, f1⟩ := f
        go_wp2
        go_round
        case rel => exact ⟨k + 1, s + z, by omega, by go_num, rfl, F, f0, f1⟩
        case measure => simp [intOf]; omega
      · have F := Lib.hid (HSN.out.trans (step_yes f))
        obtain ⟨f0, f1⟩ := f
        go_wp2
        go_round
        case rel => exact ⟨k + 1, s + z, by omega, by go_num, rfl, F, f0, f1⟩
        case measure => simp [intOf]; omega
    · have F := Lib.hid (sumV_some (by rw [← HS.out, List.take_of_length_le (by rw [← HN.out]; omega)]))
      go_wp2
      go_ret2
      exact ⟨ret_val F.out.symm, rfl⟩

theorem both_any (x y : Nat) (w : World) (hx : x ≤ 9223372036854775808) (hy : y ≤ 9223372036854775808) :
    Calls Try.prog 51 #[.int .u64 x, .int .u64 y] w fun e w' => e = .returned (.int .u64 (Nat.gcd x y)) ∧ w = w' := by
  go_enter Try.func51, Try.ntmps51
  go_wp2
  go_loop [0, 1, 5] (fun a b c => ∃ p q : Nat, a = .int .u64 p ∧ b = .int .u64 q ∧ Hid (Nat.gcd p q = Nat.gcd x y) ∧ p ≤ 9223372036854775808 ∧ q ≤ 9223372036854775808) (fun _ b _ => (intOf b).toNat)
  case atStart => exact ⟨x, y, rfl, rfl, Lib.hid rfl, hx, hy⟩
  case round =>
    obtain ⟨p, q, rfl, rfl, Hg, hp, hq⟩ := hrel
    by_cases hq0 : q = 0
    · subst hq0
      go_wp2
      go_ret
      exact ⟨ret_int (by rw [← Hg.out]; simp), rfl⟩
    · have hne : ((q : Int) != 0) = true := by simp; omega
      have hpos : (1 : Int) ≤ (q : Int) := by omega
      have hlt2 := Nat.mod_lt p (y := q) (by omega)
      go_wp2
      go_round
      case rel => exact ⟨q, p % q, rfl, by go_num, by show Hid (_ = _); rw [gcd_step (by omega)]; exact Hg, hq, by omega⟩
      case measure => simp [intOf]; omega

set_option maxHeartbeats 1000000 in
theorem rgcd_any (A : Option Addr) (c : Nat) (zs : List Int) (w : World) (hl : zs.length ≤ 140737488351232) (h : IntsAt w A zs) :
    Calls Try.prog 33 #[.slice A zs.length c] w fun e w' => e = .returned (.int .u64 (gcdL zs)) ∧ w = w' := by
  obtain ⟨n0, hn⟩ : ∃ n, n = zs.length := ⟨_, rfl⟩
  rw [← hn] at hl ⊢
  have HN := Lib.hid hn
  have HI := Lib.hid h
  clear hn h
  go_enter Try.func33, Try.ntmps33
  go_wp2
  go_loop [3, 4] (fun g i => ∃ k : Nat, k ≤ n0 ∧ i = .int .i64 k ∧ g = .int .u64 (gcdL (zs.take k))) (fun _ i => n0 - (intOf i).toNat)
  case atStart => exact ⟨0, Nat.zero_le _, rfl, rfl⟩
  case round =>
    obtain ⟨k, hk, rfl, rfl⟩ := hrel
    by_cases hlt : k < n0
    · obtain ⟨b, off, rfl, hc⟩ := HI.out.1 k (by rw [← HN.out]; exact hlt)
      have hb := HI.out.2 k
      have HG := gcdL_bd zs HI.out.2 k (by rw [← HN.out]; omega)
      have hsn := gcdL_snoc zs k (by rw [← HN.out]; exact hlt)
      obtain ⟨z, hz⟩ : ∃ z, z = zs.getD k 0 := ⟨_, rfl⟩
      rw [← hz] at hc hb hsn
      have HSN := Lib.hid hsn
      clear hz hsn
      obtain ⟨G, hG⟩ : ∃ G, G = gcdL (zs.take k) := ⟨_, rfl⟩
      rw [← hG] at HG HSN ⊢
      clear hG
      go_wp2_with fail
      refine (Size_any _ _ (by omega) (by omega)).mono ?_
      rintro e w' ⟨rfl, rfl⟩
      go_wp2_with fail
      refine (both_any _ _ _ HG (by omega)).mono ?_
      rintro e w' ⟨rfl, rfl⟩
      go_wp2
      go_round
      case rel => exact ⟨k + 1, by omega, by go_num, by rw [HSN.out]⟩
      case measure => simp [intOf]; omega
    · go_wp2
      go_ret
      exact ⟨ret_int (by rw [List.take_of_length_le (by rw [← HN.out]; omega)]), rfl⟩
end Go.Proofs.Yticloblhdjnjkaa
