/- Contracts: the size of a number, the greatest common divisor of a slice of numbers, and the chapter's examples (lives). -/
import Derived.Test.YticloblhdjnjkaaNum
namespace Go.Proofs.Yticloblhdjnjkaa
open Go.RowKit

theorem wrap_neg_u64 (n : Int) (a0 : n < 0) (a1 : -9223372036854775808 ≤ n) : IntKind.u64.wrap (-IntKind.u64.wrap n) = n.natAbs := by
  simp [IntKind.wrap, IntKind.bits, IntKind.signed]; omega

theorem size_any (n : Int) (w : World) (a0 : -9223372036854775808 ≤ n) (a1 : n ≤ 9223372036854775807) :
    Calls Try.prog 46 #[.int .i64 n] w fun e w' => e = .returned (.int .u64 n.natAbs) ∧ w = w' := by
  by_cases h : n < 0
  · go_enter Try.func46, Try.ntmps46
    go_wp2
    go_ret
    exact ⟨ret_int (wrap_neg_u64 n h a0), rfl⟩
  · go_enter Try.func46, Try.ntmps46
    go_wp2
    go_ret
    exact ⟨ret_int (by omega), rfl⟩

theorem Size_any (n : Int) (w : World) (a0 : -9223372036854775808 ≤ n) (a1 : n ≤ 9223372036854775807) :
    Calls Try.prog 17 #[.int .i64 n] w fun e w' => e = .returned (.int .u64 n.natAbs) ∧ w = w' := by
  by_cases h : n < 0
  · go_enter Try.func17, Try.ntmps17
    go_wp2
    go_ret
    exact ⟨ret_int (by omega), rfl⟩
  · go_enter Try.func17, Try.ntmps17
    go_wp2
    go_ret
    exact ⟨ret_int (by omega), rfl⟩

/-- returned so, the world but for draws as it was -/
def Drew (v : Value) (w : World) (e : Ending) (w' : World) : Prop := e = .returned v ∧ ∃ n, w' = w.drewN n

def gcdL (zs : List Int) : Nat := zs.foldl (fun g z => Nat.gcd g z.natAbs) 0

theorem gcdL_snoc (zs : List Int) (k : Nat) (h : k < zs.length) : gcdL (zs.take (k + 1)) = Nat.gcd (gcdL (zs.take k)) (zs.getD k 0).natAbs := by
  unfold gcdL
  rw [List.take_succ_eq_append_getElem h, List.foldl_append]
  simp [List.getD, h]

/-- the slice's cells are these numbers, each of int64 -/
def IntsAt (w : World) (A : Option Addr) (zs : List Int) : Prop :=
  (∀ k, k < zs.length → ∃ b off, A = some ⟨b, off, none⟩ ∧ w.cell? ⟨b, off + k, none⟩ = some (.int .i64 (zs.getD k 0))) ∧ ∀ k, -9223372036854775808 ≤ zs.getD k 0 ∧ zs.getD k 0 ≤ 9223372036854775807

theorem gcdL_bd (zs : List Int) (h : ∀ k, -9223372036854775808 ≤ zs.getD k 0 ∧ zs.getD k 0 ≤ 9223372036854775807) (k : Nat) (hk : k ≤ zs.length) : gcdL (zs.take k) ≤ 9223372036854775808 := by
  induction k with
  | zero => simp [gcdL]
  | succ k ih =>
    rw [gcdL_snoc zs k (by omega)]
    have := ih (by omega)
    have hb := h k
    by_cases hz : (zs.getD k 0).natAbs = 0
    · rw [hz]; simp; exact this
    · have := Nat.gcd_le_right (gcdL (zs.take k)) (n := (zs.getD k 0).natAbs) (by omega)
      omega

theorem gcd_step {x y : Nat} (h : 0 < y) : Nat.gcd y (x % y) = Nat.gcd x y := by
  rw [Nat.gcd_comm y, ← Nat.gcd_rec, Nat.gcd_comm]

set_option maxHeartbeats 1000000 in
theorem gcd_any (A : Option Addr) (c : Nat) (zs : List Int) (w : World) (hl : zs.length ≤ 140737488351232) (h : IntsAt w A zs) :
    Calls Try.prog 16 #[.slice A zs.length c] w (Drew (.int .u64 (gcdL zs)) w) := by
  obtain ⟨n0, hn⟩ : ∃ n, n = zs.length := ⟨_, rfl⟩
  rw [← hn] at hl ⊢
  have HN := Lib.hid hn
  have HI := Lib.hid h
  clear hn h
  go_enter Try.func16, Try.ntmps16
  go_wp2
  go_loopw [3, 9] (fun g i wr => ∃ k n : Nat, k ≤ n0 ∧ i = .int .i64 k ∧ g = .int .u64 (gcdL (zs.take k)) ∧ wr = w.drewN n) (fun _ i _ => n0 - (intOf i).toNat)
  case atStart => exact ⟨0, 0, Nat.zero_le _, rfl, rfl, rfl⟩
  case round =>
    obtain ⟨k, n, hk, rfl, rfl, rfl⟩ := hrel
    by_cases hlt : k < n0
    · obtain ⟨b, off, rfl, hc⟩ := HI.out.1 k (by rw [← HN.out]; exact hlt)
      have hb := HI.out.2 k
      have hc' : (w.drewN n).cell? ⟨b, off + k, none⟩ = some (.int .i64 (zs.getD k 0)) := hc
      obtain ⟨z, hz⟩ : ∃ z, z = zs.getD k 0 := ⟨_, rfl⟩
      rw [← hz] at hc hc' hb
      have HZ := Lib.hid hz
      have HG := Lib.hid (gcdL_bd zs HI.out.2 k (by rw [← HN.out]; omega))
      clear hz
      go_wp2_with (go_at_call 46; refine (size_any _ _ (by omega) (by omega)).mono ?_; rintro e w' ⟨rfl, rfl⟩)
      obtain ⟨G, hG⟩ : ∃ G, G = gcdL (zs.take k) := ⟨_, rfl⟩
      rw [← hG] at HG ⊢
      have HGe := Lib.hid hG
      clear hG
      have HGL := HG.out
      clear HG
      go_loopw [3, 6] (fun g a wi => ∃ x y m : Nat, Hid (Nat.gcd x y = Nat.gcd G z.natAbs) ∧ x ≤ 9223372036854775808 ∧ y ≤ 9223372036854775808 ∧ g = .int .u64 x ∧ a = .int .u64 y ∧ wi = w.drewN m) (fun _ a _ => (intOf a).toNat)
      case atStart => exact ⟨G, z.natAbs, n, rfl, HGL, by omega, rfl, rfl, rfl⟩
      case round =>
        obtain ⟨x, y, m, Hg, hx, hy, rfl, rfl, rfl⟩ := hrel
        by_cases hy0 : y = 0
        · subst hy0
          go_wp2
          go_roundw
          case rel => exact ⟨k + 1, m, by omega, by go_num, by rw [gcdL_snoc zs k (by rw [← HN.out]; exact hlt), ← HZ.out, ← HGe.out, ← Hg.out]; simp, rfl⟩
          case measure => simp [intOf]; omega
        · have hne : ((y : Int) != 0) = true := by simp; omega
          have hpos : (1 : Int) ≤ (y : Int) := by omega
          have hlt2 := Nat.mod_lt x (y := y) (by omega)
          go_wp2
          go_quiet (fail)
          go_wp2
          go_roundw
          case rel => exact ⟨y, x % y, _, by show Hid (_ = _); rw [gcd_step (by omega)]; exact Hg, hy, by omega, rfl, by go_num, World.drewN_drewN _ _ _⟩
          case measure => simp [intOf]; omega
    · go_wp2
      go_ret
      exact ⟨ret_int (by rw [List.take_of_length_le (by rw [← HN.out]; omega)]), n, rfl⟩

theorem IntsAt.two (w : World) (t : TypeId) (x y : Int) (hx : -9223372036854775808 ≤ x ∧ x ≤ 9223372036854775807) (hy : -9223372036854775808 ≤ y ∧ y ≤ 9223372036854775807) :
    IntsAt (w.alloc (.cells #[.int .i64 x, .int .i64 y] t)) (some ⟨w.heap.size, 0, none⟩) [x, y] := by
  refine ⟨fun k hk => ⟨w.heap.size, 0, rfl, ?_⟩, fun k => ?_⟩
  · match k, hk with
    | 0, _ => go_simp
    | 1, _ => go_simp
  · match k with
    | 0 => exact hx
    | 1 => exact hy
    | k + 2 => simp

/-- returned so; what was there is as it was -/
def Kept (v : Value) (w : World) (e : Ending) (w' : World) : Prop := e = .returned v ∧ Below w.heap.size w w'

theorem num_lives (w : World) : Calls Try.prog 15 #[] w (Kept (.bool true) w) := by
  have f1 : flo (-1) 7 = -1 := by decide
  have m1 : mo (-1) 7 = 6 := by decide
  have g1 : gcdL [12, -18] = 6 := by decide
  have F1 := Lib.hid f1
  have M1 := Lib.hid m1
  have G1 := Lib.hid g1
  clear f1 m1 g1
  go_enter Try.func15, Try.ntmps15
  go_wp2_with fail
  refine (floor_any _ _ _ (by decide) (by decide) (by decide) (by decide)).mono ?_
  rintro e w' ⟨rfl, rfl⟩
  rw [F1.out]
  go_wp2_with fail
  refine (mod_any _ _ _ (by decide) (by decide) (by decide) (by decide)).mono ?_
  rintro e w' ⟨rfl, rfl⟩
  rw [M1.out]
  go_wp2_with fail
  refine (gcd_any _ _ [12, -18] _ (by decide) (IntsAt.two _ _ _ _ (by decide) (by decide))).mono ?_
  rintro e w' ⟨rfl, n, rfl⟩
  rw [G1.out]
  go_wp2
  go_ret
  exact ⟨rfl, below_drewN ((Below.refl _ _).alloc (Nat.le_refl _) _) n⟩
end Go.Proofs.Yticloblhdjnjkaa
