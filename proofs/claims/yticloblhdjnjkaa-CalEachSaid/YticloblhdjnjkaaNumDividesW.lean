/- The walk of ferialaw01.NumDivides: it returns true. -/
import Derived.Test.YticloblhdjnjkaaNumBackW
namespace Go.Proofs.Yticloblhdjnjkaa
open Go.RowKit

theorem below_on {w W w' : World} (h : Below w.heap.size w W) (hb : Below W.heap.size W w') : Below w.heap.size w w' := h.trans (hb.mono h.size)

theorem gcdL_two (a b : Int) : gcdL [a, b] = Nat.gcd a.natAbs b.natAbs := by simp [gcdL]

theorem div_facts (a b : Int) (d : Int) (hd : 0 ≤ d) :
    ((gcdL [a, b] : Int) = 0 → a = 0 ∧ b = 0) ∧ gcdL [b, a] = gcdL [a, b] ∧
    (a.natAbs : Int) % (gcdL [a, b] : Int) = 0 ∧ (b.natAbs : Int) % (gcdL [a, b] : Int) = 0 ∧
    ((a.natAbs : Int) % (d + 1) = 0 → (b.natAbs : Int) % (d + 1) = 0 → (gcdL [a, b] : Int) % (d + 1) = 0) := by
  rw [gcdL_two, gcdL_two]
  refine ⟨fun h => ?_, Nat.gcd_comm _ _, ?_, ?_, fun h1 h2 => ?_⟩
  · have h' : Nat.gcd a.natAbs b.natAbs = 0 := by omega
    rw [Nat.gcd_eq_zero_iff] at h'
    omega
  · exact Int.emod_eq_zero_of_dvd (Int.ofNat_dvd.2 (Nat.gcd_dvd_left _ _))
  · exact Int.emod_eq_zero_of_dvd (Int.ofNat_dvd.2 (Nat.gcd_dvd_right _ _))
  · obtain ⟨n, hn⟩ : ∃ n : Nat, (n : Int) = d + 1 := ⟨(d + 1).toNat, by omega⟩
    rw [← hn] at h1 h2 ⊢
    have h1' := Int.ofNat_dvd.1 (Int.dvd_of_emod_eq_zero h1)
    have h2' := Int.ofNat_dvd.1 (Int.dvd_of_emod_eq_zero h2)
    exact Int.emod_eq_zero_of_dvd (Int.ofNat_dvd.2 (Nat.dvd_gcd h1' h2'))

theorem IntsAt.nil (w : World) (A : Option Addr) : IntsAt w A [] := ⟨fun k hk => absurd hk (by simp), fun k => by simp⟩

theorem IntsAt.two' {W : World} {b : Nat} {x y : Int} (h0 : W.cell? ⟨b, 0, none⟩ = some (.int .i64 x)) (h1 : W.cell? ⟨b, 1, none⟩ = some (.int .i64 y))
    (hx : -9223372036854775808 ≤ x ∧ x ≤ 9223372036854775807) (hy : -9223372036854775808 ≤ y ∧ y ≤ 9223372036854775807) : IntsAt W (some ⟨b, 0, none⟩) [x, y] := by
  refine ⟨fun k hk => ⟨b, 0, rfl, ?_⟩, fun k => ?_⟩
  · match k, hk with
    | 0, _ => exact h0
    | 1, _ => exact h1
  · match k with
    | 0 => exact hx
    | 1 => exact hy
    | k + 2 => simp

set_option maxHeartbeats 1000000 in
theorem NumDivides_walk (a b d : Int) (w : World) (ha : (Lit.int .i64 a).wf = true) (hb : (Lit.int .i64 b).wf = true) (hd : (Lit.int .u16 d).wf = true) :
    Calls Try.prog 4 #[.int .i64 a, .int .i64 b, .int .u16 d] w (Kept (.bool true) w) := by
  obtain ⟨a0, a1⟩ := i64_bd ha
  obtain ⟨b0, b1⟩ := i64_bd hb
  obtain ⟨d0, d1⟩ : 0 ≤ d ∧ d ≤ 65535 := by simp [Lit.wf, IntKind.min, IntKind.max, IntKind.bits, IntKind.signed] at hd; omega
  clear ha hb hd
  obtain ⟨f1, f2, f3, f4, f5⟩ := div_facts a b d d0
  have g0 := Int.natCast_nonneg (gcdL [a, b])
  have gb := gcdL_bd [a, b] (IntsAt.two w 0 a b ⟨a0, a1⟩ ⟨b0, b1⟩).2 2 (Nat.le_refl _)
  have gb' : (gcdL [a, b] : Int) ≤ 9223372036854775808 := Int.ofNat_le.2 gb
  have x1 : (0 : Int) ≤ a.natAbs ∧ (a.natAbs : Int) ≤ 9223372036854775808 := by omega
  have y1 : (0 : Int) ≤ b.natAbs ∧ (b.natAbs : Int) ≤ 9223372036854775808 := by omega
  have F2 := Lib.hid f2
  obtain ⟨G, hG⟩ : ∃ G : Int, G = (gcdL [a, b] : Int) := ⟨_, rfl⟩
  obtain ⟨X, hX⟩ : ∃ X : Int, X = (a.natAbs : Int) := ⟨_, rfl⟩
  obtain ⟨Y, hY⟩ : ∃ Y : Int, Y = (b.natAbs : Int) := ⟨_, rfl⟩
  rw [← hG] at f1 f3 f4 f5 g0 gb'
  rw [← hX] at f3 f5 x1
  rw [← hY] at f4 f5 y1
  have HG := Lib.hid hG
  have HX := Lib.hid hX
  have HY := Lib.hid hY
  clear hG hX hY gb f2
  by_cases hz : G = 0
  · obtain ⟨rfl, rfl⟩ := f1 hz
    clear f1 f3 f4 f5 g0 gb' x1 y1
    have HZ := Lib.hid hz
    clear hz
    go_enter Try.func4, Try.ntmps4
    go_wp2_with fail
    refine (gcd_any _ _ [0, 0] _ (by decide) (IntsAt.two _ _ _ _ (by decide) (by decide))).mono ?_
    rintro e w' ⟨rfl, n, rfl⟩
    rw [← HG.out, HZ.out]
    go_wp2_with fail
    refine (num_lives _).mono ?_
    rintro e w' ⟨rfl, hw⟩
    go_wp2
    go_ret
    exact ⟨rfl, below_on (below_drewN ((Below.refl _ _).alloc (Nat.le_refl _) _) n) hw⟩
  · have gp : 1 ≤ G := by omega
    have hz1 : (G == 0) = false := by simp; omega
    have t1 : (X % G != 0) = false := by simp [f3]
    have t2 : (Y % G != 0) = false := by simp [f4]
    clear f1 hz f3 f4
    have go1 : ∀ (W : World), Below w.heap.size w W → Calls Try.prog 15 #[] W (Kept (.bool true) w) := fun W hW =>
      (num_lives W).mono fun e w' ⟨he, hw⟩ => ⟨he, below_on hW hw⟩
    have GO := Lib.hid go1
    clear go1
    have cs : ((X % (d + 1) != 0) = false ∧ (Y % (d + 1) != 0) = false ∧ (G % (d + 1) == 0) = true) ∨ (X % (d + 1) != 0) = true ∨ ((X % (d + 1) != 0) = false ∧ (Y % (d + 1) != 0) = true) := by
      by_cases u1 : X % (d + 1) = 0
      · by_cases u2 : Y % (d + 1) = 0
        · exact .inl ⟨by simp [u1], by simp [u2], by simp [f5 u1 u2]⟩
        · exact .inr (.inr ⟨by simp [u1], by simp [u2]⟩)
      · exact .inr (.inl (by simp [u1]))
    clear f5
    rcases cs with ⟨v1, v2, v3⟩ | v1 | ⟨v1, v2⟩
    all_goals
      go_enter Try.func4, Try.ntmps4
      go_wp2_with fail
      refine (gcd_any _ _ [a, b] _ (by simp) (IntsAt.two _ _ _ _ ⟨a0, a1⟩ ⟨b0, b1⟩)).mono ?_
      rintro e w' ⟨rfl, n, rfl⟩
      rw [← HG.out]
      go_wp2_with fail
      refine (Size_any _ _ a0 a1).mono ?_
      rintro e w' ⟨rfl, rfl⟩
      rw [← HX.out]
      go_wp2_with fail
      refine (Size_any _ _ b0 b1).mono ?_
      rintro e w' ⟨rfl, rfl⟩
      rw [← HY.out]
      go_wp2_with fail
      refine (gcd_any _ _ [b, a] _ (by simp) (IntsAt.two' (by go_simp) (by go_simp) ⟨b0, b1⟩ ⟨a0, a1⟩)).mono ?_
      rintro e w' ⟨rfl, m, rfl⟩
      rw [F2.out, ← HG.out]
      go_wp2_with fail
      refine (gcd_any _ _ [] _ (by simp) (IntsAt.nil _ _)).mono ?_
      rintro e w' ⟨rfl, l, rfl⟩
      go_wp2_with fail
      refine (GO.out _ (by repeat (first | exact Below.refl _ _ | refine below_drewN ?_ _ | refine Below.alloc ?_ (by simp <;> omega) _))).mono ?_
      rintro e w' ⟨rfl, hw⟩
      go_wp2
      go_ret
      exact ⟨rfl, hw⟩
end Go.Proofs.Yticloblhdjnjkaa
