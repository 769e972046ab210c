/- Contracts: the reference's Floor and Mod, and num.Held; the walk of ferialaw01.NumParts: it returns true. -/
import Derived.Test.YticloblhdjnjkaaNumDividesW
namespace Go.Proofs.Yticloblhdjnjkaa
open Go.RowKit

theorem rfloor_any (a b : Int) (w : World) (a0 : -9223372036854775808 ≤ a) (a1 : a ≤ 9223372036854775807) (b0 : -9223372036854775808 ≤ b) (b1 : b ≤ 9223372036854775807) :
    Calls Try.prog 23 #[.int .i64 a, .int .i64 b] w fun e w' => e = .returned (.int .i64 (flo a b)) ∧ w = w' := by
  by_cases hb : b < 1
  · go_enter Try.func23, Try.ntmps23
    go_wp2
    go_ret
    exact ⟨ret_int (flo_low hb).symm, rfl⟩
  · have hb' : 1 ≤ b := by omega
    obtain ⟨t1, t2⟩ := tq (a := a) hb'
    have q := ediv_bd hb' a0 a1
    have m := emod_bd a hb'
    by_cases hc : a.tmod b < 0
    · obtain ⟨e1, e2⟩ := t1 hc
      have ng : a < 0 := by
        apply Classical.byContradiction
        intro h
        have := Int.tmod_nonneg b (a := a) (by omega)
        omega
      have qn := Int.ediv_neg_of_neg_of_pos ng (b := b) (by omega)
      have x1 : -9223372036854775807 ≤ a.tdiv b ∧ a.tdiv b ≤ 9223372036854775807 := by omega
      have E1 := Lib.hid e1
      clear t1 t2 q m e1 e2
      go_enter Try.func23, Try.ntmps23
      go_wp2
      go_ret
      exact ⟨ret_int (by rw [flo_pos hb', E1.out]), rfl⟩
    · obtain ⟨e1, e2⟩ := t2 hc
      have x1 : -9223372036854775808 ≤ a.tdiv b ∧ a.tdiv b ≤ 9223372036854775807 := by omega
      have E1 := Lib.hid e1
      clear t1 t2 q m e1 e2
      go_enter Try.func23, Try.ntmps23
      go_wp2
      go_ret
      exact ⟨ret_int (by rw [flo_pos hb', E1.out]), rfl⟩

theorem rmod_wrap (a b : Int) (hb : 1 ≤ b) (h1 : b ≤ 9223372036854775807) : wrap64 (a - wrap64 (b * (a / b))) = a % b := by
  have E := Int.mul_ediv_add_emod a b
  have m := emod_bd a hb
  obtain ⟨X, hX⟩ : ∃ X, X = b * (a / b) := ⟨_, rfl⟩
  obtain ⟨Y, hY⟩ : ∃ Y, Y = a % b := ⟨_, rfl⟩
  rw [← hX, ← hY] at E
  rw [← hY] at m
  rw [← hX, ← hY]
  unfold wrap64
  omega

theorem rmod_any (a b : Int) (w : World) (a0 : -9223372036854775808 ≤ a) (a1 : a ≤ 9223372036854775807) (b0 : -9223372036854775808 ≤ b) (b1 : b ≤ 9223372036854775807) :
    Calls Try.prog 24 #[.int .i64 a, .int .i64 b] w fun e w' => e = .returned (.int .i64 (mo a b)) ∧ w = w' := by
  by_cases hb : b < 1
  · go_enter Try.func24, Try.ntmps24
    go_wp2
    go_ret
    exact ⟨ret_int (mo_low hb).symm, rfl⟩
  · have hb' : 1 ≤ b := by omega
    have F := Lib.hid (flo_pos (a := a) hb')
    have W := Lib.hid (rmod_wrap a b hb' b1)
    go_enter Try.func24, Try.ntmps24
    go_wp2_with fail
    refine (rfloor_any _ _ _ a0 a1 b0 b1).mono ?_
    rintro e w' ⟨rfl, rfl⟩
    rw [F.out]
    go_wp2
    go_ret
    exact ⟨ret_int (by rw [mo_pos hb', ← W.out]), rfl⟩

theorem held_any (n lo hi : Int) (w : World) :
    Calls Try.prog 25 #[.int .i64 n, .int .i64 lo, .int .i64 hi] w fun e w' => e = .returned (.int .i64 (min (max n lo) hi)) ∧ w = w' := by
  go_enter Try.func25, Try.ntmps25
  go_wp2
  all_goals
    go_ret
    exact ⟨ret_int (by omega), rfl⟩

set_option maxHeartbeats 1000000 in
theorem NumParts_walk (a b x y : Int) (w : World) (ha : (Lit.int .i64 a).wf = true) (hb : (Lit.int .i64 b).wf = true) (hx : (Lit.int .i64 x).wf = true) (hy : (Lit.int .i64 y).wf = true) :
    Calls Try.prog 6 #[.int .i64 a, .int .i64 b, .agg #[.int .i64 x, .int .i64 y]] w (Kept (.bool true) w) := by
  obtain ⟨a0, a1⟩ := i64_bd ha
  obtain ⟨b0, b1⟩ := i64_bd hb
  obtain ⟨x0, x1⟩ := i64_bd hx
  obtain ⟨y0, y1⟩ := i64_bd hy
  clear ha hb hx hy
  have cs : (a < x ∧ y < x ∧ min (max a x) y = y) ∨ (a < x ∧ ¬ y < x ∧ min (max a x) y = x) ∨ (¬ a < x ∧ y < a ∧ min (max a x) y = y) ∨ (¬ a < x ∧ ¬ y < a ∧ min (max a x) y = a) := by omega
  have go1 : ∀ (W : World), Below w.heap.size w W → Calls Try.prog 15 #[] W (Kept (.bool true) w) := fun W hW =>
    (num_lives W).mono fun e w' ⟨he, hw⟩ => ⟨he, below_on hW hw⟩
  have GO := Lib.hid go1
  clear go1
  rcases cs with ⟨h1, h2, h3⟩ | ⟨h1, h2, h3⟩ | ⟨h1, h2, h3⟩ | ⟨h1, h2, h3⟩
  all_goals
    have H3 := Lib.hid h3
    clear h3
    go_enter Try.func6, Try.ntmps6
    go_wp2_with fail
    refine (floor_any _ _ _ a0 a1 b0 b1).mono ?_
    rintro e w' ⟨rfl, rfl⟩
    go_wp2_with fail
    refine (rfloor_any _ _ _ a0 a1 b0 b1).mono ?_
    rintro e w' ⟨rfl, rfl⟩
    go_wp2_with fail
    refine (mod_any _ _ _ a0 a1 b0 b1).mono ?_
    rintro e w' ⟨rfl, rfl⟩
    go_wp2_with fail
    refine (rmod_any _ _ _ a0 a1 b0 b1).mono ?_
    rintro e w' ⟨rfl, rfl⟩
    go_wp2_with fail
    refine (held_any _ _ _ _).mono ?_
    rintro e w' ⟨rfl, rfl⟩
    rw [H3.out]
    go_wp2_with fail
    refine (GO.out _ ((Below.refl _ _).alloc (Nat.le_refl _) _)).mono ?_
    rintro e w' ⟨rfl, hw⟩
    go_wp2
    go_ret
    exact ⟨rfl, hw⟩
end Go.Proofs.Yticloblhdjnjkaa
