/- Contracts of package num's Floor, Mod, and of the reference's. -/
import Derived.Test.YticloblhdjnjkaaChecked
import Derived.WalkKit
import Derived.Outline
import Derived.Lib.Hide
import Derived.Deep.QuietTactic
import Derived.BigQuiet
import Derived.WalkLawsBesides
import Derived.WalkSpells
import Derived.Test.YticloblhdjnjkaaMath
namespace Go.Proofs.Yticloblhdjnjkaa
open Go.RowKit

theorem ret_int {k : IntKind} {a b : Int} (h : a = b) : Ending.returned (.int k a) = .returned (.int k b) := by rw [h]

theorem floor_any (a b : Int) (w : World) (a0 : -9223372036854775808 ≤ a) (a1 : a ≤ 9223372036854775807) (b0 : -9223372036854775808 ≤ b) (b1 : b ≤ 9223372036854775807) :
    Calls Try.prog 13 #[.int .i64 a, .int .i64 b] w fun e w' => e = .returned (.int .i64 (flo a b)) ∧ w = w' := by
  by_cases hb : b < 1
  · go_enter Try.func13, Try.ntmps13
    go_wp2
    go_ret
    exact ⟨ret_int (flo_low hb).symm, rfl⟩
  · have hb' : 1 ≤ b := by omega
    obtain ⟨t1, t2⟩ := tq (a := a) hb'
    have q := ediv_bd hb' a0 a1
    have m := emod_bd a hb'
    by_cases hc : a.tmod b < 0
    · obtain ⟨e1, e2⟩ := t1 hc
      have ng : a < 0 := by
        apply Classical.byContradiction
        intro h
        have := Int.tmod_nonneg b (a := a) (by omega)
        omega
      have qn := Int.ediv_neg_of_neg_of_pos ng (b := b) (by omega)
      have x1 : -9223372036854775807 ≤ a.tdiv b ∧ a.tdiv b ≤ 9223372036854775807 := by omega
      have E1 := Lib.hid e1
      clear t1 t2 q m e1 e2
      go_enter Try.func13, Try.ntmps13
      go_wp2
      go_ret
      exact ⟨ret_int (by rw [flo_pos hb', E1.out]), rfl⟩
    · obtain ⟨e1, e2⟩ := t2 hc
      have x1 : -9223372036854775808 ≤ a.tdiv b ∧ a.tdiv b ≤ 9223372036854775807 := by omega
      have E1 := Lib.hid e1
      clear t1 t2 q m e1 e2
      go_enter Try.func13, Try.ntmps13
      go_wp2
      go_ret
      exact ⟨ret_int (by rw [flo_pos hb', E1.out]), rfl⟩

theorem mod_any (a b : Int) (w : World) (a0 : -9223372036854775808 ≤ a) (a1 : a ≤ 9223372036854775807) (b0 : -9223372036854775808 ≤ b) (b1 : b ≤ 9223372036854775807) :
    Calls Try.prog 14 #[.int .i64 a, .int .i64 b] w fun e w' => e = .returned (.int .i64 (mo a b)) ∧ w = w' := by
  by_cases hb : b < 1
  · go_enter Try.func14, Try.ntmps14
    go_wp2
    go_ret
    exact ⟨ret_int (mo_low hb).symm, rfl⟩
  · have hb' : 1 ≤ b := by omega
    obtain ⟨t1, t2⟩ := tq (a := a) hb'
    have m := emod_bd a hb'
    by_cases hc : a.tmod b < 0
    · obtain ⟨e1, e2⟩ := t1 hc
      have x1 : -9223372036854775807 ≤ a.tmod b ∧ a.tmod b + b ≤ 9223372036854775807 := by omega
      have E1 := Lib.hid e2
      clear t1 t2 m e1 e2
      go_enter Try.func14, Try.ntmps14
      go_wp2
      go_ret
      exact ⟨ret_int (by rw [mo_pos hb', E1.out]), rfl⟩
    · obtain ⟨e1, e2⟩ := t2 hc
      have x1 : -9223372036854775808 ≤ a.tmod b ∧ a.tmod b ≤ 9223372036854775807 := by omega
      have E1 := Lib.hid e2
      clear t1 t2 m e1 e2
      go_enter Try.func14, Try.ntmps14
      go_wp2
      go_ret
      exact ⟨ret_int (by rw [mo_pos hb', E1.out]), rfl⟩
end Go.Proofs.Yticloblhdjnjkaa
