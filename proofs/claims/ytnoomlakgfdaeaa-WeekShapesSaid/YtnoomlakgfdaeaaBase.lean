/- Seat 2's ground: small words, and the contracts of num.Floor, num.Mod and of the reference's. -/
import Derived.Test.YtnoomlakgfdaeaaChecked
import Derived.WalkKit
import Derived.Outline
import Derived.Lib.Hide
import Derived.Deep.QuietTactic
import Derived.BigQuiet
import Derived.WalkLawsBesides
import Derived.WalkSpells
import Derived.Test.YtnoomlakgfdaeaaMath
import Derived.OpenShut
import Derived.IntWalk
import Derived.Below
import Derived.Deep.RegionHeld3
namespace Go.Proofs.Ytnoomlakgfdaeaa
open Go.RowKit

theorem ret_int {k : IntKind} {a b : Int} (h : a = b) : Ending.returned (.int k a) = .returned (.int k b) := by rw [h]

theorem ret_val {a b : Value} (h : a = b) : Ending.returned a = .returned b := by rw [h]
theorem i64_bd {a : Int} (h : (Lit.int .i64 a).wf = true) : -9223372036854775808 ≤ a ∧ a ≤ 9223372036854775807 := by
  simp [Lit.wf, IntKind.min, IntKind.max, IntKind.bits, IntKind.signed] at h; omega
theorem below_on {w W w' : World} (h : Below w.heap.size w W) (hb : Below W.heap.size W w') : Below w.heap.size w w' := h.trans (hb.mono h.size)
theorem below_draws {B : Nat} {a w : World} (h : Below B a w) (n : Nat) : Below B a (w.drewN n) := ⟨h.os, h.tape, h.output, h.size, h.block⟩
/-- returned so; what was there is as it was -/
def Kept (v : Value) (w : World) (e : Ending) (w' : World) : Prop := e = .returned v ∧ Below w.heap.size w w'
theorem bcell {W w1 : World} (hb : Below W.heap.size W w1) : (∀ b o, b < W.heap.size → w1.cell? ⟨b, o, none⟩ = W.cell? ⟨b, o, none⟩) ∧ (∀ b o, b < W.heap.size → w1.frozen? ⟨b, o, none⟩ = W.frozen? ⟨b, o, none⟩) :=
  ⟨fun b o h => hb.cell (p := ⟨b, o, none⟩) h, fun b o h => hb.frozen (p := ⟨b, o, none⟩) h⟩

theorem floor_any (a b : Int) (w : World) (a0 : -9223372036854775808 ≤ a) (a1 : a ≤ 9223372036854775807) (b0 : -9223372036854775808 ≤ b) (b1 : b ≤ 9223372036854775807) :
    Calls Try.prog 81 #[.int .i64 a, .int .i64 b] w fun e w' => e = .returned (.int .i64 (flo a b)) ∧ w = w' := by
  by_cases hb : b < 1
  · go_enter Try.func81, Try.ntmps81
    go_wp2
    go_ret
    exact ⟨ret_int (flo_low hb).symm, rfl⟩
  · have hb' : 1 ≤ b := by omega
    obtain ⟨t1, t2⟩ := tq (a := a) hb'
    have q := ediv_bd hb' a0 a1
    have m := emod_bd a hb'
    by_cases hc : a.tmod b < 0
    · obtain ⟨e1, e2⟩ := t1 hc
      have ng : a < 0 := by
        apply Classical.byContradiction
        intro h
        have := Int.tmod_nonneg b (a := a) (by omega)
        omega
      have qn := Int.ediv_neg_of_neg_of_pos ng (b := b) (by omega)
      have x1 : -9223372036854775807 ≤ a.tdiv b ∧ a.tdiv b ≤ 9223372036854775807 := by omega
      have E1 := Lib.hid e1
      clear t1 t2 q m e1 e2
      go_enter Try.func81, Try.ntmps81
      go_wp2
      go_ret
      exact ⟨ret_int (by rw [flo_pos hb', E1.out]), rfl⟩
    · obtain ⟨e1, e2⟩ := t2 hc
      have x1 : -9223372036854775808 ≤ a.tdiv b ∧ a.tdiv b ≤ 9223372036854775807 := by omega
      have E1 := Lib.hid e1
      clear t1 t2 q m e1 e2
      go_enter Try.func81, Try.ntmps81
      go_wp2
      go_ret
      exact ⟨ret_int (by rw [flo_pos hb', E1.out]), rfl⟩

theorem mod_any (a b : Int) (w : World) (a0 : -9223372036854775808 ≤ a) (a1 : a ≤ 9223372036854775807) (b0 : -9223372036854775808 ≤ b) (b1 : b ≤ 9223372036854775807) :
    Calls Try.prog 82 #[.int .i64 a, .int .i64 b] w fun e w' => e = .returned (.int .i64 (mo a b)) ∧ w = w' := by
  by_cases hb : b < 1
  · go_enter Try.func82, Try.ntmps82
    go_wp2
    go_ret
    exact ⟨ret_int (mo_low hb).symm, rfl⟩
  · have hb' : 1 ≤ b := by omega
    obtain ⟨t1, t2⟩ := tq (a := a) hb'
    have m := emod_bd a hb'
    by_cases hc : a.tmod b < 0
    · obtain ⟨e1, e2⟩ := t1 hc
      have x1 : -9223372036854775807 ≤ a.tmod b ∧ a.tmod b + b ≤ 9223372036854775807 := by omega
      have E1 := Lib.hid e2
      clear t1 t2 m e1 e2
      go_enter Try.func82, Try.ntmps82
      go_wp2
      go_ret
      exact ⟨ret_int (by rw [mo_pos hb', E1.out]), rfl⟩
    · obtain ⟨e1, e2⟩ := t2 hc
      have x1 : -9223372036854775808 ≤ a.tmod b ∧ a.tmod b ≤ 9223372036854775807 := by omega
      have E1 := Lib.hid e2
      clear t1 t2 m e1 e2
      go_enter Try.func82, Try.ntmps82
      go_wp2
      go_ret
      exact ⟨ret_int (by rw [mo_pos hb', E1.out]), rfl⟩

theorem rfloor_any (a b : Int) (w : World) (a0 : -9223372036854775808 ≤ a) (a1 : a ≤ 9223372036854775807) (b0 : -9223372036854775808 ≤ b) (b1 : b ≤ 9223372036854775807) :
    Calls Try.prog 51 #[.int .i64 a, .int .i64 b] w fun e w' => e = .returned (.int .i64 (flo a b)) ∧ w = w' := by
  by_cases hb : b < 1
  · go_enter Try.func51, Try.ntmps51
    go_wp2
    go_ret
    exact ⟨ret_int (flo_low hb).symm, rfl⟩
  · have hb' : 1 ≤ b := by omega
    obtain ⟨t1, t2⟩ := tq (a := a) hb'
    have q := ediv_bd hb' a0 a1
    have m := emod_bd a hb'
    by_cases hc : a.tmod b < 0
    · obtain ⟨e1, e2⟩ := t1 hc
      have ng : a < 0 := by
        apply Classical.byContradiction
        intro h
        have := Int.tmod_nonneg b (a := a) (by omega)
        omega
      have qn := Int.ediv_neg_of_neg_of_pos ng (b := b) (by omega)
      have x1 : -9223372036854775807 ≤ a.tdiv b ∧ a.tdiv b ≤ 9223372036854775807 := by omega
      have E1 := Lib.hid e1
      clear t1 t2 q m e1 e2
      go_enter Try.func51, Try.ntmps51
      go_wp2
      go_ret
      exact ⟨ret_int (by rw [flo_pos hb', E1.out]), rfl⟩
    · obtain ⟨e1, e2⟩ := t2 hc
      have x1 : -9223372036854775808 ≤ a.tdiv b ∧ a.tdiv b ≤ 9223372036854775807 := by omega
      have E1 := Lib.hid e1
      clear t1 t2 q m e1 e2
      go_enter Try.func51, Try.ntmps51
      go_wp2
      go_ret
      exact ⟨ret_int (by rw [flo_pos hb', E1.out]), rfl⟩

theorem rmod_wrap (a b : Int) (hb : 1 ≤ b) (h1 : b ≤ 9223372036854775807) : wrap64 (a - wrap64 (b * (a / b))) = a % b := by
  have E := Int.mul_ediv_add_emod a b
  have m := emod_bd a hb
  obtain ⟨X, hX⟩ : ∃ X, X = b * (a / b) := ⟨_, rfl⟩
  obtain ⟨Y, hY⟩ : ∃ Y, Y = a % b := ⟨_, rfl⟩
  rw [← hX, ← hY] at E
  rw [← hY] at m
  rw [← hX, ← hY]
  unfold wrap64
  omega

theorem rmod_any (a b : Int) (w : World) (a0 : -9223372036854775808 ≤ a) (a1 : a ≤ 9223372036854775807) (b0 : -9223372036854775808 ≤ b) (b1 : b ≤ 9223372036854775807) :
    Calls Try.prog 52 #[.int .i64 a, .int .i64 b] w fun e w' => e = .returned (.int .i64 (mo a b)) ∧ w = w' := by
  by_cases hb : b < 1
  · go_enter Try.func52, Try.ntmps52
    go_wp2
    go_ret
    exact ⟨ret_int (mo_low hb).symm, rfl⟩
  · have hb' : 1 ≤ b := by omega
    have F := Lib.hid (flo_pos (a := a) hb')
    have W := Lib.hid (rmod_wrap a b hb' b1)
    go_enter Try.func52, Try.ntmps52
    go_wp2_with fail
    refine (rfloor_any _ _ _ a0 a1 b0 b1).mono ?_
    rintro e w' ⟨rfl, rfl⟩
    rw [F.out]
    go_wp2
    go_ret
    exact ⟨ret_int (by rw [mo_pos hb', ← W.out]), rfl⟩

end Go.Proofs.Ytnoomlakgfdaeaa
