/- The walk of ferialaw01.NumBack: it returns true. -/
import Derived.Test.YticloblhdjnjkaaGcd
import Derived.OpenShut
namespace Go.Proofs.Yticloblhdjnjkaa
open Go.RowKit

theorem i64_bd {a : Int} (h : (Lit.int .i64 a).wf = true) : -9223372036854775808 ≤ a ∧ a ≤ 9223372036854775807 := by
  simp [Lit.wf, IntKind.min, IntKind.max, IntKind.bits, IntKind.signed] at h; omega

theorem NumBack_walk (a b : Int) (w : World) (ha : (Lit.int .i64 a).wf = true) (hb : (Lit.int .i64 b).wf = true) :
    Calls Try.prog 3 #[.int .i64 a, .int .i64 b] w (Kept (.bool true) w) := by
  obtain ⟨a0, a1⟩ := i64_bd ha
  obtain ⟨b0, b1⟩ := i64_bd hb
  clear ha hb
  by_cases h : b < 1
  · have F := Lib.hid (flo_low (a := a) h)
    have M := Lib.hid (mo_low (a := a) h)
    go_enter Try.func3, Try.ntmps3
    go_wp2_with fail
    refine (floor_any _ _ _ a0 a1 b0 b1).mono ?_
    rintro e w' ⟨rfl, rfl⟩
    rw [F.out]
    go_wp2_with fail
    refine (mod_any _ _ _ a0 a1 b0 b1).mono ?_
    rintro e w' ⟨rfl, rfl⟩
    rw [M.out]
    go_wp2_with fail
    refine (num_lives _).mono ?_
    rintro e w' ⟨rfl, hw⟩
    go_wp2
    go_ret
    exact ⟨rfl, hw⟩
  · have hb' : 1 ≤ b := by omega
    have F := Lib.hid (flo_pos (a := a) hb')
    have M := Lib.hid (mo_pos (a := a) hb')
    have mb := emod_bd a hb'
    have qb := ediv_bd hb' a0 a1
    have E : a / b * b + a % b = a := by rw [Int.mul_comm]; exact Int.mul_ediv_add_emod a b
    have E2 : wrap64 (wrap64 (a / b * b) + a % b) = a := by
      obtain ⟨X, hX⟩ : ∃ X, X = a / b * b := ⟨_, rfl⟩
      obtain ⟨Y, hY⟩ : ∃ Y, Y = a % b := ⟨_, rfl⟩
      rw [← hX, ← hY] at E ⊢
      unfold wrap64
      omega
    have E3 : (wrap64 (wrap64 (a / b * b) + a % b) == a) = true := by rw [E2]; simp
    clear E E2
    have hm0 : ¬ (a % b < 0) := by omega
    have hm1 : ¬ (b ≤ a % b) := by omega
    go_enter Try.func3, Try.ntmps3
    go_wp2_with fail
    refine (mod_any _ _ _ a0 a1 b0 b1).mono ?_
    rintro e w' ⟨rfl, rfl⟩
    rw [M.out]
    go_wp2_with fail
    refine (floor_any _ _ _ a0 a1 b0 b1).mono ?_
    rintro e w' ⟨rfl, rfl⟩
    rw [F.out]
    go_wp2_with fail
    refine (num_lives _).mono ?_
    rintro e w' ⟨rfl, hw⟩
    go_wp2
    go_ret
    exact ⟨rfl, hw⟩
end Go.Proofs.Yticloblhdjnjkaa
