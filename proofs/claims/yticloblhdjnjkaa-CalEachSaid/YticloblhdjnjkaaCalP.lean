/- Plain, for ferialaw28.CalEach: an event with a field of another one. -/
import Derived.Test.YticloblhdjnjkaaCalM
namespace Go.Proofs.Yticloblhdjnjkaa
open Go.RowKit

theorem chkF_zero {g : Nat → Int} : ∀ (n k : Nat), (chkF g k n).2 = 0 → ∀ j, k ≤ j → j < k + n → g j = 0 := by
  intro n
  induction n with
  | zero => intro k _ j h1 h2; omega
  | succ n ih =>
    intro k h j h1 h2
    unfold chkF at h
    by_cases c : g k = 0
    · rw [if_pos c] at h
      by_cases e : j = k
      · rw [e]; exact c
      · exact ih (k + 1) h j (by omega) (by omega)
    · rw [if_neg c] at h
      exact absurd h c
theorem chkF_all {g : Nat → Int} : ∀ (n k : Nat), (∀ j, k ≤ j → j < k + n → g j = 0) → chkF g k n = (7, 0) := by
  intro n
  induction n with
  | zero => intro k _; rfl
  | succ n ih =>
    intro k h
    unfold chkF
    rw [if_pos (h k (by omega) (by omega))]
    exact ih (k + 1) fun j h1 h2 => h j (by omega) (by omega)
/-- the event l with the field r of m -/
def putF (l m : Nat → Sl) (r : Nat) : Nat → Sl := fun j => if j = r then m j else l j
theorem chk_put {l m : Nat → Sl} (r : Nat) (h1 : (chk l).2 = 0) (h2 : (chk m).2 = 0) : chk (putF l m r) = (7, 0) := by
  refine chkF_all 7 0 fun j h0 h7 => ?_
  have a := chkF_zero 7 0 h1 j h0 h7
  have b := chkF_zero 7 0 h2 j h0 h7
  show flt (j : Int) (putF l m r j).xs = 0
  unfold putF
  by_cases e : j = r
  · rw [if_pos e]; exact b
  · rw [if_neg e]; exact a
theorem put_ok {l m : Nat → Sl} {w : World} (r : Nat) (h1 : ∀ j, (l j).ok w) (h2 : ∀ j, (m j).ok w) (j : Nat) : (putF l m r j).ok w := by
  unfold putF
  by_cases e : j = r
  · rw [if_pos e]; exact h2 j
  · rw [if_neg e]; exact h1 j
theorem put_len {l m : Nat → Sl} (r : Nat) (h1 : ∀ j, j < 7 → (l j).xs.length ≤ 500) (h2 : ∀ j, j < 7 → (m j).xs.length ≤ 500) (j : Nat) (hj : j < 7) : (putF l m r j).xs.length ≤ 500 := by
  unfold putF
  by_cases e : j = r
  · rw [if_pos e]; exact h2 j hj
  · rw [if_neg e]; exact h1 j hj
theorem put_fld (l m : Nat → Sl) (r : Nat) (hr : r ≤ 6) : fldS (putF l m r) r = fldS m r := by
  rw [fld_in _ (by omega) (by omega), fld_in _ (by omega) (by omega)]
  unfold putF
  rw [if_pos (by simp)]
theorem u8_bd {a : Int} (h : (Lit.int .u8 a).wf = true) : 0 ≤ a ∧ a ≤ 255 := by
  simp [Lit.wf, IntKind.min, IntKind.max, IntKind.bits, IntKind.signed] at h; omega
end Go.Proofs.Yticloblhdjnjkaa
