/- Contracts for chapter 28: a field's items (list, the reference's Field); what is wrong with a field's list. -/
import Derived.Test.YticloblhdjnjkaaCalD
namespace Go.Proofs.Yticloblhdjnjkaa
open Go.RowKit

/-- an event in memory -/
structure CalAt (w : World) (B : Nat) (l : Nat → Sl) (b : Bool) : Prop where
  c0 : w.cell? ⟨B, 0, none⟩ = some (l 0).v
  c1 : w.cell? ⟨B, 1, none⟩ = some (l 1).v
  c2 : w.cell? ⟨B, 2, none⟩ = some (l 2).v
  c3 : w.cell? ⟨B, 3, none⟩ = some (l 3).v
  c4 : w.cell? ⟨B, 4, none⟩ = some (.bool b)
  c5 : w.cell? ⟨B, 5, none⟩ = some (l 4).v
  c6 : w.cell? ⟨B, 6, none⟩ = some (l 5).v
  c7 : w.cell? ⟨B, 7, none⟩ = some (l 6).v
theorem CalAt.below {w w' : World} {B : Nat} {l : Nat → Sl} {b : Bool} (h : CalAt w B l b) (hb : Below w.heap.size w w') : CalAt w' B l b := by
  have bl := World.block_lt_of_cell? _ _ h.c0
  exact ⟨(hb.cell (p := ⟨B, 0, none⟩) bl).trans h.c0, (hb.cell (p := ⟨B, 1, none⟩) bl).trans h.c1, (hb.cell (p := ⟨B, 2, none⟩) bl).trans h.c2, (hb.cell (p := ⟨B, 3, none⟩) bl).trans h.c3,
    (hb.cell (p := ⟨B, 4, none⟩) bl).trans h.c4, (hb.cell (p := ⟨B, 5, none⟩) bl).trans h.c5, (hb.cell (p := ⟨B, 6, none⟩) bl).trans h.c6, (hb.cell (p := ⟨B, 7, none⟩) bl).trans h.c7⟩
theorem Sl.v_form (l : Sl) : ∃ A n c, l.v = .slice A n c := ⟨_, _, _, rfl⟩

/-- a field's items -/
def fldS (l : Nat → Sl) (f : Int) : Sl := if f < 0 ∨ 6 < f then ⟨none, 0, []⟩ else l f.toNat
theorem fld_in (l : Nat → Sl) {f : Int} (h1 : 0 ≤ f) (h2 : f ≤ 6) : fldS l f = l f.toNat := by unfold fldS; rw [if_neg (by omega)]
theorem fld_out (l : Nat → Sl) {f : Int} (h : f < 0 ∨ 6 < f) : fldS l f = ⟨none, 0, []⟩ := by unfold fldS; rw [if_pos h]
theorem fld_ok {l : Nat → Sl} {w : World} (h : ∀ j, (l j).ok w) (f : Int) : (fldS l f).ok w := by
  unfold fldS
  split
  · exact ⟨fun k hk => absurd hk (by simp), by simp⟩
  · exact h _

set_option maxRecDepth 100000 in
set_option maxHeartbeats 4000000 in
theorem list_any (f : Int) (B : Nat) (l : Nat → Sl) (b : Bool) (w : World) (h : CalAt w B l b) : Calls Try.prog 54 #[.pointer (some ⟨B, 0, none⟩), .int .i64 f] w (Kept (fldS l f).v w) := by
  by_cases hf : f < 0 ∨ 6 < f
  · rw [fld_out l hf]
    show Calls _ _ _ _ (Kept (.slice none 0 0) w)
    by_cases c : f < 0
    · have g1 : decide (f < 0) = true := decide_eq_true c
      clear hf h
      go_enter Try.func54, Try.ntmps54
      go_wp2
      go_ret
      exact ⟨rfl, Below.refl _ _⟩
    · have g1 : decide (f < 0) = false := decide_eq_false c
      have g2 : decide (7 ≤ f) = true := decide_eq_true (by omega)
      clear hf h
      go_enter Try.func54, Try.ntmps54
      go_wp2
      go_ret
      exact ⟨rfl, Below.refl _ _⟩
  have bl := World.block_lt_of_cell? _ _ h.c0
  obtain ⟨h0, h1, h2, h3, h4, h5, h6, h7⟩ := h
  obtain ⟨A0, n0, c0, q0⟩ := Sl.v_form (l 0)
  obtain ⟨A1, n1, c1, q1⟩ := Sl.v_form (l 1)
  obtain ⟨A2, n2, c2, q2⟩ := Sl.v_form (l 2)
  obtain ⟨A3, n3, c3, q3⟩ := Sl.v_form (l 3)
  obtain ⟨A4, n4, c4, q4⟩ := Sl.v_form (l 4)
  obtain ⟨A5, n5, c5, q5⟩ := Sl.v_form (l 5)
  obtain ⟨A6, n6, c6, q6⟩ := Sl.v_form (l 6)
  rw [fld_in l (by omega) (by omega)]
  rw [q0] at h0
  rw [q1] at h1
  rw [q2] at h2
  rw [q3] at h3
  rw [q4] at h5
  rw [q5] at h6
  rw [q6] at h7
  rcases f_ways (f := f) (by omega) (by omega) with rfl | rfl | rfl | rfl | rfl | rfl | rfl
  · show Calls _ _ _ _ (Kept (l 0).v w)
    rw [q0]
    clear hf q0 q1 q2 q3 q4 q5 q6
    have hi : ∀ w, (Instr.index 93 (.agg #[.slice A0 n0 c0, .slice A1 n1 c1, .slice A2 n2 c2, .slice A3 n3 c3, .slice A4 n4 c4, .slice A5 n5 c5, .slice A6 n6 c6]) (.int .i64 0)).run Try.prog w = .ok (.slice A0 n0 c0) w := fun _ => by rfl
    go_enter Try.func54, Try.ntmps54
    go_wp2
    go_quiet (fail)
    go_wp2
    go_ret
    exact ⟨rfl, below_drewN (Below.refl _ _) _⟩
  · show Calls _ _ _ _ (Kept (l 1).v w)
    rw [q1]
    clear hf q0 q1 q2 q3 q4 q5 q6
    have hi : ∀ w, (Instr.index 93 (.agg #[.slice A0 n0 c0, .slice A1 n1 c1, .slice A2 n2 c2, .slice A3 n3 c3, .slice A4 n4 c4, .slice A5 n5 c5, .slice A6 n6 c6]) (.int .i64 1)).run Try.prog w = .ok (.slice A1 n1 c1) w := fun _ => by rfl
    go_enter Try.func54, Try.ntmps54
    go_wp2
    go_quiet (fail)
    go_wp2
    go_ret
    exact ⟨rfl, below_drewN (Below.refl _ _) _⟩
  · show Calls _ _ _ _ (Kept (l 2).v w)
    rw [q2]
    clear hf q0 q1 q2 q3 q4 q5 q6
    have hi : ∀ w, (Instr.index 93 (.agg #[.slice A0 n0 c0, .slice A1 n1 c1, .slice A2 n2 c2, .slice A3 n3 c3, .slice A4 n4 c4, .slice A5 n5 c5, .slice A6 n6 c6]) (.int .i64 2)).run Try.prog w = .ok (.slice A2 n2 c2) w := fun _ => by rfl
    go_enter Try.func54, Try.ntmps54
    go_wp2
    go_quiet (fail)
    go_wp2
    go_ret
    exact ⟨rfl, below_drewN (Below.refl _ _) _⟩
  · show Calls _ _ _ _ (Kept (l 3).v w)
    rw [q3]
    clear hf q0 q1 q2 q3 q4 q5 q6
    have hi : ∀ w, (Instr.index 93 (.agg #[.slice A0 n0 c0, .slice A1 n1 c1, .slice A2 n2 c2, .slice A3 n3 c3, .slice A4 n4 c4, .slice A5 n5 c5, .slice A6 n6 c6]) (.int .i64 3)).run Try.prog w = .ok (.slice A3 n3 c3) w := fun _ => by rfl
    go_enter Try.func54, Try.ntmps54
    go_wp2
    go_quiet (fail)
    go_wp2
    go_ret
    exact ⟨rfl, below_drewN (Below.refl _ _) _⟩
  · show Calls _ _ _ _ (Kept (l 4).v w)
    rw [q4]
    clear hf q0 q1 q2 q3 q4 q5 q6
    have hi : ∀ w, (Instr.index 93 (.agg #[.slice A0 n0 c0, .slice A1 n1 c1, .slice A2 n2 c2, .slice A3 n3 c3, .slice A4 n4 c4, .slice A5 n5 c5, .slice A6 n6 c6]) (.int .i64 4)).run Try.prog w = .ok (.slice A4 n4 c4) w := fun _ => by rfl
    go_enter Try.func54, Try.ntmps54
    go_wp2
    go_quiet (fail)
    go_wp2
    go_ret
    exact ⟨rfl, below_drewN (Below.refl _ _) _⟩
  · show Calls _ _ _ _ (Kept (l 5).v w)
    rw [q5]
    clear hf q0 q1 q2 q3 q4 q5 q6
    have hi : ∀ w, (Instr.index 93 (.agg #[.slice A0 n0 c0, .slice A1 n1 c1, .slice A2 n2 c2, .slice A3 n3 c3, .slice A4 n4 c4, .slice A5 n5 c5, .slice A6 n6 c6]) (.int .i64 5)).run Try.prog w = .ok (.slice A5 n5 c5) w := fun _ => by rfl
    go_enter Try.func54, Try.ntmps54
    go_wp2
    go_quiet (fail)
    go_wp2
    go_ret
    exact ⟨rfl, below_drewN (Below.refl _ _) _⟩
  · show Calls _ _ _ _ (Kept (l 6).v w)
    rw [q6]
    clear hf q0 q1 q2 q3 q4 q5 q6
    have hi : ∀ w, (Instr.index 93 (.agg #[.slice A0 n0 c0, .slice A1 n1 c1, .slice A2 n2 c2, .slice A3 n3 c3, .slice A4 n4 c4, .slice A5 n5 c5, .slice A6 n6 c6]) (.int .i64 6)).run Try.prog w = .ok (.slice A6 n6 c6) w := fun _ => by rfl
    go_enter Try.func54, Try.ntmps54
    go_wp2
    go_quiet (fail)
    go_wp2
    go_ret
    exact ⟨rfl, below_drewN (Below.refl _ _) _⟩

set_option maxRecDepth 100000 in
set_option maxHeartbeats 4000000 in
theorem rfield_any (f : Int) (l : Nat → Sl) (b : Bool) (w : World) : Calls Try.prog 43 #[calV l b, .int .i64 f] w (Kept (fldS l f).v w) := by
  unfold calV
  obtain ⟨A0, n0, c0, q0⟩ := Sl.v_form (l 0)
  obtain ⟨A1, n1, c1, q1⟩ := Sl.v_form (l 1)
  obtain ⟨A2, n2, c2, q2⟩ := Sl.v_form (l 2)
  obtain ⟨A3, n3, c3, q3⟩ := Sl.v_form (l 3)
  obtain ⟨A4, n4, c4, q4⟩ := Sl.v_form (l 4)
  obtain ⟨A5, n5, c5, q5⟩ := Sl.v_form (l 5)
  obtain ⟨A6, n6, c6, q6⟩ := Sl.v_form (l 6)
  rw [q0, q1, q2, q3, q4, q5, q6]
  by_cases hf : f < 0 ∨ 6 < f
  · rw [fld_out l hf]
    show Calls _ _ _ _ (Kept (.slice none 0 0) w)
    have g0 : (f == 0) = false := beq_eq_false_iff_ne.2 (by omega)
    have g1 : (f == 1) = false := beq_eq_false_iff_ne.2 (by omega)
    have g2 : (f == 2) = false := beq_eq_false_iff_ne.2 (by omega)
    have g3 : (f == 3) = false := beq_eq_false_iff_ne.2 (by omega)
    have g4 : (f == 4) = false := beq_eq_false_iff_ne.2 (by omega)
    have g5 : (f == 5) = false := beq_eq_false_iff_ne.2 (by omega)
    have g6 : (f == 6) = false := beq_eq_false_iff_ne.2 (by omega)
    clear hf q0 q1 q2 q3 q4 q5 q6
    go_enter Try.func43, Try.ntmps43
    go_wp2
    go_ret
    exact ⟨rfl, (Below.refl _ _).alloc (Nat.le_refl _) _⟩
  rw [fld_in l (by omega) (by omega)]
  rcases f_ways (f := f) (by omega) (by omega) with rfl | rfl | rfl | rfl | rfl | rfl | rfl
  · show Calls _ _ _ _ (Kept (l 0).v w)
    rw [q0]
    clear hf q0 q1 q2 q3 q4 q5 q6
    go_enter Try.func43, Try.ntmps43
    go_wp2
    go_ret
    exact ⟨rfl, (Below.refl _ _).alloc (Nat.le_refl _) _⟩
  · show Calls _ _ _ _ (Kept (l 1).v w)
    rw [q1]
    clear hf q0 q1 q2 q3 q4 q5 q6
    go_enter Try.func43, Try.ntmps43
    go_wp2
    go_ret
    exact ⟨rfl, (Below.refl _ _).alloc (Nat.le_refl _) _⟩
  · show Calls _ _ _ _ (Kept (l 2).v w)
    rw [q2]
    clear hf q0 q1 q2 q3 q4 q5 q6
    go_enter Try.func43, Try.ntmps43
    go_wp2
    go_ret
    exact ⟨rfl, (Below.refl _ _).alloc (Nat.le_refl _) _⟩
  · show Calls _ _ _ _ (Kept (l 3).v w)
    rw [q3]
    clear hf q0 q1 q2 q3 q4 q5 q6
    go_enter Try.func43, Try.ntmps43
    go_wp2
    go_ret
    exact ⟨rfl, (Below.refl _ _).alloc (Nat.le_refl _) _⟩
  · show Calls _ _ _ _ (Kept (l 4).v w)
    rw [q4]
    clear hf q0 q1 q2 q3 q4 q5 q6
    go_enter Try.func43, Try.ntmps43
    go_wp2
    go_ret
    exact ⟨rfl, (Below.refl _ _).alloc (Nat.le_refl _) _⟩
  · show Calls _ _ _ _ (Kept (l 5).v w)
    rw [q5]
    clear hf q0 q1 q2 q3 q4 q5 q6
    go_enter Try.func43, Try.ntmps43
    go_wp2
    go_ret
    exact ⟨rfl, (Below.refl _ _).alloc (Nat.le_refl _) _⟩
  · show Calls _ _ _ _ (Kept (l 6).v w)
    rw [q6]
    clear hf q0 q1 q2 q3 q4 q5 q6
    go_enter Try.func43, Try.ntmps43
    go_wp2
    go_ret
    exact ⟨rfl, (Below.refl _ _).alloc (Nat.le_refl _) _⟩
end Go.Proofs.Yticloblhdjnjkaa
