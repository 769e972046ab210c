/- Contracts of package span's small functions and of the reference's: a span held, empty, an instant in it, its length. -/
import Derived.Test.YticloblhdjnjkaaTimes
namespace Go.Proofs.Yticloblhdjnjkaa
open Go.RowKit

def hF (a b : Int) : Int := if max a 0 > min b 12622780799 then 0 else max a 0
def hU (a b : Int) : Int := if max a 0 > min b 12622780799 then -1 else min b 12622780799
theorem h_bd (a b : Int) : 0 ≤ hF a b ∧ hF a b ≤ 12622780799 ∧ -1 ≤ hU a b ∧ hU a b ≤ 12622780799 := by unfold hF hU; split <;> omega
theorem h_low {a b : Int} (h : max a 0 > min b 12622780799) : hF a b = 0 ∧ hU a b = -1 := by unfold hF hU; rw [if_pos h, if_pos h]; exact ⟨rfl, rfl⟩
theorem h_high {a b : Int} (h : ¬ max a 0 > min b 12622780799) : hF a b = max a 0 ∧ hU a b = min b 12622780799 := by unfold hF hU; rw [if_neg h, if_neg h]; exact ⟨rfl, rfl⟩
/-- a span's value -/
def spV (a b : Int) : Value := .agg #[.int .i64 a, .int .i64 b]
theorem ret_sp {a b c d : Int} (h : a = c) (k : b = d) : Ending.returned (.agg #[.int .i64 a, .int .i64 b]) = .returned (.agg #[.int .i64 c, .int .i64 d]) := by rw [h, k]

theorem none_any (w : World) : Calls Try.prog 48 #[] w fun e w' => e = .returned (.agg #[.int .i64 0, .int .i64 (-1)]) ∧ w.alloc (.cells #[.int .i64 0, .int .i64 (-1)] 34) = w' := by
  go_enter Try.func48, Try.ntmps48
  go_wp2
  exact bodyPost_ret (v := .agg #[.int .i64 0, .int .i64 (-1)]) (by simp [results, Try.results48, go_sem]) rfl ⟨rfl, rfl⟩
theorem whole_any (w : World) : Calls Try.prog 30 #[] w fun e w' => e = .returned (.agg #[.int .i64 0, .int .i64 12622780799]) ∧ w.alloc (.cells #[.int .i64 0, .int .i64 12622780799] 34) = w' := by
  go_enter Try.func30, Try.ntmps30
  go_wp2
  exact bodyPost_ret (v := .agg #[.int .i64 0, .int .i64 12622780799]) (by simp [results, Try.results30, go_sem]) rfl ⟨rfl, rfl⟩

theorem bcell {W w1 : World} (hb : Below W.heap.size W w1) : (∀ b o, b < W.heap.size → w1.cell? ⟨b, o, none⟩ = W.cell? ⟨b, o, none⟩) ∧ (∀ b o, b < W.heap.size → w1.frozen? ⟨b, o, none⟩ = W.frozen? ⟨b, o, none⟩) :=
  ⟨fun b o h => hb.cell (p := ⟨b, o, none⟩) h, fun b o h => hb.frozen (p := ⟨b, o, none⟩) h⟩

/-- the seven ways of a span -/
theorem h_ways (a b : Int) : (a < 0 ∧ 12622780799 < b ∧ hF a b = 0 ∧ hU a b = 12622780799) ∨ (a < 0 ∧ b ≤ 12622780799 ∧ b < 0 ∧ hF a b = 0 ∧ hU a b = -1) ∨ (a < 0 ∧ b ≤ 12622780799 ∧ 0 ≤ b ∧ hF a b = 0 ∧ hU a b = b) ∨
    (0 ≤ a ∧ 12622780799 < b ∧ 12622780799 < a ∧ hF a b = 0 ∧ hU a b = -1) ∨ (0 ≤ a ∧ 12622780799 < b ∧ a ≤ 12622780799 ∧ hF a b = a ∧ hU a b = 12622780799) ∨ (0 ≤ a ∧ b ≤ 12622780799 ∧ b < a ∧ hF a b = 0 ∧ hU a b = -1) ∨ (0 ≤ a ∧ b ≤ 12622780799 ∧ a ≤ b ∧ hF a b = a ∧ hU a b = b) := by
  by_cases c1 : a < 0
  · by_cases c2 : 12622780799 < b
    · have h := h_high (a := a) (b := b) (by omega)
      exact .inl ⟨c1, c2, h.1.trans (by omega), h.2.trans (by omega)⟩
    · by_cases c3 : b < 0
      · have h := h_low (a := a) (b := b) (by omega)
        exact .inr (.inl ⟨c1, by omega, c3, h.1, h.2⟩)
      · have h := h_high (a := a) (b := b) (by omega)
        exact .inr (.inr (.inl ⟨c1, by omega, by omega, h.1.trans (by omega), h.2.trans (by omega)⟩))
  · by_cases c2 : 12622780799 < b
    · by_cases c3 : 12622780799 < a
      · have h := h_low (a := a) (b := b) (by omega)
        exact .inr (.inr (.inr (.inl ⟨by omega, c2, c3, h.1, h.2⟩)))
      · have h := h_high (a := a) (b := b) (by omega)
        exact .inr (.inr (.inr (.inr (.inl ⟨by omega, c2, by omega, h.1.trans (by omega), h.2.trans (by omega)⟩))))
    · by_cases c3 : b < a
      · have h := h_low (a := a) (b := b) (by omega)
        exact .inr (.inr (.inr (.inr (.inr (.inl ⟨by omega, by omega, c3, h.1, h.2⟩)))))
      · have h := h_high (a := a) (b := b) (by omega)
        exact .inr (.inr (.inr (.inr (.inr (.inr ⟨by omega, by omega, by omega, h.1.trans (by omega), h.2.trans (by omega)⟩)))))

theorem rspan_any (a b : Int) (w : World) :
    Calls Try.prog 26 #[.agg #[.int .i64 a, .int .i64 b]] w (Kept (.agg #[.int .i64 (hF a b), .int .i64 (hU a b)]) w) := by
  rcases h_ways a b with ⟨c1, c2, f, u⟩ | ⟨c1, c2, c3, f, u⟩ | ⟨c1, c2, c3, f, u⟩ | ⟨c1, c2, c3, f, u⟩ | ⟨c1, c2, c3, f, u⟩ | ⟨c1, c2, c3, f, u⟩ | ⟨c1, c2, c3, f, u⟩
  all_goals
    rw [f, u]
    clear f u
    go_enter Try.func26, Try.ntmps26
    go_wp2
    exact bodyPost_ret (by simp [results, Try.results26, go_sem]) rfl ⟨rfl, ((Below.refl _ _).alloc (Nat.le_refl _) _).alloc (by simp) _⟩
theorem span_any (a b : Int) (w : World) :
    Calls Try.prog 27 #[.agg #[.int .i64 a, .int .i64 b]] w (Kept (.agg #[.int .i64 (hF a b), .int .i64 (hU a b)]) w) := by
  rcases h_ways a b with ⟨c1, c2, f, u⟩ | ⟨c1, c2, c3, f, u⟩ | ⟨c1, c2, c3, f, u⟩ | ⟨c1, c2, c3, f, u⟩ | ⟨c1, c2, c3, f, u⟩ | ⟨c1, c2, c3, f, u⟩ | ⟨c1, c2, c3, f, u⟩
  all_goals
    rw [f, u]
    clear f u
    go_enter Try.func27, Try.ntmps27
    go_wp2_with fail
    first
    | exact bodyPost_ret (by simp [results, Try.results27, go_sem]) rfl ⟨rfl, ((Below.refl _ _).alloc (Nat.le_refl _) _).alloc (by simp) _⟩
    | (refine (none_any _).mono ?_
       rintro e w1 ⟨rfl, rfl⟩
       go_wp2
       exact bodyPost_ret (by simp [results, Try.results27, go_sem]) rfl ⟨rfl, (((Below.refl _ _).alloc (Nat.le_refl _) _).alloc (by simp) _).alloc (by simp; omega) _⟩)

/-- is a span empty? -/
def emB (a b : Int) : Bool := decide (hF a b > hU a b)
theorem em_eq (a b : Int) : (hF a b == 0 && hU a b == -1) = emB a b := by
  have h := h_ways a b
  unfold emB
  by_cases e : hF a b > hU a b
  · have e1 : hF a b = 0 := by omega
    have e2 : hU a b = -1 := by omega
    rw [e1, e2]; decide
  · have e2 : ¬ (hF a b = 0 ∧ hU a b = -1) := by omega
    rw [decide_eq_false e]
    simp only [Bool.and_eq_false_iff, beq_eq_false_iff_ne]
    omega

theorem empty_any (a b : Int) (w : World) :
    Calls Try.prog 28 #[.agg #[.int .i64 a, .int .i64 b]] w (Kept (.bool (emB a b)) w) := by
  have E := Lib.hid (em_eq a b)
  obtain ⟨f, hf⟩ : ∃ f, f = hF a b := ⟨_, rfl⟩
  obtain ⟨u, hu⟩ : ∃ u, u = hU a b := ⟨_, rfl⟩
  rw [← hf, ← hu] at E
  have HF := Lib.hid hf
  have HU := Lib.hid hu
  clear hf hu
  go_enter Try.func28, Try.ntmps28
  go_wp2_with fail
  refine (span_any _ _ _).mono ?_
  rintro e w1 ⟨rfl, hb⟩
  rw [← HF.out, ← HU.out]
  have HB := Lib.hid hb
  clear hb
  go_wp2_with fail
  refine (none_any _).mono ?_
  rintro e w2 ⟨rfl, rfl⟩
  go_wp2
  all_goals
    go_ret
    exact ⟨ret_val (congrArg Value.bool (by rw [← E.out]; simp [*])), (((Below.refl _ _).alloc (Nat.le_refl _) _).trans (HB.out.mono (by simp))).alloc (Nat.le_trans (by simp) HB.out.size) _⟩

theorem len_any (a b : Int) (w : World) :
    Calls Try.prog 29 #[.agg #[.int .i64 a, .int .i64 b]] w (Kept (.int .i64 (hU a b - hF a b + 1)) w) := by
  obtain ⟨d1, d2, d3, d4⟩ := h_bd a b
  obtain ⟨f, hf⟩ : ∃ f, f = hF a b := ⟨_, rfl⟩
  obtain ⟨u, hu⟩ : ∃ u, u = hU a b := ⟨_, rfl⟩
  rw [← hf] at d1 d2 ⊢
  rw [← hu] at d3 d4 ⊢
  have HF := Lib.hid hf
  have HU := Lib.hid hu
  clear hf hu
  go_enter Try.func29, Try.ntmps29
  go_wp2_with fail
  refine (span_any _ _ _).mono ?_
  rintro e w1 ⟨rfl, hb⟩
  rw [← HF.out, ← HU.out]
  obtain ⟨hc, hfz⟩ := bcell hb
  have hz : w.heap.size < w1.heap.size := by have := hb.size; simp at this; omega
  have HB := Lib.hid hb
  clear hb
  go_wp2
  go_ret
  exact ⟨rfl, ((((Below.refl _ _).alloc (Nat.le_refl _) _).trans (HB.out.mono (by simp))).setCell (Nat.le_refl _) _).setCell (Nat.le_refl _) _⟩

/-- is an instant in a span? -/
def inB (a b t : Int) : Bool := decide (hF a b ≤ t ∧ t ≤ hU a b)

theorem in_any (a b t : Int) (w : World) :
    Calls Try.prog 22 #[.agg #[.int .i64 a, .int .i64 b], .int .i64 t] w (Kept (.bool (inB a b t)) w) := by
  obtain ⟨d1, d2, d3, d4⟩ := h_bd a b
  have hi : inB a b t = decide (hF a b ≤ t ∧ t ≤ hU a b) := rfl
  obtain ⟨f, hf⟩ : ∃ f, f = hF a b := ⟨_, rfl⟩
  obtain ⟨u, hu⟩ : ∃ u, u = hU a b := ⟨_, rfl⟩
  rw [← hf] at d1 d2 hi
  rw [← hu] at d3 d4 hi
  have HF := Lib.hid hf
  have HU := Lib.hid hu
  have HI := Lib.hid hi
  clear hf hu hi
  by_cases c1 : f ≤ t <;> by_cases c2 : t ≤ u
  all_goals
    have e1 := by first | exact decide_eq_false (show ¬ f ≤ t from c1) | exact decide_eq_true (show f ≤ t from c1)
    have e2 := by first | exact decide_eq_false (show ¬ t ≤ u from c2) | exact decide_eq_true (show t ≤ u from c2)
    have V := Lib.hid (HI.out.trans (by first | exact decide_eq_true ⟨c1, c2⟩ | exact decide_eq_false (fun h => c1 h.1) | exact decide_eq_false (fun h => c2 h.2)))
    clear c1 c2
    go_enter Try.func22, Try.ntmps22
    go_wp2_with fail
    refine (span_any _ _ _).mono ?_
    rintro e w1 ⟨rfl, hb⟩
    rw [← HF.out, ← HU.out]
    obtain ⟨hc, hfz⟩ := bcell hb
    have hz : w.heap.size < w1.heap.size := by have := hb.size; simp at this; omega
    have HB := Lib.hid hb
    clear hb
    go_wp2
    go_ret
    exact ⟨ret_val (congrArg Value.bool V.out.symm), ((((Below.refl _ _).alloc (Nat.le_refl _) _).trans (HB.out.mono (by simp))).setCell (Nat.le_refl _) _).setCell (Nat.le_refl _) _⟩

theorem inB_eq (a b t : Int) : inB a b t = (((decide (0 ≤ t) && decide (t ≤ 12622780799)) && decide (a ≤ t)) && decide (t ≤ b)) := by
  unfold inB
  have h := h_ways a b
  have e : (hF a b ≤ t ∧ t ≤ hU a b) ↔ ((0 ≤ t ∧ t ≤ 12622780799) ∧ a ≤ t) ∧ t ≤ b := by
    rcases h with ⟨c1, c2, f, u⟩ | ⟨c1, c2, c3, f, u⟩ | ⟨c1, c2, c3, f, u⟩ | ⟨c1, c2, c3, f, u⟩ | ⟨c1, c2, c3, f, u⟩ | ⟨c1, c2, c3, f, u⟩ | ⟨c1, c2, c3, f, u⟩ <;> rw [f, u] <;> omega
  have e2 : decide (hF a b ≤ t ∧ t ≤ hU a b) = decide (((0 ≤ t ∧ t ≤ 12622780799) ∧ a ≤ t) ∧ t ≤ b) := decide_eq_decide.2 e
  rw [e2]
  simp only [Bool.decide_and]

theorem rin_any (a b t : Int) (w : World) :
    Calls Try.prog 19 #[.agg #[.int .i64 a, .int .i64 b], .int .i64 t] w (Kept (.bool (inB a b t)) w) := by
  have HI := Lib.hid (inB_eq a b t)
  have cs : (decide (0 ≤ t) = false) ∨ (decide (0 ≤ t) = true ∧ decide (t ≤ 12622780799) = false) ∨ (decide (0 ≤ t) = true ∧ decide (t ≤ 12622780799) = true ∧ decide (a ≤ t) = false) ∨
      (decide (0 ≤ t) = true ∧ decide (t ≤ 12622780799) = true ∧ decide (a ≤ t) = true ∧ decide (t ≤ b) = false) ∨ (decide (0 ≤ t) = true ∧ decide (t ≤ 12622780799) = true ∧ decide (a ≤ t) = true ∧ decide (t ≤ b) = true) := by
    simp only [decide_eq_true_eq, decide_eq_false_iff_not]
    omega
  rcases cs with c1 | ⟨c1, c2⟩ | ⟨c1, c2, c3⟩ | ⟨c1, c2, c3, c4⟩ | ⟨c1, c2, c3, c4⟩
  all_goals
    have V := Lib.hid (HI.out.trans (by simp only [*]; rfl : _ = _))
    clear HI
    go_enter Try.func19, Try.ntmps19
    go_wp2
    go_ret
    exact ⟨ret_val (congrArg Value.bool V.out.symm), (Below.refl _ _).alloc (Nat.le_refl _) _⟩

/-- is an instant of the window? -/
theorem minw_any (t : Int) (w : World) :
    Calls Try.prog 65 #[.int .i64 t] w fun e w' => e = .returned (.bool (decide (0 ≤ t) && decide (t < 12622780800))) ∧ w = w' := by
  by_cases c1 : 0 ≤ t <;> by_cases c2 : t < 12622780800
  all_goals
    have e1 := by first | exact decide_eq_false (show ¬ 0 ≤ t from c1) | exact decide_eq_true (show 0 ≤ t from c1)
    have e2 := by first | exact decide_eq_false (show ¬ t < 12622780800 from c2) | exact decide_eq_true (show t < 12622780800 from c2)
    go_enter Try.func65, Try.ntmps65
    go_wp2
    go_ret
    exact ⟨ret_val (congrArg Value.bool (by first | rfl | (rw [e1, e2]; rfl))), rfl⟩

theorem split_any (t : Int) (w : World) (h0 : 0 ≤ t) (h1 : t < 12622780800) :
    Calls Try.prog 59 #[.int .i64 t] w fun e w' => e = .returned (.tuple #[.int .i64 (t / 86400), .int .i64 (t % 86400), .bool true]) ∧ w = w' := by
  go_enter Try.func59, Try.ntmps59
  go_wp2_with fail
  refine (minw_any _ _).mono ?_
  rintro e w' ⟨rfl, rfl⟩
  rw [decide_eq_true h0, decide_eq_true h1]
  go_wp2
  go_ret3
  exact ⟨rfl, rfl⟩
end Go.Proofs.Yticloblhdjnjkaa
