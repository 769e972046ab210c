/- Contracts of package unit's names, Name, Of (slices.Index), of the reference's Names. -/
import Derived.Test.YtnoomlakgfdaeaaUnitC
namespace Go.Proofs.Ytnoomlakgfdaeaa
open Go.RowKit

/-- the units' names -/
def nmU (k : Nat) : ByteArray := match k with
  | 0 => ⟨#[83, 69, 67, 79, 78, 68, 76, 89]⟩
  | 1 => ⟨#[77, 73, 78, 85, 84, 69, 76, 89]⟩
  | 2 => ⟨#[72, 79, 85, 82, 76, 89]⟩
  | 3 => ⟨#[68, 65, 73, 76, 89]⟩
  | 4 => ⟨#[87, 69, 69, 75, 76, 89]⟩
  | 5 => ⟨#[77, 79, 78, 84, 72, 76, 89]⟩
  | _ => ⟨#[89, 69, 65, 82, 76, 89]⟩
theorem nmU_inj : ∀ i j, i < 7 → j < 7 → nmU i = nmU j → i = j := by
  have key : ∀ i : Fin 7, ∀ j : Fin 7, (nmU i).data.toList = (nmU j).data.toList → i = j := by decide
  intro i j hi hj h
  have := key ⟨i, hi⟩ ⟨j, hj⟩ (by rw [h])
  exact Fin.mk.inj this
/-- the first name of k, k + 1, .. (so many) that is the text; -1: none -/
def fIF (L : Nat → ByteArray) (s : ByteArray) : Nat → Nat → Int
  | _, 0 => -1
  | k, n + 1 => if s = L k then (k : Int) else fIF L s (k + 1) n
/-- the last name ahead of k that is the text; -1: none -/
def lIF (L : Nat → ByteArray) (s : ByteArray) : Nat → Int
  | 0 => -1
  | k + 1 => if L k = s then (k : Int) else lIF L s k
theorem fI_on {L : Nat → ByteArray} {s : ByteArray} {k : Nat} {R : Int} (hk : k < 7) (h : fIF L s k (7 - k) = R) (hg : s ≠ L k) : fIF L s (k + 1) (7 - (k + 1)) = R := by
  rw [show 7 - k = (7 - (k + 1)) + 1 by omega] at h
  unfold fIF at h
  rw [if_neg hg] at h
  exact h
theorem fI_hit {L : Nat → ByteArray} {s : ByteArray} {k : Nat} {R : Int} (hk : k < 7) (h : fIF L s k (7 - k) = R) (hg : s = L k) : (k : Int) = R := by
  rw [show 7 - k = (7 - (k + 1)) + 1 by omega] at h
  unfold fIF at h
  rw [if_pos hg] at h
  exact h
theorem fI_eq {L : Nat → ByteArray} (hL : ∀ i j, i < 7 → j < 7 → L i = L j → i = j) (s : ByteArray) : fIF L s 0 7 = lIF L s 7 ∧ -1 ≤ fIF L s 0 7 ∧ fIF L s 0 7 ≤ 6 := by
  have un : ∀ i j, i < 7 → j < 7 → s = L i → s = L j → i = j := fun i j hi hj h1 h2 => hL i j hi hj (h1.symm.trans h2)
  have c0 : L 0 = s ↔ s = L 0 := eq_comm
  have c1 : L 1 = s ↔ s = L 1 := eq_comm
  have c2 : L 2 = s ↔ s = L 2 := eq_comm
  have c3 : L 3 = s ↔ s = L 3 := eq_comm
  have c4 : L 4 = s ↔ s = L 4 := eq_comm
  have c5 : L 5 = s ↔ s = L 5 := eq_comm
  have c6 : L 6 = s ↔ s = L 6 := eq_comm
  have e1 : fIF L s 0 7 = if s = L 0 then 0 else if s = L 1 then 1 else if s = L 2 then 2 else if s = L 3 then 3 else if s = L 4 then 4 else if s = L 5 then 5 else if s = L 6 then 6 else -1 := rfl
  have e2 : lIF L s 7 = if s = L 6 then 6 else if s = L 5 then 5 else if s = L 4 then 4 else if s = L 3 then 3 else if s = L 2 then 2 else if s = L 1 then 1 else if s = L 0 then 0 else -1 := by
    show (if L 6 = s then ((6 : Nat) : Int) else if L 5 = s then ((5 : Nat) : Int) else if L 4 = s then ((4 : Nat) : Int) else if L 3 = s then ((3 : Nat) : Int) else if L 2 = s then ((2 : Nat) : Int) else if L 1 = s then ((1 : Nat) : Int) else if L 0 = s then ((0 : Nat) : Int) else -1) = _
    simp only [c0, c1, c2, c3, c4, c5, c6]
    rfl
  rw [e1, e2]
  clear e1 e2 c0 c1 c2 c3 c4 c5 c6
  by_cases p0 : s = L 0
  · have n1 : s ≠ L 1 := fun h => absurd (un 0 1 (by omega) (by omega) p0 h) (by omega)
    have n2 : s ≠ L 2 := fun h => absurd (un 0 2 (by omega) (by omega) p0 h) (by omega)
    have n3 : s ≠ L 3 := fun h => absurd (un 0 3 (by omega) (by omega) p0 h) (by omega)
    have n4 : s ≠ L 4 := fun h => absurd (un 0 4 (by omega) (by omega) p0 h) (by omega)
    have n5 : s ≠ L 5 := fun h => absurd (un 0 5 (by omega) (by omega) p0 h) (by omega)
    have n6 : s ≠ L 6 := fun h => absurd (un 0 6 (by omega) (by omega) p0 h) (by omega)
    rw [if_pos p0, if_neg n6, if_neg n5, if_neg n4, if_neg n3, if_neg n2, if_neg n1, if_pos p0]
    exact ⟨rfl, by omega, by omega⟩
  by_cases p1 : s = L 1
  · have n2 : s ≠ L 2 := fun h => absurd (un 1 2 (by omega) (by omega) p1 h) (by omega)
    have n3 : s ≠ L 3 := fun h => absurd (un 1 3 (by omega) (by omega) p1 h) (by omega)
    have n4 : s ≠ L 4 := fun h => absurd (un 1 4 (by omega) (by omega) p1 h) (by omega)
    have n5 : s ≠ L 5 := fun h => absurd (un 1 5 (by omega) (by omega) p1 h) (by omega)
    have n6 : s ≠ L 6 := fun h => absurd (un 1 6 (by omega) (by omega) p1 h) (by omega)
    rw [if_neg p0, if_pos p1, if_neg n6, if_neg n5, if_neg n4, if_neg n3, if_neg n2, if_pos p1]
    exact ⟨rfl, by omega, by omega⟩
  by_cases p2 : s = L 2
  · have n3 : s ≠ L 3 := fun h => absurd (un 2 3 (by omega) (by omega) p2 h) (by omega)
    have n4 : s ≠ L 4 := fun h => absurd (un 2 4 (by omega) (by omega) p2 h) (by omega)
    have n5 : s ≠ L 5 := fun h => absurd (un 2 5 (by omega) (by omega) p2 h) (by omega)
    have n6 : s ≠ L 6 := fun h => absurd (un 2 6 (by omega) (by omega) p2 h) (by omega)
    rw [if_neg p0, if_neg p1, if_pos p2, if_neg n6, if_neg n5, if_neg n4, if_neg n3, if_pos p2]
    exact ⟨rfl, by omega, by omega⟩
  by_cases p3 : s = L 3
  · have n4 : s ≠ L 4 := fun h => absurd (un 3 4 (by omega) (by omega) p3 h) (by omega)
    have n5 : s ≠ L 5 := fun h => absurd (un 3 5 (by omega) (by omega) p3 h) (by omega)
    have n6 : s ≠ L 6 := fun h => absurd (un 3 6 (by omega) (by omega) p3 h) (by omega)
    rw [if_neg p0, if_neg p1, if_neg p2, if_pos p3, if_neg n6, if_neg n5, if_neg n4, if_pos p3]
    exact ⟨rfl, by omega, by omega⟩
  by_cases p4 : s = L 4
  · have n5 : s ≠ L 5 := fun h => absurd (un 4 5 (by omega) (by omega) p4 h) (by omega)
    have n6 : s ≠ L 6 := fun h => absurd (un 4 6 (by omega) (by omega) p4 h) (by omega)
    rw [if_neg p0, if_neg p1, if_neg p2, if_neg p3, if_pos p4, if_neg n6, if_neg n5, if_pos p4]
    exact ⟨rfl, by omega, by omega⟩
  by_cases p5 : s = L 5
  · have n6 : s ≠ L 6 := fun h => absurd (un 5 6 (by omega) (by omega) p5 h) (by omega)
    rw [if_neg p0, if_neg p1, if_neg p2, if_neg p3, if_neg p4, if_pos p5, if_neg n6, if_pos p5]
    exact ⟨rfl, by omega, by omega⟩
  by_cases p6 : s = L 6
  · rw [if_neg p0, if_neg p1, if_neg p2, if_neg p3, if_neg p4, if_neg p5, if_pos p6, if_pos p6]
    exact ⟨rfl, by omega, by omega⟩
  rw [if_neg p0, if_neg p1, if_neg p2, if_neg p3, if_neg p4, if_neg p5, if_neg p6, if_neg p6, if_neg p5, if_neg p4, if_neg p3, if_neg p2, if_neg p1, if_neg p0]
  exact ⟨rfl, by omega, by omega⟩

theorem ba_same {a b : ByteArray} (h : a.toList = b.toList) : a = b := by
  rw [ByteArray.toList_eq, ByteArray.toList_eq] at h
  exact ByteArray.ext (Array.toList_inj.1 h)
theorem beq_str {a b : ByteArray} : (a.toList == b.toList) = decide (a = b) := by
  rw [Bool.eq_iff_iff, beq_iff_eq, decide_eq_true_eq]
  exact ⟨ba_same, fun h => by rw [h]⟩

set_option maxHeartbeats 1000000 in
theorem names_any (w : World) : Calls Try.prog 85 #[] w (Kept (.agg #[.string (nmU 0), .string (nmU 1), .string (nmU 2), .string (nmU 3), .string (nmU 4), .string (nmU 5), .string (nmU 6)]) w) := by
  go_enter Try.func85, Try.ntmps85
  go_wp2
  exact bodyPost_ret (by simp [results, Try.results85, go_sem]; exact ⟨rfl, rfl, rfl, rfl, rfl, rfl, rfl⟩) rfl ⟨rfl, (Below.refl _ _).alloc (Nat.le_refl _) _⟩
theorem rnames_any (w : World) : Calls Try.prog 44 #[] w fun e w' => e = .returned (.slice (some ⟨w.heap.size, 0, none⟩) 7 7) ∧ w' = w.alloc (.cells #[.string (nmU 0), .string (nmU 1), .string (nmU 2), .string (nmU 3), .string (nmU 4), .string (nmU 5), .string (nmU 6)] 9) := by
  go_enter Try.func44, Try.ntmps44
  go_wp2
  go_ret
  exact ⟨rfl, rfl⟩

/-- a unit's name -/
def uNm (u : Int) : ByteArray := if u < 0 ∨ 6 < u then ByteArray.empty else nmU u.toNat
set_option maxRecDepth 100000 in
set_option maxHeartbeats 4000000 in
theorem uname_any (u : Int) (w : World) : Calls Try.prog 46 #[.int .i64 u] w (Kept (.string (uNm u)) w) := by
  by_cases h : u < 0 ∨ 6 < u
  · have e : uNm u = ByteArray.empty := by unfold uNm; rw [if_pos h]
    rw [e]
    by_cases c : u < 0
    · have g1 : decide (u < 0) = true := decide_eq_true c
      clear h e
      go_enter Try.func46, Try.ntmps46
      go_wp2
      go_ret
      exact ⟨rfl, Below.refl _ _⟩
    · have g1 : decide (u < 0) = false := decide_eq_false c
      have g2 : decide (7 ≤ u) = true := decide_eq_true (by omega)
      clear h e
      go_enter Try.func46, Try.ntmps46
      go_wp2
      go_ret
      exact ⟨rfl, Below.refl _ _⟩
  · rcases u_ways (u := u) (by omega) (by omega) with rfl | rfl | rfl | rfl | rfl | rfl | rfl
    · show Calls _ _ _ _ (Kept (.string (nmU 0)) w)
      clear h
      obtain ⟨v0, v1, v2, v3, v4, v5, v6, hv⟩ : ∃ v0 v1 v2 v3 v4 v5 v6 : ByteArray, v0 = nmU 0 ∧ v1 = nmU 1 ∧ v2 = nmU 2 ∧ v3 = nmU 3 ∧ v4 = nmU 4 ∧ v5 = nmU 5 ∧ v6 = nmU 6 := ⟨_, _, _, _, _, _, _, rfl, rfl, rfl, rfl, rfl, rfl, rfl⟩
      have hn := names_any
      rw [← hv.1, ← hv.2.1, ← hv.2.2.1, ← hv.2.2.2.1, ← hv.2.2.2.2.1, ← hv.2.2.2.2.2.1, ← hv.2.2.2.2.2.2] at hn
      have hi : ∀ w, (Instr.index 104 (.agg #[.string v0, .string v1, .string v2, .string v3, .string v4, .string v5, .string v6]) (.int .i64 0)).run Try.prog w = .ok (.string v0) w := fun _ => by rfl
      have HV := Lib.hid hv
      have HN := Lib.hid hn
      clear hv hn
      go_enter Try.func46, Try.ntmps46
      go_wp2_with fail
      refine (HN.out _).mono ?_
      rintro e w1 ⟨rfl, hb⟩
      have HB := Lib.hid hb
      clear hb
      go_wp2
      go_ret
      exact ⟨ret_val (congrArg Value.string HV.out.1), HB.out⟩
    · show Calls _ _ _ _ (Kept (.string (nmU 1)) w)
      clear h
      obtain ⟨v0, v1, v2, v3, v4, v5, v6, hv⟩ : ∃ v0 v1 v2 v3 v4 v5 v6 : ByteArray, v0 = nmU 0 ∧ v1 = nmU 1 ∧ v2 = nmU 2 ∧ v3 = nmU 3 ∧ v4 = nmU 4 ∧ v5 = nmU 5 ∧ v6 = nmU 6 := ⟨_, _, _, _, _, _, _, rfl, rfl, rfl, rfl, rfl, rfl, rfl⟩
      have hn := names_any
      rw [← hv.1, ← hv.2.1, ← hv.2.2.1, ← hv.2.2.2.1, ← hv.2.2.2.2.1, ← hv.2.2.2.2.2.1, ← hv.2.2.2.2.2.2] at hn
      have hi : ∀ w, (Instr.index 104 (.agg #[.string v0, .string v1, .string v2, .string v3, .string v4, .string v5, .string v6]) (.int .i64 1)).run Try.prog w = .ok (.string v1) w := fun _ => by rfl
      have HV := Lib.hid hv
      have HN := Lib.hid hn
      clear hv hn
      go_enter Try.func46, Try.ntmps46
      go_wp2_with fail
      refine (HN.out _).mono ?_
      rintro e w1 ⟨rfl, hb⟩
      have HB := Lib.hid hb
      clear hb
      go_wp2
      go_ret
      exact ⟨ret_val (congrArg Value.string HV.out.2.1), HB.out⟩
    · show Calls _ _ _ _ (Kept (.string (nmU 2)) w)
      clear h
      obtain ⟨v0, v1, v2, v3, v4, v5, v6, hv⟩ : ∃ v0 v1 v2 v3 v4 v5 v6 : ByteArray, v0 = nmU 0 ∧ v1 = nmU 1 ∧ v2 = nmU 2 ∧ v3 = nmU 3 ∧ v4 = nmU 4 ∧ v5 = nmU 5 ∧ v6 = nmU 6 := ⟨_, _, _, _, _, _, _, rfl, rfl, rfl, rfl, rfl, rfl, rfl⟩
      have hn := names_any
      rw [← hv.1, ← hv.2.1, ← hv.2.2.1, ← hv.2.2.2.1, ← hv.2.2.2.2.1, ← hv.2.2.2.2.2.1, ← hv.2.2.2.2.2.2] at hn
      have hi : ∀ w, (Instr.index 104 (.agg #[.string v0, .string v1, .string v2, .string v3, .string v4, .string v5, .string v6]) (.int .i64 2)).run Try.prog w = .ok (.string v2) w := fun _ => by rfl
      have HV := Lib.hid hv
      have HN := Lib.hid hn
      clear hv hn
      go_enter Try.func46, Try.ntmps46
      go_wp2_with fail
      refine (HN.out _).mono ?_
      rintro e w1 ⟨rfl, hb⟩
      have HB := Lib.hid hb
      clear hb
      go_wp2
      go_ret
      exact ⟨ret_val (congrArg Value.string HV.out.2.2.1), HB.out⟩
    · show Calls _ _ _ _ (Kept (.string (nmU 3)) w)
      clear h
      obtain ⟨v0, v1, v2, v3, v4, v5, v6, hv⟩ : ∃ v0 v1 v2 v3 v4 v5 v6 : ByteArray, v0 = nmU 0 ∧ v1 = nmU 1 ∧ v2 = nmU 2 ∧ v3 = nmU 3 ∧ v4 = nmU 4 ∧ v5 = nmU 5 ∧ v6 = nmU 6 := ⟨_, _, _, _, _, _, _, rfl, rfl, rfl, rfl, rfl, rfl, rfl⟩
      have hn := names_any
      rw [← hv.1, ← hv.2.1, ← hv.2.2.1, ← hv.2.2.2.1, ← hv.2.2.2.2.1, ← hv.2.2.2.2.2.1, ← hv.2.2.2.2.2.2] at hn
      have hi : ∀ w, (Instr.index 104 (.agg #[.string v0, .string v1, .string v2, .string v3, .string v4, .string v5, .string v6]) (.int .i64 3)).run Try.prog w = .ok (.string v3) w := fun _ => by rfl
      have HV := Lib.hid hv
      have HN := Lib.hid hn
      clear hv hn
      go_enter Try.func46, Try.ntmps46
      go_wp2_with fail
      refine (HN.out _).mono ?_
      rintro e w1 ⟨rfl, hb⟩
      have HB := Lib.hid hb
      clear hb
      go_wp2
      go_ret
      exact ⟨ret_val (congrArg Value.string HV.out.2.2.2.1), HB.out⟩
    · show Calls _ _ _ _ (Kept (.string (nmU 4)) w)
      clear h
      obtain ⟨v0, v1, v2, v3, v4, v5, v6, hv⟩ : ∃ v0 v1 v2 v3 v4 v5 v6 : ByteArray, v0 = nmU 0 ∧ v1 = nmU 1 ∧ v2 = nmU 2 ∧ v3 = nmU 3 ∧ v4 = nmU 4 ∧ v5 = nmU 5 ∧ v6 = nmU 6 := ⟨_, _, _, _, _, _, _, rfl, rfl, rfl, rfl, rfl, rfl, rfl⟩
      have hn := names_any
      rw [← hv.1, ← hv.2.1, ← hv.2.2.1, ← hv.2.2.2.1, ← hv.2.2.2.2.1, ← hv.2.2.2.2.2.1, ← hv.2.2.2.2.2.2] at hn
      have hi : ∀ w, (Instr.index 104 (.agg #[.string v0, .string v1, .string v2, .string v3, .string v4, .string v5, .string v6]) (.int .i64 4)).run Try.prog w = .ok (.string v4) w := fun _ => by rfl
      have HV := Lib.hid hv
      have HN := Lib.hid hn
      clear hv hn
      go_enter Try.func46, Try.ntmps46
      go_wp2_with fail
      refine (HN.out _).mono ?_
      rintro e w1 ⟨rfl, hb⟩
      have HB := Lib.hid hb
      clear hb
      go_wp2
      go_ret
      exact ⟨ret_val (congrArg Value.string HV.out.2.2.2.2.1), HB.out⟩
    · show Calls _ _ _ _ (Kept (.string (nmU 5)) w)
      clear h
      obtain ⟨v0, v1, v2, v3, v4, v5, v6, hv⟩ : ∃ v0 v1 v2 v3 v4 v5 v6 : ByteArray, v0 = nmU 0 ∧ v1 = nmU 1 ∧ v2 = nmU 2 ∧ v3 = nmU 3 ∧ v4 = nmU 4 ∧ v5 = nmU 5 ∧ v6 = nmU 6 := ⟨_, _, _, _, _, _, _, rfl, rfl, rfl, rfl, rfl, rfl, rfl⟩
      have hn := names_any
      rw [← hv.1, ← hv.2.1, ← hv.2.2.1, ← hv.2.2.2.1, ← hv.2.2.2.2.1, ← hv.2.2.2.2.2.1, ← hv.2.2.2.2.2.2] at hn
      have hi : ∀ w, (Instr.index 104 (.agg #[.string v0, .string v1, .string v2, .string v3, .string v4, .string v5, .string v6]) (.int .i64 5)).run Try.prog w = .ok (.string v5) w := fun _ => by rfl
      have HV := Lib.hid hv
      have HN := Lib.hid hn
      clear hv hn
      go_enter Try.func46, Try.ntmps46
      go_wp2_with fail
      refine (HN.out _).mono ?_
      rintro e w1 ⟨rfl, hb⟩
      have HB := Lib.hid hb
      clear hb
      go_wp2
      go_ret
      exact ⟨ret_val (congrArg Value.string HV.out.2.2.2.2.2.1), HB.out⟩
    · show Calls _ _ _ _ (Kept (.string (nmU 6)) w)
      clear h
      obtain ⟨v0, v1, v2, v3, v4, v5, v6, hv⟩ : ∃ v0 v1 v2 v3 v4 v5 v6 : ByteArray, v0 = nmU 0 ∧ v1 = nmU 1 ∧ v2 = nmU 2 ∧ v3 = nmU 3 ∧ v4 = nmU 4 ∧ v5 = nmU 5 ∧ v6 = nmU 6 := ⟨_, _, _, _, _, _, _, rfl, rfl, rfl, rfl, rfl, rfl, rfl⟩
      have hn := names_any
      rw [← hv.1, ← hv.2.1, ← hv.2.2.1, ← hv.2.2.2.1, ← hv.2.2.2.2.1, ← hv.2.2.2.2.2.1, ← hv.2.2.2.2.2.2] at hn
      have hi : ∀ w, (Instr.index 104 (.agg #[.string v0, .string v1, .string v2, .string v3, .string v4, .string v5, .string v6]) (.int .i64 6)).run Try.prog w = .ok (.string v6) w := fun _ => by rfl
      have HV := Lib.hid hv
      have HN := Lib.hid hn
      clear hv hn
      go_enter Try.func46, Try.ntmps46
      go_wp2_with fail
      refine (HN.out _).mono ?_
      rintro e w1 ⟨rfl, hb⟩
      have HB := Lib.hid hb
      clear hb
      go_wp2
      go_ret
      exact ⟨ret_val (congrArg Value.string HV.out.2.2.2.2.2.2), HB.out⟩

set_option maxHeartbeats 2000000 in
theorem sindex_any (L : Nat → ByteArray) (s : ByteArray) (B c : Nat) (w : World) (h : ∀ k, k < 7 → w.cell? ⟨B, k, none⟩ = some (.string (L k))) :
    Calls Try.prog 86 #[.slice (some ⟨B, 0, none⟩) 7 c, .string s] w fun e w' => e = .returned (.int .i64 (fIF L s 0 7)) ∧ w = w' := by
  obtain ⟨R, hR⟩ : ∃ R, R = fIF L s 0 7 := ⟨_, rfl⟩
  rw [← hR]
  have HR := Lib.hid hR
  have HL := Lib.hid h
  clear hR h
  go_enter Try.func86, Try.ntmps86
  go_wp2_with fail
  go_loop [8] (fun i => ∃ k : Nat, k ≤ 7 ∧ i = .int .i64 k ∧ Hid (fIF L s k (7 - k) = R)) (fun i => 7 - (intOf i).toNat)
  case atStart => exact ⟨0, by omega, rfl, Lib.hid HR.out.symm⟩
  case round =>
    obtain ⟨k, hk, rfl, HC⟩ := hrel
    by_cases hlt : k < 7
    · have hc := HL.out k hlt
      have bl := World.block_lt_of_cell? _ _ hc
      have on := fI_on hlt HC.out
      have hit := fI_hit hlt HC.out
      obtain ⟨x, hx⟩ : ∃ x, x = L k := ⟨_, rfl⟩
      rw [← hx] at hc on hit
      have HON := Lib.hid on
      have HIT := Lib.hid hit
      clear hx on hit
      by_cases e : s = x
      · have E := Lib.hid (HIT.out e)
        have e1 : (s.toList == x.toList) = true := by rw [beq_str, decide_eq_true e]
        clear e
        go_wp2
        go_ret
        exact ⟨ret_int E.out, rfl⟩
      · have E := Lib.hid (HON.out e)
        have e1 : (s.toList == x.toList) = false := by rw [beq_str, decide_eq_false e]
        clear e
        go_wp2
        go_round
        case rel => exact ⟨k + 1, by omega, by go_num, E⟩
        case measure => simp [intOf]; omega
    · obtain rfl : k = 7 := by omega
      have E : Hid (-1 = R) := Lib.hid HC.out
      go_wp2
      go_ret
      exact ⟨ret_int E.out, rfl⟩

theorem str_cells (w : World) (t : TypeId) (k : Nat) (hk : k < 7) : (w.alloc (.cells #[.string (nmU 0), .string (nmU 1), .string (nmU 2), .string (nmU 3), .string (nmU 4), .string (nmU 5), .string (nmU 6)] t)).cell? ⟨w.heap.size, k, none⟩ = some (.string (nmU k)) := by
  rw [World.cell?_alloc_at _ _ _ _ rfl]
  match k, hk with
  | 0, _ => rfl
  | 1, _ => rfl
  | 2, _ => rfl
  | 3, _ => rfl
  | 4, _ => rfl
  | 5, _ => rfl
  | 6, _ => rfl

set_option maxHeartbeats 2000000 in
theorem uof_any (s : ByteArray) (w : World) : Calls Try.prog 45 #[.string s] w (Kept (.tuple #[.int .i64 (max (fIF nmU s 0 7) 0), .bool (decide (0 ≤ fIF nmU s 0 7))]) w) := by
  have hb3 := fI_eq nmU_inj s
  have hix := fun (B c : Nat) (W : World) => sindex_any nmU s B c W
  have hsc := str_cells
  have hn := names_any
  obtain ⟨I, hI⟩ : ∃ I, I = fIF nmU s 0 7 := ⟨_, rfl⟩
  rw [← hI] at hb3 ⊢
  simp only [← hI] at hix
  have hlo := hb3.2.1
  have hhi := hb3.2.2
  obtain ⟨v0, v1, v2, v3, v4, v5, v6, hv⟩ : ∃ v0 v1 v2 v3 v4 v5 v6 : ByteArray, v0 = nmU 0 ∧ v1 = nmU 1 ∧ v2 = nmU 2 ∧ v3 = nmU 3 ∧ v4 = nmU 4 ∧ v5 = nmU 5 ∧ v6 = nmU 6 := ⟨_, _, _, _, _, _, _, rfl, rfl, rfl, rfl, rfl, rfl, rfl⟩
  rw [← hv.1, ← hv.2.1, ← hv.2.2.1, ← hv.2.2.2.1, ← hv.2.2.2.2.1, ← hv.2.2.2.2.2.1, ← hv.2.2.2.2.2.2] at hn hsc
  have HN := Lib.hid hn
  have HIX := Lib.hid hix
  have HSC := Lib.hid hsc
  clear hb3 hix hsc hn hI hv
  by_cases c : 0 ≤ I
  · rw [decide_eq_true c, Int.max_eq_left c]
    go_enter Try.func45, Try.ntmps45
    go_wp2_with fail
    refine (HN.out _).mono ?_
    rintro e w1 ⟨rfl, hb⟩
    have HB := Lib.hid hb
    clear hb
    go_wp2_with fail
    refine (HIX.out _ _ _ (HSC.out w1 _)).mono ?_
    rintro e w' ⟨rfl, rfl⟩
    go_wp2
    go_ret2
    exact ⟨rfl, HB.out.alloc HB.out.size _⟩
  · have e : I = -1 := by omega
    subst e
    rw [decide_eq_false c, show max (-1 : Int) 0 = 0 from rfl]
    go_enter Try.func45, Try.ntmps45
    go_wp2_with fail
    refine (HN.out _).mono ?_
    rintro e w1 ⟨rfl, hb⟩
    have HB := Lib.hid hb
    clear hb
    go_wp2_with fail
    refine (HIX.out _ _ _ (HSC.out w1 _)).mono ?_
    rintro e w' ⟨rfl, rfl⟩
    go_wp2
    go_ret2
    exact ⟨rfl, HB.out.alloc HB.out.size _⟩
end Go.Proofs.Ytnoomlakgfdaeaa
