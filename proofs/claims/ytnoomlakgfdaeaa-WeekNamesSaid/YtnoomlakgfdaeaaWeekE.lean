/- Contracts of package week's names, Name, Of, of the reference's Names. -/
import Derived.Test.YtnoomlakgfdaeaaWeekD
namespace Go.Proofs.Ytnoomlakgfdaeaa
open Go.RowKit

/-- the weekdays' names -/
def nmW (k : Nat) : ByteArray := match k with
  | 0 => ⟨#[77, 111, 110]⟩
  | 1 => ⟨#[84, 117, 101]⟩
  | 2 => ⟨#[87, 101, 100]⟩
  | 3 => ⟨#[84, 104, 117]⟩
  | 4 => ⟨#[70, 114, 105]⟩
  | 5 => ⟨#[83, 97, 116]⟩
  | _ => ⟨#[83, 117, 110]⟩
def smW (k : Nat) : ByteArray := sml (nmW k)
theorem smW_inj : ∀ i j, i < 7 → j < 7 → smW i = smW j → i = j := by
  have key : ∀ i : Fin 7, ∀ j : Fin 7, (smW i).data.toList = (smW j).data.toList → i = j := by decide
  intro i j hi hj h
  have := key ⟨i, hi⟩ ⟨j, hj⟩ (by rw [h])
  exact Fin.mk.inj this
theorem nmW_size (k : Nat) : (nmW k).size = 3 := by
  unfold nmW
  split <;> rfl
/-- the first name of k, k + 1, .. (so many) that is the text; -1: none -/
def fIW (L : Nat → ByteArray) (s : ByteArray) : Nat → Nat → Int
  | _, 0 => -1
  | k, n + 1 => if s = L k then (k : Int) else fIW L s (k + 1) n
/-- the last name ahead of k that is the text; -1: none -/
def lIW (L : Nat → ByteArray) (s : ByteArray) : Nat → Int
  | 0 => -1
  | k + 1 => if L k = s then (k : Int) else lIW L s k
theorem lIW_succ (L : Nat → ByteArray) (s : ByteArray) (k : Nat) : lIW L s (k + 1) = if L k = s then (k : Int) else lIW L s k := rfl
theorem fW_on {L : Nat → ByteArray} {s : ByteArray} {k : Nat} {R : Int} (hk : k < 7) (h : fIW L s k (7 - k) = R) (hg : s ≠ L k) : fIW L s (k + 1) (7 - (k + 1)) = R := by
  rw [show 7 - k = (7 - (k + 1)) + 1 by omega] at h
  unfold fIW at h
  rw [if_neg hg] at h
  exact h
theorem fW_hit {L : Nat → ByteArray} {s : ByteArray} {k : Nat} {R : Int} (hk : k < 7) (h : fIW L s k (7 - k) = R) (hg : s = L k) : (k : Int) = R := by
  rw [show 7 - k = (7 - (k + 1)) + 1 by omega] at h
  unfold fIW at h
  rw [if_pos hg] at h
  exact h
theorem fW_eq {L : Nat → ByteArray} (hL : ∀ i j, i < 7 → j < 7 → L i = L j → i = j) (s : ByteArray) : fIW L s 0 7 = lIW L s 7 ∧ -1 ≤ fIW L s 0 7 ∧ fIW L s 0 7 ≤ 6 := by
  have un : ∀ i j, i < 7 → j < 7 → s = L i → s = L j → i = j := fun i j hi hj h1 h2 => hL i j hi hj (h1.symm.trans h2)
  have c0 : L 0 = s ↔ s = L 0 := eq_comm
  have c1 : L 1 = s ↔ s = L 1 := eq_comm
  have c2 : L 2 = s ↔ s = L 2 := eq_comm
  have c3 : L 3 = s ↔ s = L 3 := eq_comm
  have c4 : L 4 = s ↔ s = L 4 := eq_comm
  have c5 : L 5 = s ↔ s = L 5 := eq_comm
  have c6 : L 6 = s ↔ s = L 6 := eq_comm
  have e1 : fIW L s 0 7 = if s = L 0 then 0 else if s = L 1 then 1 else if s = L 2 then 2 else if s = L 3 then 3 else if s = L 4 then 4 else if s = L 5 then 5 else if s = L 6 then 6 else -1 := rfl
  have e2 : lIW L s 7 = if s = L 6 then 6 else if s = L 5 then 5 else if s = L 4 then 4 else if s = L 3 then 3 else if s = L 2 then 2 else if s = L 1 then 1 else if s = L 0 then 0 else -1 := by
    show (if L 6 = s then ((6 : Nat) : Int) else if L 5 = s then ((5 : Nat) : Int) else if L 4 = s then ((4 : Nat) : Int) else if L 3 = s then ((3 : Nat) : Int) else if L 2 = s then ((2 : Nat) : Int) else if L 1 = s then ((1 : Nat) : Int) else if L 0 = s then ((0 : Nat) : Int) else -1) = _
    simp only [c0, c1, c2, c3, c4, c5, c6]
    rfl
  rw [e1, e2]
  clear e1 e2 c0 c1 c2 c3 c4 c5 c6
  by_cases p0 : s = L 0
  · have n1 : s ≠ L 1 := fun h => absurd (un 0 1 (by omega) (by omega) p0 h) (by omega)
    have n2 : s ≠ L 2 := fun h => absurd (un 0 2 (by omega) (by omega) p0 h) (by omega)
    have n3 : s ≠ L 3 := fun h => absurd (un 0 3 (by omega) (by omega) p0 h) (by omega)
    have n4 : s ≠ L 4 := fun h => absurd (un 0 4 (by omega) (by omega) p0 h) (by omega)
    have n5 : s ≠ L 5 := fun h => absurd (un 0 5 (by omega) (by omega) p0 h) (by omega)
    have n6 : s ≠ L 6 := fun h => absurd (un 0 6 (by omega) (by omega) p0 h) (by omega)
    rw [if_pos p0, if_neg n6, if_neg n5, if_neg n4, if_neg n3, if_neg n2, if_neg n1, if_pos p0]
    exact ⟨rfl, by omega, by omega⟩
  by_cases p1 : s = L 1
  · have n2 : s ≠ L 2 := fun h => absurd (un 1 2 (by omega) (by omega) p1 h) (by omega)
    have n3 : s ≠ L 3 := fun h => absurd (un 1 3 (by omega) (by omega) p1 h) (by omega)
    have n4 : s ≠ L 4 := fun h => absurd (un 1 4 (by omega) (by omega) p1 h) (by omega)
    have n5 : s ≠ L 5 := fun h => absurd (un 1 5 (by omega) (by omega) p1 h) (by omega)
    have n6 : s ≠ L 6 := fun h => absurd (un 1 6 (by omega) (by omega) p1 h) (by omega)
    rw [if_neg p0, if_pos p1, if_neg n6, if_neg n5, if_neg n4, if_neg n3, if_neg n2, if_pos p1]
    exact ⟨rfl, by omega, by omega⟩
  by_cases p2 : s = L 2
  · have n3 : s ≠ L 3 := fun h => absurd (un 2 3 (by omega) (by omega) p2 h) (by omega)
    have n4 : s ≠ L 4 := fun h => absurd (un 2 4 (by omega) (by omega) p2 h) (by omega)
    have n5 : s ≠ L 5 := fun h => absurd (un 2 5 (by omega) (by omega) p2 h) (by omega)
    have n6 : s ≠ L 6 := fun h => absurd (un 2 6 (by omega) (by omega) p2 h) (by omega)
    rw [if_neg p0, if_neg p1, if_pos p2, if_neg n6, if_neg n5, if_neg n4, if_neg n3, if_pos p2]
    exact ⟨rfl, by omega, by omega⟩
  by_cases p3 : s = L 3
  · have n4 : s ≠ L 4 := fun h => absurd (un 3 4 (by omega) (by omega) p3 h) (by omega)
    have n5 : s ≠ L 5 := fun h => absurd (un 3 5 (by omega) (by omega) p3 h) (by omega)
    have n6 : s ≠ L 6 := fun h => absurd (un 3 6 (by omega) (by omega) p3 h) (by omega)
    rw [if_neg p0, if_neg p1, if_neg p2, if_pos p3, if_neg n6, if_neg n5, if_neg n4, if_pos p3]
    exact ⟨rfl, by omega, by omega⟩
  by_cases p4 : s = L 4
  · have n5 : s ≠ L 5 := fun h => absurd (un 4 5 (by omega) (by omega) p4 h) (by omega)
    have n6 : s ≠ L 6 := fun h => absurd (un 4 6 (by omega) (by omega) p4 h) (by omega)
    rw [if_neg p0, if_neg p1, if_neg p2, if_neg p3, if_pos p4, if_neg n6, if_neg n5, if_pos p4]
    exact ⟨rfl, by omega, by omega⟩
  by_cases p5 : s = L 5
  · have n6 : s ≠ L 6 := fun h => absurd (un 5 6 (by omega) (by omega) p5 h) (by omega)
    rw [if_neg p0, if_neg p1, if_neg p2, if_neg p3, if_neg p4, if_pos p5, if_neg n6, if_pos p5]
    exact ⟨rfl, by omega, by omega⟩
  by_cases p6 : s = L 6
  · rw [if_neg p0, if_neg p1, if_neg p2, if_neg p3, if_neg p4, if_neg p5, if_pos p6, if_pos p6]
    exact ⟨rfl, by omega, by omega⟩
  rw [if_neg p0, if_neg p1, if_neg p2, if_neg p3, if_neg p4, if_neg p5, if_neg p6, if_neg p6, if_neg p5, if_neg p4, if_neg p3, if_neg p2, if_neg p1, if_neg p0]
  exact ⟨rfl, by omega, by omega⟩
theorem lW_lo (L : Nat → ByteArray) (s : ByteArray) (k : Nat) : -1 ≤ lIW L s k ∧ lIW L s k < k := by
  induction k with
  | zero => exact ⟨Int.le_refl _, by show (-1 : Int) < 0; decide⟩
  | succ k ih =>
    rw [lIW_succ]
    split <;> omega
theorem fW_at {L : Nat → ByteArray} (hL : ∀ i j, i < 7 → j < 7 → L i = L j → i = j) (j : Nat) (hj : j < 7) : fIW L (L j) 0 7 = j := by
  have key : ∀ n k, k ≤ j → j < k + n → k + n ≤ 7 → fIW L (L j) k n = j := by
    intro n
    induction n with
    | zero => intro k h1 h2; omega
    | succ n ih =>
      intro k h1 h2 h3
      unfold fIW
      by_cases e : j = k
      · subst e
        rw [if_pos rfl]
      · rw [if_neg (fun h => e (hL j k hj (by omega) h))]
        exact ih (k + 1) (by omega) (by omega) (by omega)
  exact key 7 0 (by omega) (by omega) (by omega)
theorem fW_none : fIW smW (sml ⟨#[]⟩) 0 7 = -1 := by
  have h : ∀ k, k < 7 → sml ⟨#[]⟩ ≠ smW k := by
    intro k hk e
    have key : ∀ k : Fin 7, (sml ⟨#[]⟩).data.toList ≠ (smW k).data.toList := by decide
    exact key ⟨k, hk⟩ (by rw [e])
  unfold fIW fIW fIW fIW fIW fIW fIW fIW
  rw [if_neg (h 0 (by omega)), if_neg (h (0 + 1) (by omega)), if_neg (h (0 + 1 + 1) (by omega)), if_neg (h (0 + 1 + 1 + 1) (by omega)), if_neg (h (0 + 1 + 1 + 1 + 1) (by omega)), if_neg (h (0 + 1 + 1 + 1 + 1 + 1) (by omega)), if_neg (h (0 + 1 + 1 + 1 + 1 + 1 + 1) (by omega))]
theorem bw_same {a b : ByteArray} (h : a.toList = b.toList) : a = b := by
  rw [ByteArray.toList_eq, ByteArray.toList_eq] at h
  exact ByteArray.ext (Array.toList_inj.1 h)
theorem bw_str {a b : ByteArray} : (a.toList == b.toList) = decide (a = b) := by
  rw [Bool.eq_iff_iff, beq_iff_eq, decide_eq_true_eq]
  exact ⟨bw_same, fun h => by rw [h]⟩

set_option maxHeartbeats 1000000 in
theorem wnames_any (w : World) : Calls Try.prog 89 #[] w (Kept (.agg #[.string (nmW 0), .string (nmW 1), .string (nmW 2), .string (nmW 3), .string (nmW 4), .string (nmW 5), .string (nmW 6)]) w) := by
  go_enter Try.func89, Try.ntmps89
  go_wp2
  exact bodyPost_ret (by simp [results, Try.results89, go_sem]; exact ⟨rfl, rfl, rfl, rfl, rfl, rfl, rfl⟩) rfl ⟨rfl, (Below.refl _ _).alloc (Nat.le_refl _) _⟩
theorem wcells (w : World) (t : TypeId) (k : Nat) (hk : k < 7) : (w.alloc (.cells #[.string (nmW 0), .string (nmW 1), .string (nmW 2), .string (nmW 3), .string (nmW 4), .string (nmW 5), .string (nmW 6)] t)).cell? ⟨w.heap.size, k, none⟩ = some (.string (nmW k)) := by
  rw [World.cell?_alloc_at _ _ _ _ rfl]
  match k, hk with
  | 0, _ => rfl
  | 1, _ => rfl
  | 2, _ => rfl
  | 3, _ => rfl
  | 4, _ => rfl
  | 5, _ => rfl
  | 6, _ => rfl
theorem rwnames_any (w : World) : Calls Try.prog 64 #[] w fun e w' => e = .returned (.slice (some ⟨w.heap.size, 0, none⟩) 7 7) ∧ Below w.heap.size w w' ∧ ∀ k, k < 7 → w'.cell? ⟨w.heap.size, k, none⟩ = some (.string (nmW k)) := by
  have hfin : ∀ w', w' = w.alloc (.cells #[.string (nmW 0), .string (nmW 1), .string (nmW 2), .string (nmW 3), .string (nmW 4), .string (nmW 5), .string (nmW 6)] 9) → Below w.heap.size w w' ∧ ∀ k, k < 7 → w'.cell? ⟨w.heap.size, k, none⟩ = some (.string (nmW k)) := fun w' hw => ⟨hw ▸ (Below.refl _ _).alloc (Nat.le_refl _) _, fun k hk => hw ▸ wcells w _ k hk⟩
  have HF := Lib.hid hfin
  clear hfin
  go_enter Try.func64, Try.ntmps64
  go_wp2
  go_ret
  exact ⟨rfl, HF.out _ rfl⟩

set_option maxRecDepth 100000 in
theorem widx (k : Nat) (hk : k < 7) (w : World) : (Instr.index 104 (.agg #[.string (nmW 0), .string (nmW 1), .string (nmW 2), .string (nmW 3), .string (nmW 4), .string (nmW 5), .string (nmW 6)]) (.int .i64 (k : Int))).run Try.prog w = .ok (.string (nmW k)) w := by
  match k, hk with
  | 0, _ => rfl
  | 1, _ => rfl
  | 2, _ => rfl
  | 3, _ => rfl
  | 4, _ => rfl
  | 5, _ => rfl
  | 6, _ => rfl

theorem w7_ways {d : Int} (h1 : 1 ≤ d) (h2 : d ≤ 7) : d = 1 ∨ d = 2 ∨ d = 3 ∨ d = 4 ∨ d = 5 ∨ d = 6 ∨ d = 7 := by omega
set_option maxHeartbeats 2000000 in
theorem wname_no (d : Int) (w : World) (h : d < 1 ∨ 7 < d) : Calls Try.prog 67 #[.int .i64 d] w (Kept (.string ⟨#[]⟩) w) := by
  by_cases c : d < 1
  · have g1 : decide (d < 1) = true := decide_eq_true c
    clear h
    go_enter Try.func67, Try.ntmps67
    go_wp2
    go_ret
    exact ⟨rfl, Below.refl _ _⟩
  · have g1 : decide (d < 1) = false := decide_eq_false c
    have g2 : decide (7 < d) = true := decide_eq_true (by omega)
    clear h
    go_enter Try.func67, Try.ntmps67
    go_wp2
    go_ret
    exact ⟨rfl, Below.refl _ _⟩
set_option maxRecDepth 100000 in
set_option maxHeartbeats 4000000 in
theorem wname_yes (j : Nat) (hj : j < 7) (w : World) : Calls Try.prog 67 #[.int .i64 ((j : Int) + 1)] w (Kept (.string (nmW j)) w) := by
  have hn := wnames_any
  have hi := widx j hj
  obtain ⟨v0, v1, v2, v3, v4, v5, v6, hv⟩ : ∃ v0 v1 v2 v3 v4 v5 v6 : ByteArray, v0 = nmW 0 ∧ v1 = nmW 1 ∧ v2 = nmW 2 ∧ v3 = nmW 3 ∧ v4 = nmW 4 ∧ v5 = nmW 5 ∧ v6 = nmW 6 := ⟨_, _, _, _, _, _, _, rfl, rfl, rfl, rfl, rfl, rfl, rfl⟩
  obtain ⟨N, hN⟩ : ∃ N, N = nmW j := ⟨_, rfl⟩
  simp only [← hN] at hi
  rw [← hN]
  simp only [← hv.1, ← hv.2.1, ← hv.2.2.1, ← hv.2.2.2.1, ← hv.2.2.2.2.1, ← hv.2.2.2.2.2.1, ← hv.2.2.2.2.2.2] at hn hi
  have HN := Lib.hid hn
  clear hn hv hN
  go_enter Try.func67, Try.ntmps67
  go_wp2_with fail
  refine (HN.out _).mono ?_
  rintro e w1 ⟨rfl, hb⟩
  have HB := Lib.hid hb
  clear hb
  go_wp2
  go_ret
  exact ⟨rfl, HB.out⟩

/-- which weekday a name is -/
def wofV (I : Int) : Value := if I < 0 then .tuple #[.int .i64 0, .bool false] else .tuple #[.int .i64 (I + 1), .bool true]
set_option maxRecDepth 100000 in
set_option maxHeartbeats 4000000 in
theorem wof_any (s : ByteArray) (w : World) (hs : s.size ≤ 9223372036854775807) : Calls Try.prog 66 #[.string s] w (Kept (wofV (fIW smW (sml s) 0 7)) w) := by
  have hn := wnames_any
  have hi := widx
  have hsm := wsmall_any s
  have hsk := fun (k : Nat) (W : World) => wsmall_any (nmW k) W (by rw [nmW_size]; omega)
  obtain ⟨R, hR⟩ : ∃ R, R = fIW smW (sml s) 0 7 := ⟨_, rfl⟩
  rw [← hR]
  obtain ⟨ss, hss⟩ : ∃ x, x = sml s := ⟨_, rfl⟩
  rw [← hss] at hR
  simp only [← hss] at hsm
  have HR := Lib.hid hR
  obtain ⟨v0, v1, v2, v3, v4, v5, v6, hv⟩ : ∃ v0 v1 v2 v3 v4 v5 v6 : ByteArray, v0 = nmW 0 ∧ v1 = nmW 1 ∧ v2 = nmW 2 ∧ v3 = nmW 3 ∧ v4 = nmW 4 ∧ v5 = nmW 5 ∧ v6 = nmW 6 := ⟨_, _, _, _, _, _, _, rfl, rfl, rfl, rfl, rfl, rfl, rfl⟩
  simp only [← hv.1, ← hv.2.1, ← hv.2.2.1, ← hv.2.2.2.1, ← hv.2.2.2.2.1, ← hv.2.2.2.2.2.1, ← hv.2.2.2.2.2.2] at hn hi
  have HN := Lib.hid hn
  have HI := Lib.hid hi
  have HSM := Lib.hid hsm
  have HSK := Lib.hid hsk
  clear hn hv hi hsm hsk hR hss
  go_enter Try.func66, Try.ntmps66
  go_wp2_with fail
  refine (HN.out _).mono ?_
  rintro e w1 ⟨rfl, hb⟩
  have HB := Lib.hid hb
  clear hb
  go_wp2_with fail
  go_loopw [7] (fun i wr => ∃ k : Nat, k ≤ 7 ∧ i = .int .i64 k ∧ Hid (fIW smW ss k (7 - k) = R) ∧ Hid (Below w.heap.size w wr)) (fun i _ => 7 - (intOf i).toNat)
  case atStart => exact ⟨0, by omega, rfl, Lib.hid HR.out.symm, HB⟩
  case round =>
    obtain ⟨k, hk, rfl, HC, HW⟩ := hrel
    by_cases hlt : k < 7
    · have hix := HI.out k hlt
      have hsk := HSK.out k
      have on := fW_on hlt HC.out
      have hit := fW_hit hlt HC.out
      rw [show smW k = sml (nmW k) from rfl] at on hit
      obtain ⟨x, hx⟩ : ∃ x, x = nmW k := ⟨_, rfl⟩
      simp only [← hx] at hix hsk on hit
      obtain ⟨sx, hsx⟩ : ∃ y, y = sml x := ⟨_, rfl⟩
      simp only [← hsx] at hsk on hit
      have HSX := Lib.hid hsk
      have HON := Lib.hid on
      have HIT := Lib.hid hit
      clear hx hsx hsk on hit
      go_wp2_with fail
      refine (HSM.out _ hs).mono ?_
      rintro e w2 ⟨rfl, hb⟩
      have HW2 := Lib.hid (below_on HW.out hb)
      clear hb
      go_wp2_with fail
      refine (HSX.out _).mono ?_
      rintro e w3 ⟨rfl, hb⟩
      have HW3 := Lib.hid (below_on HW2.out hb)
      clear hb
      by_cases e : ss = sx
      · have E := Lib.hid (HIT.out e)
        have e1 : (ss.toList == sx.toList) = true := by rw [bw_str, decide_eq_true e]
        have HV : Hid (.tuple #[.int .i64 ((k : Int) + 1), .bool true] = wofV R) := Lib.hid (by rw [← E.out]; unfold wofV; rw [if_neg (by omega)])
        clear e
        go_wp2
        go_ret2
        exact ⟨ret_val HV.out, HW3.out⟩
      · have E := Lib.hid (HON.out e)
        have e1 : (ss.toList == sx.toList) = false := by rw [bw_str, decide_eq_false e]
        clear e
        go_wp2
        go_roundw
        case rel => exact ⟨k + 1, by omega, by go_num, E, HW3⟩
        case measure => simp [intOf]; omega
    · obtain rfl : k = 7 := by omega
      have E : Hid (-1 = R) := Lib.hid HC.out
      have HV : Hid (.tuple #[.int .i64 0, .bool false] = wofV R) := Lib.hid (by rw [← E.out]; rfl)
      go_wp2
      go_ret2
      exact ⟨ret_val HV.out, HW.out⟩
end Go.Proofs.Ytnoomlakgfdaeaa
