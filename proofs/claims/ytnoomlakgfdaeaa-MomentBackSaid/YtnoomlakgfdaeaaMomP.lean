/- Plain: the number of digits; a text in short there and back. No program in sight. -/
import Derived.Test.YtnoomlakgfdaeaaMomL
namespace Go.Proofs.Ytnoomlakgfdaeaa
open Go.RowKit

/-- the number of digits -/
def nm (l : List UInt8) : Int := l.foldl (fun n c => 10 * n + ((c.toNat : Int) - 48)) 0
def isD (c : UInt8) : Prop := 48 ≤ c.toNat ∧ c.toNat ≤ 57
theorem nm_snoc (l : List UInt8) (c : UInt8) : nm (l ++ [c]) = 10 * nm l + ((c.toNat : Int) - 48) := by
  unfold nm
  rw [List.foldl_append]
  rfl
theorem nm_bd (l : List UInt8) (h : ∀ j, (hj : j < l.length) → isD l[j]) (k : Nat) (hk : k ≤ l.length) : 0 ≤ nm (l.take k) ∧ nm (l.take k) + 1 ≤ 10 ^ k := by
  induction k with
  | zero => simp [nm]
  | succ k ih =>
    obtain ⟨i1, i2⟩ := ih (by omega)
    obtain ⟨d1, d2⟩ := h k (by omega)
    rw [List.take_succ_eq_append_getElem (by omega), nm_snoc, Int.pow_succ]
    obtain ⟨T, hT⟩ : ∃ T : Int, T = 10 ^ k := ⟨_, rfl⟩
    rw [← hT] at i2 ⊢
    omega
theorem nm_2 (a b : UInt8) : nm [a, b] = 10 * ((a.toNat : Int) - 48) + ((b.toNat : Int) - 48) := by simp [nm]
theorem nm_4 (a b c d : UInt8) : nm [a, b, c, d] = 10 * (10 * (10 * ((a.toNat : Int) - 48) + ((b.toNat : Int) - 48)) + ((c.toNat : Int) - 48)) + ((d.toNat : Int) - 48) := by simp [nm]

theorem bt_nat {x : Int} (h0 : 0 ≤ x) (h1 : x ≤ 255) : ((bt x).toNat : Int) = x := by
  unfold bt
  rw [UInt8.toNat_ofNat']
  omega
theorem bt_of (c : UInt8) : bt (c.toNat : Int) = c := by
  unfold bt
  simp
theorem nm_d2 {n : Int} (h0 : 0 ≤ n) (h1 : n ≤ 99) : nm (d2 n) = n := by
  unfold d2
  rw [nm_2, bt_nat (by omega) (by omega), bt_nat (by omega) (by omega)]
  omega
theorem nm_d4 {n : Int} (h0 : 0 ≤ n) (h1 : n ≤ 9999) : nm (d4 n) = n := by
  unfold d4
  rw [nm_4, bt_nat (by omega) (by omega), bt_nat (by omega) (by omega), bt_nat (by omega) (by omega), bt_nat (by omega) (by omega)]
  omega
theorem d2_nm {a b : UInt8} (ha : isD a) (hb : isD b) : d2 (nm [a, b]) = [a, b] := by
  obtain ⟨a0, a1⟩ := ha
  obtain ⟨b0, b1⟩ := hb
  rw [nm_2]
  unfold d2
  rw [show (48 : Int) + (10 * ((a.toNat : Int) - 48) + ((b.toNat : Int) - 48)) / 10 % 10 = (a.toNat : Int) by omega, show (48 : Int) + (10 * ((a.toNat : Int) - 48) + ((b.toNat : Int) - 48)) % 10 = (b.toNat : Int) by omega, bt_of, bt_of]
theorem d4_nm {a b c d : UInt8} (ha : isD a) (hb : isD b) (hc : isD c) (hd : isD d) : d4 (nm [a, b, c, d]) = [a, b, c, d] := by
  obtain ⟨a0, a1⟩ := ha
  obtain ⟨b0, b1⟩ := hb
  obtain ⟨c0, c1⟩ := hc
  obtain ⟨e0, e1⟩ := hd
  rw [nm_4]
  unfold d4
  obtain ⟨x, hx⟩ : ∃ x : Int, x = 10 * (10 * (10 * ((a.toNat : Int) - 48) + ((b.toNat : Int) - 48)) + ((c.toNat : Int) - 48)) + ((d.toNat : Int) - 48) := ⟨_, rfl⟩
  rw [← hx]
  rw [show (48 : Int) + x / 10 / 10 / 10 % 10 = (a.toNat : Int) by omega, show (48 : Int) + x / 10 / 10 % 10 = (b.toNat : Int) by omega, show (48 : Int) + x / 10 % 10 = (c.toNat : Int) by omega, show (48 : Int) + x % 10 = (d.toNat : Int) by omega, bt_of, bt_of, bt_of, bt_of]

/-- may a byte stand at a place of the stem? -/
def okC (k : Nat) (c : UInt8) : Prop := (k = 8 ∧ c.toNat = 84) ∨ (k ≠ 8 ∧ isD c)
instance (k : Nat) (c : UInt8) : Decidable (okC k c) := by unfold okC isD; infer_instance
def okS (s : ByteArray) (k : Nat) : Prop := (h : k < s.size) → okC k s[k]

/-- how far a text's stem is right: the three ways -/
theorem stem_ways (s : ByteArray) : (∃ k, k < 15 ∧ (∃ h : k < s.size, ¬ okC k s[k]) ∧ ∀ j, j < k → okS s j) ∨ (s.size < 15 ∧ ∀ j, j < 15 → okS s j) ∨ (15 ≤ s.size ∧ ∀ j, j < 15 → okS s j) := by
  have key : ∀ m, (∃ k, k < m ∧ (∃ h : k < s.size, ¬ okC k s[k]) ∧ ∀ j, j < k → okS s j) ∨ (∀ j, j < m → okS s j) := by
    intro m
    induction m with
    | zero => exact .inr (fun j hj => absurd hj (by omega))
    | succ m ih =>
      rcases ih with ⟨k, hk, h1, h2⟩ | h
      · exact .inl ⟨k, by omega, h1, h2⟩
      · by_cases hs : m < s.size
        · by_cases hc : okC m s[m]
          · refine .inr fun j hj => ?_
            by_cases e : j = m
            · subst e; exact fun _ => hc
            · exact h j (by omega)
          · exact .inl ⟨m, by omega, ⟨hs, hc⟩, h⟩
        · refine .inr fun j hj => ?_
          by_cases e : j = m
          · subst e; exact fun h => absurd h hs
          · exact h j (by omega)
  rcases key 15 with h | h
  · exact .inl h
  · by_cases hs : s.size < 15
    · exact .inr (.inl ⟨hs, h⟩)
    · exact .inr (.inr ⟨by omega, h⟩)

/-- a text's parts -/
def prt (s : ByteArray) (a b : Nat) : Int := nm (s.extract a b).data.toList
theorem ext_list (s : ByteArray) (a b : Nat) : (s.extract a b).data.toList = (s.data.toList.take b).drop a := by
  simp [ByteArray.data_extract, Array.toList_extract, List.extract_eq_take_drop, List.drop_take]

theorem sixteen {α : Type} (l : List α) (h : l.length = 16) : ∃ c0 c1 c2 c3 c4 c5 c6 c7 c8 c9 c10 c11 c12 c13 c14 c15, l = [c0, c1, c2, c3, c4, c5, c6, c7, c8, c9, c10, c11, c12, c13, c14, c15] := by
  match l, h with
  | [c0, c1, c2, c3, c4, c5, c6, c7, c8, c9, c10, c11, c12, c13, c14, c15], _ => exact ⟨_, _, _, _, _, _, _, _, _, _, _, _, _, _, _, _, rfl⟩
end Go.Proofs.Ytnoomlakgfdaeaa
