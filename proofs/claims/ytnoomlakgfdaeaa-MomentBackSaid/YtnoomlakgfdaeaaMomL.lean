/- Plain: the texts as lists of bytes; a later instant's text stands behind. -/
import Derived.Test.YtnoomlakgfdaeaaMomC
namespace Go.Proofs.Ytnoomlakgfdaeaa
open Go.RowKit

def bt (x : Int) : UInt8 := UInt8.ofNat x.toNat
def d2 (n : Int) : List UInt8 := [bt (48 + n / 10 % 10), bt (48 + n % 10)]
def d4 (n : Int) : List UInt8 := [bt (48 + n / 10 / 10 / 10 % 10), bt (48 + n / 10 / 10 % 10), bt (48 + n / 10 % 10), bt (48 + n % 10)]
theorem D2_list (n : Int) : (D2 n).data.toList = d2 n := rfl
theorem D4_list (n : Int) : (D4 n).data.toList = d4 n := rfl

theorem lng_list (t : Int) : (lngT t).toList = d4 (dY (t / 86400)) ++ (45 :: (d2 (dM (t / 86400)) ++ (45 :: (d2 (dD (t / 86400)) ++ (32 :: (d2 (t % 86400 / 3600) ++ (58 :: (d2 (t % 86400 / 60 % 60) ++ (58 :: (d2 (t % 86400 % 60) ++ [])))))))))) := by
  rw [ByteArray.toList_eq]
  simp only [lngT, txt, acc, six, five, B1, ByteArray.data_append, Array.toList_append, D2_list, D4_list, ByteArray.data_empty]
  simp
theorem bas_list (t : Int) : (basT t).toList = d4 (dY (t / 86400)) ++ (d2 (dM (t / 86400)) ++ (d2 (dD (t / 86400)) ++ (84 :: (d2 (t % 86400 / 3600) ++ (d2 (t % 86400 / 60 % 60) ++ (d2 (t % 86400 % 60) ++ [90])))))) := by
  rw [ByteArray.toList_eq]
  simp only [basT, txt, acc, six, five, B1, ByteArray.data_append, Array.toList_append, D2_list, D4_list, ByteArray.data_empty]
  simp

theorem bt_lt {a b : Int} (a0 : 0 ≤ a) (a1 : a ≤ 9) (b0 : 0 ≤ b) (b1 : b ≤ 9) : decide (bt (48 + a) < bt (48 + b)) = decide (a < b) := by
  rw [decide_eq_decide, UInt8.lt_iff_toNat_lt]
  unfold bt
  rw [UInt8.toNat_ofNat', UInt8.toNat_ofNat']
  omega
theorem bt_eq {a b : Int} (a0 : 0 ≤ a) (a1 : a ≤ 9) (b0 : 0 ≤ b) (b1 : b ≤ 9) : (bt (48 + a) == bt (48 + b)) = decide (a = b) := by
  rw [Bool.eq_iff_iff, beq_iff_eq, decide_eq_true_eq, ← UInt8.toNat_inj]
  unfold bt
  rw [UInt8.toNat_ofNat', UInt8.toNat_ofNat']
  omega
theorem bl_cons (a b : UInt8) (x y : List UInt8) : Op.bytesLess (a :: x) (b :: y) = (decide (a < b) || (a == b && Op.bytesLess x y)) := rfl
theorem bl_same (a : UInt8) (x y : List UInt8) : Op.bytesLess (a :: x) (a :: y) = Op.bytesLess x y := by
  rw [bl_cons]; simp
theorem bl_self (x : List UInt8) : Op.bytesLess x x = false := by
  induction x with
  | nil => rfl
  | cons a x ih => rw [bl_same, ih]
theorem bl_d2 {a b : Int} (a0 : 0 ≤ a) (a1 : a ≤ 99) (b0 : 0 ≤ b) (b1 : b ≤ 99) (x y : List UInt8) : Op.bytesLess (d2 a ++ x) (d2 b ++ y) = (decide (a < b) || (decide (a = b) && Op.bytesLess x y)) := by
  show Op.bytesLess (_ :: _ :: x) (_ :: _ :: y) = _
  rw [bl_cons, bl_cons, bt_lt (by omega) (by omega) (by omega) (by omega), bt_lt (by omega) (by omega) (by omega) (by omega), bt_eq (by omega) (by omega) (by omega) (by omega), bt_eq (by omega) (by omega) (by omega) (by omega)]
  cases Op.bytesLess x y <;> rw [Bool.eq_iff_iff] <;> simp only [Bool.or_eq_true, Bool.and_eq_true, decide_eq_true_eq, Bool.false_eq_true, and_false, or_false, and_true] <;> omega
theorem bl_d4 {a b : Int} (a0 : 0 ≤ a) (a1 : a ≤ 9999) (b0 : 0 ≤ b) (b1 : b ≤ 9999) (x y : List UInt8) : Op.bytesLess (d4 a ++ x) (d4 b ++ y) = (decide (a < b) || (decide (a = b) && Op.bytesLess x y)) := by
  show Op.bytesLess (_ :: _ :: _ :: _ :: x) (_ :: _ :: _ :: _ :: y) = _
  rw [bl_cons, bl_cons, bl_cons, bl_cons, bt_lt (by omega) (by omega) (by omega) (by omega), bt_lt (by omega) (by omega) (by omega) (by omega), bt_lt (by omega) (by omega) (by omega) (by omega), bt_lt (by omega) (by omega) (by omega) (by omega),
    bt_eq (by omega) (by omega) (by omega) (by omega), bt_eq (by omega) (by omega) (by omega) (by omega), bt_eq (by omega) (by omega) (by omega) (by omega), bt_eq (by omega) (by omega) (by omega) (by omega)]
  cases Op.bytesLess x y <;> rw [Bool.eq_iff_iff] <;> simp only [Bool.or_eq_true, Bool.and_eq_true, decide_eq_true_eq, Bool.false_eq_true, and_false, or_false, and_true] <;> omega

/-- a later day's date stands behind -/
theorem day_lex (n k : Int) : n < k ↔ (dY n < dY k ∨ (dY n = dY k ∧ (dM n < dM k ∨ (dM n = dM k ∧ dD n < dD k)))) := by
  have key : ∀ n k : Int, (dY n < dY k ∨ (dY n = dY k ∧ (dM n < dM k ∨ (dM n = dM k ∧ dD n < dD k)))) → n < k := by
    intro n k h
    obtain ⟨⟨m1, m2, d1, d2⟩, e⟩ := date_ok n
    obtain ⟨⟨m1', m2', d1', d2'⟩, e'⟩ := date_ok k
    unfold num at e e'
    have b := (cum_bd (dY k) (dM k)).1
    rcases h with h | ⟨h, h2 | ⟨h2, h3⟩⟩
    · have c := cum_mono (dY n) (dM n) 13 m1 (by omega) (by omega)
      rw [cum_all] at c
      have s := eY_succ (dY n)
      have mo := eY_mono (a := dY n) (b := dY k - 1) (by omega)
      omega
    · rw [← h] at e' b
      have c := cum_mono (dY n) (dM n) (dM k) m1 h2 (by omega)
      omega
    · rw [← h, ← h2] at e'
      omega
  constructor
  · intro h
    apply Classical.byContradiction
    intro hn
    have h2 : (dY k < dY n ∨ (dY k = dY n ∧ (dM k < dM n ∨ (dM k = dM n ∧ dD k < dD n)))) ∨ (dY n = dY k ∧ dM n = dM k ∧ dD n = dD k) := by omega
    rcases h2 with h2 | ⟨h2, h3, h4⟩
    · have := key k n h2
      omega
    · have e := (date_ok n).2
      have e' := (date_ok k).2
      rw [h2, h3, h4] at e
      omega
  · exact key n k
theorem day_same (n k : Int) : (dY n = dY k ∧ dM n = dM k ∧ dD n = dD k) ↔ n = k := by
  constructor
  · rintro ⟨h2, h3, h4⟩
    have e := (date_ok n).2
    have e' := (date_ok k).2
    rw [h2, h3, h4] at e
    omega
  · rintro rfl
    exact ⟨rfl, rfl, rfl⟩

theorem inst_lex (t u : Int) : t < u ↔ (dY (t / 86400) < dY (u / 86400) ∨ (dY (t / 86400) = dY (u / 86400) ∧ (dM (t / 86400) < dM (u / 86400) ∨ (dM (t / 86400) = dM (u / 86400) ∧ (dD (t / 86400) < dD (u / 86400) ∨ (dD (t / 86400) = dD (u / 86400) ∧
    (t % 86400 / 3600 < u % 86400 / 3600 ∨ (t % 86400 / 3600 = u % 86400 / 3600 ∧ (t % 86400 / 60 % 60 < u % 86400 / 60 % 60 ∨ (t % 86400 / 60 % 60 = u % 86400 / 60 % 60 ∧ t % 86400 % 60 < u % 86400 % 60)))))))))) := by
  have a := day_lex (t / 86400) (u / 86400)
  have b := day_same (t / 86400) (u / 86400)
  have c : t < u ↔ (t / 86400 < u / 86400 ∨ (t / 86400 = u / 86400 ∧ (t % 86400 / 3600 < u % 86400 / 3600 ∨ (t % 86400 / 3600 = u % 86400 / 3600 ∧ (t % 86400 / 60 % 60 < u % 86400 / 60 % 60 ∨ (t % 86400 / 60 % 60 = u % 86400 / 60 % 60 ∧ t % 86400 % 60 < u % 86400 % 60)))))) := by omega
  rw [c, a, ← b]
  clear a b c
  omega

theorem lng_less (t u : Int) (ht : inW t = true) (hu : inW u = true) : Op.bytesLess (lngT t).toList (lngT u).toList = decide (t < u) := by
  obtain ⟨t0, t1⟩ := of_decide_eq_true ht
  obtain ⟨u0, u1⟩ := of_decide_eq_true hu
  have y1 := year_bd (t / 86400) (by omega) (by omega)
  have y2 := year_bd (u / 86400) (by omega) (by omega)
  obtain ⟨_, _, m1, m2, d1, d2', _⟩ := near_bd (t / 86400) (by omega) (by omega)
  obtain ⟨_, _, m3, m4, d3, d4', _⟩ := near_bd (u / 86400) (by omega) (by omega)
  rw [lng_list, lng_list, bl_d4 (by omega) (by omega) (by omega) (by omega), bl_same, bl_d2 (by omega) (by omega) (by omega) (by omega), bl_same, bl_d2 (by omega) (by omega) (by omega) (by omega), bl_same,
    bl_d2 (by omega) (by omega) (by omega) (by omega), bl_same, bl_d2 (by omega) (by omega) (by omega) (by omega), bl_same, bl_d2 (by omega) (by omega) (by omega) (by omega), bl_self]
  have L := inst_lex t u
  rw [Bool.eq_iff_iff, decide_eq_true_eq]
  simp only [Bool.or_eq_true, Bool.and_eq_true, decide_eq_true_eq, Bool.false_eq_true, and_false, or_false]
  exact L.symm
theorem bas_less (t u : Int) (ht : inW t = true) (hu : inW u = true) : Op.bytesLess (basT t).toList (basT u).toList = decide (t < u) := by
  obtain ⟨t0, t1⟩ := of_decide_eq_true ht
  obtain ⟨u0, u1⟩ := of_decide_eq_true hu
  have y1 := year_bd (t / 86400) (by omega) (by omega)
  have y2 := year_bd (u / 86400) (by omega) (by omega)
  obtain ⟨_, _, m1, m2, d1, d2', _⟩ := near_bd (t / 86400) (by omega) (by omega)
  obtain ⟨_, _, m3, m4, d3, d4', _⟩ := near_bd (u / 86400) (by omega) (by omega)
  rw [bas_list, bas_list, bl_d4 (by omega) (by omega) (by omega) (by omega), bl_d2 (by omega) (by omega) (by omega) (by omega), bl_d2 (by omega) (by omega) (by omega) (by omega), bl_same,
    bl_d2 (by omega) (by omega) (by omega) (by omega), bl_d2 (by omega) (by omega) (by omega) (by omega), bl_d2 (by omega) (by omega) (by omega) (by omega), bl_self]
  have L := inst_lex t u
  rw [Bool.eq_iff_iff, decide_eq_true_eq]
  simp only [Bool.or_eq_true, Bool.and_eq_true, decide_eq_true_eq, Bool.false_eq_true, and_false, or_false]
  exact L.symm
end Go.Proofs.Ytnoomlakgfdaeaa
