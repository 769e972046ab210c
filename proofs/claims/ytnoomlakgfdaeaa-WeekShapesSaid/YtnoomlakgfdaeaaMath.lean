/- Plain arithmetic: floor division and remainder against Go's truncated ones. No program in sight. -/
namespace Go.Proofs.Ytnoomlakgfdaeaa

/-- the floor of a by b; 0 where b is below 1 -/
def flo (a b : Int) : Int := if b < 1 then 0 else a / b
/-- what is left; 0 where b is below 1 -/
def mo (a b : Int) : Int := if b < 1 then 0 else a % b

theorem flo_low {a b : Int} (h : b < 1) : flo a b = 0 := by simp [flo, h]
theorem mo_low {a b : Int} (h : b < 1) : mo a b = 0 := by simp [mo, h]
theorem flo_pos {a b : Int} (h : 1 ≤ b) : flo a b = a / b := by unfold flo; rw [if_neg (by omega)]
theorem mo_pos {a b : Int} (h : 1 ≤ b) : mo a b = a % b := by unfold mo; rw [if_neg (by omega)]

theorem tq {a b : Int} (hb : 1 ≤ b) : (a.tmod b < 0 → a.tdiv b - 1 = a / b ∧ a.tmod b + b = a % b) ∧ (¬ a.tmod b < 0 → a.tdiv b = a / b ∧ a.tmod b = a % b) := by
  have h1 := Int.tdiv_eq_ediv (a := a) (b := b)
  have h2 := Int.tmod_eq_emod (a := a) (b := b)
  have h3 := Int.emod_nonneg a (b := b) (by omega)
  have h4 := Int.emod_lt_of_pos a (b := b) (by omega)
  have hs : b.sign = 1 := Int.sign_eq_one_of_pos (by omega)
  by_cases c : 0 ≤ a ∨ b ∣ a
  · rw [if_pos c] at h1 h2
    constructor <;> intro h <;> omega
  · rw [if_neg c] at h1 h2
    constructor <;> intro h <;> omega

theorem ediv_bd {a b : Int} (hb : 1 ≤ b) (h0 : -9223372036854775808 ≤ a) (h1 : a ≤ 9223372036854775807) : -9223372036854775808 ≤ a / b ∧ a / b ≤ 9223372036854775807 := by
  constructor
  · exact (Int.le_ediv_iff_mul_le (by omega)).2 (by
      have : (-9223372036854775808 : Int) * b ≤ -9223372036854775808 * 1 := Int.mul_le_mul_of_nonpos_left (by omega) (by omega)
      omega)
  · have h : a / b < 9223372036854775808 := Int.ediv_lt_of_lt_mul (by omega) (by
      have : (9223372036854775808 : Int) * 1 ≤ 9223372036854775808 * b := Int.mul_le_mul_of_nonneg_left (by omega) (by omega)
      omega)
    omega

theorem emod_bd (a : Int) {b : Int} (hb : 1 ≤ b) : 0 ≤ a % b ∧ a % b < b := ⟨Int.emod_nonneg a (by omega), Int.emod_lt_of_pos a (by omega)⟩
end Go.Proofs.Ytnoomlakgfdaeaa
