/- Plain arithmetic: the date of a number as the program reckons it is the day of that number. No program in sight. -/
import Derived.Test.YtnoomlakgfdaeaaCiv
namespace Go.Proofs.Ytnoomlakgfdaeaa

/-- the years of a cycle from its day -/
def yrs (o : Int) : Int := (o - o / 1460 + o / 36524 - o / 146096) / 365
/-- the day of its year, counted from March on -/
def lft (o : Int) : Int := o - (yrs o * 365 + yrs o / 4 - yrs o / 100)
def mmo (o : Int) : Int := (5 * lft o + 2) / 153

/-- a day of a cycle: centuries, fours, the rest -/
theorem yrs_ways (o : Int) (h0 : 0 ≤ o) (h1 : o < 146097) : (0 ≤ yrs o ∧ yrs o ≤ 399) ∧ 0 ≤ lft o ∧ (lft o ≤ 364 ∨ (lft o = 365 ∧ (yrs o + 1) % 4 = 0 ∧ ((yrs o + 1) % 100 ≠ 0 ∨ (yrs o + 1) % 400 = 0))) := by
  by_cases hl : o = 146096
  · subst hl
    decide
  obtain ⟨c, hc⟩ : ∃ c, c = o / 36524 := ⟨_, rfl⟩
  obtain ⟨q, hq⟩ : ∃ q, q = (o - 36524 * c) / 1461 := ⟨_, rfl⟩
  obtain ⟨s, hs⟩ : ∃ s, s = o - 36524 * c - 1461 * q := ⟨_, rfl⟩
  have c0 : 0 ≤ c ∧ c ≤ 3 := by omega
  have r0 : 0 ≤ o - 36524 * c ∧ o - 36524 * c < 36524 := by omega
  have q0 : 0 ≤ q ∧ q ≤ 24 := by omega
  have s0 : 0 ≤ s ∧ s ≤ 1460 := by omega
  have s1 : q = 24 → s ≤ 1459 := by omega
  have eo : o = 36524 * c + 1461 * q + s := by omega
  have e1 : o / 146096 = 0 := by omega
  obtain ⟨p, hp⟩ : ∃ p, p = o / 1460 := ⟨_, rfl⟩
  have p0 : (p = 25 * c + q ∧ 24 * c + q + s < 1460) ∨ (p = 25 * c + q + 1 ∧ 1460 ≤ 24 * c + q + s) := by omega
  have ey : yrs o = 100 * c + 4 * q + (if s < 365 then 0 else if s < 730 then 1 else if s < 1095 then 2 else 3) := by
    unfold yrs
    rw [← hp, ← hc, e1]
    clear hp hc hq e1
    split
    · omega
    · split
      · omega
      · split <;> omega
  have el : lft o = s - 365 * (if s < 365 then 0 else if s < 730 then 1 else if s < 1095 then 2 else 3) := by
    unfold lft
    rw [ey]
    clear ey hp hc hq hs e1 p0
    split
    · omega
    · split
      · omega
      · split <;> omega
  rw [ey, el]
  clear ey el hp hc hq hs e1 p0 eo r0
  split
  · omega
  · split
    · omega
    · split <;> omega

/-- the date of a number -/
def dO (n : Int) : Int := (n + 719468) % 146097
def dE (n : Int) : Int := (n + 719468) / 146097
def dD (n : Int) : Int := lft (dO n) - (153 * mmo (dO n) + 2) / 5 + 1
def dM (n : Int) : Int := (mmo (dO n) + 2) % 12 + 1
def dY (n : Int) : Int := dE n * 400 + yrs (dO n) + (if dM n ≤ 2 then 1 else 0)

theorem mmo_bd {o : Int} (h : 0 ≤ lft o ∧ lft o ≤ 365) : 0 ≤ mmo o ∧ mmo o ≤ 11 := by unfold mmo; omega

theorem date_aux {n o E a l k y m d : Int} (en : n + 719468 = 146097 * E + o) (y0 : 0 ≤ a ∧ a ≤ 399) (l0 : 0 ≤ l) (l1 : l ≤ 364 ∨ (l = 365 ∧ (a + 1) % 4 = 0 ∧ ((a + 1) % 100 ≠ 0 ∨ (a + 1) % 400 = 0)))
    (hl : l = o - (a * 365 + a / 4 - a / 100)) (hk : k = (5 * l + 2) / 153) (hd : d = l - (153 * k + 2) / 5 + 1) (hM : m = (k + 2) % 12 + 1) (hY : y = E * 400 + a + (if m ≤ 2 then 1 else 0)) : okD y m d ∧ num y m d = n := by
  have k0 : 0 ≤ k ∧ k ≤ 11 := by omega
  have m1 : 1 ≤ m := by omega
  have m2 : m ≤ 12 := by omega
  have P := num_prog y m d m1 m2 (E * 400 + a) (by rw [hY]; split <;> omega)
  refine ⟨⟨m1, m2, ?_, ?_⟩, ?_⟩
  · omega
  · have dw := dim_ways y m
    have lw := lp_iff y
    have k12 : k = 0 ∨ k = 1 ∨ k = 2 ∨ k = 3 ∨ k = 4 ∨ k = 5 ∨ k = 6 ∨ k = 7 ∨ k = 8 ∨ k = 9 ∨ k = 10 ∨ k = 11 := by omega
    obtain ⟨D, hD⟩ : ∃ D, D = dim y m := ⟨_, rfl⟩
    obtain ⟨L, hL⟩ : ∃ L, L = lp y := ⟨_, rfl⟩
    rw [← hD, ← hL] at dw
    rw [← hD]
    rw [← hL] at lw
    clear P en hl m1 m2 hD hL
    rcases k12 with h | h | h | h | h | h | h | h | h | h | h | h
    all_goals
      subst h
      simp at hM
      subst hM
      simp at hY dw
      omega
  · rw [← P]
    have e9 : (m + 9) % 12 = k := by omega
    rw [e9]
    clear P hY e9 hM
    omega

theorem date_ok (n : Int) : okD (dY n) (dM n) (dD n) ∧ num (dY n) (dM n) (dD n) = n := by
  have o0 : 0 ≤ dO n ∧ dO n < 146097 := by unfold dO; omega
  have en : n + 719468 = 146097 * dE n + dO n := by unfold dO dE; omega
  obtain ⟨y0, l0, l1⟩ := yrs_ways (dO n) o0.1 o0.2
  exact date_aux en y0 l0 l1 rfl rfl rfl rfl rfl

/-- a day that there is, by its number -/
theorem date_of {y m d : Int} (h : okD y m d) : y = dY (num y m d) ∧ m = dM (num y m d) ∧ d = dD (num y m d) :=
  num_inj h (date_ok _).1 (date_ok _).2.symm
theorem date_is {n y m d : Int} (h : okD y m d) (e : num y m d = n) : y = dY n ∧ m = dM n ∧ d = dD n := by rw [← e]; exact date_of h
end Go.Proofs.Ytnoomlakgfdaeaa
