/- Plain arithmetic of dates: leap years, months, a day's number, the date of a number. No program in sight. -/
namespace Go.Proofs.Ytnoomlakgfdaeaa

/-- has a year a day more? -/
def lpB (y : Int) : Bool := decide (y % 4 = 0 ∧ (y % 100 ≠ 0 ∨ y % 400 = 0))
def lp (y : Int) : Int := if lpB y then 1 else 0
theorem lp_01 (y : Int) : 0 ≤ lp y ∧ lp y ≤ 1 := by unfold lp; split <;> omega
theorem lp_yes {y : Int} (h : lpB y = true) : lp y = 1 := by unfold lp; rw [if_pos h]
theorem lp_no {y : Int} (h : lpB y = false) : lp y = 0 := by unfold lp; rw [if_neg (by simp [h])]
theorem lp_iff (y : Int) : (lp y = 1 ∧ y % 4 = 0 ∧ (y % 100 ≠ 0 ∨ y % 400 = 0)) ∨ (lp y = 0 ∧ ¬ (y % 4 = 0 ∧ (y % 100 ≠ 0 ∨ y % 400 = 0))) := by
  by_cases h : y % 4 = 0 ∧ (y % 100 ≠ 0 ∨ y % 400 = 0)
  · exact .inl ⟨lp_yes (decide_eq_true h), h⟩
  · exact .inr ⟨lp_no (decide_eq_false h), h⟩

/-- how many days a month has; 0 where there is none -/
def dim (y m : Int) : Int :=
  if m = 2 then 28 + lp y else if m = 4 ∨ m = 6 ∨ m = 9 ∨ m = 11 then 30 else if 1 ≤ m ∧ m ≤ 12 then 31 else 0
/-- how many days of its year lie ahead of a month -/
def cum (y m : Int) : Int :=
  if m ≤ 1 then 0 else if m = 2 then 31 else if m = 3 then 59 + lp y else if m = 4 then 90 + lp y else if m = 5 then 120 + lp y else if m = 6 then 151 + lp y else if m = 7 then 181 + lp y
  else if m = 8 then 212 + lp y else if m = 9 then 243 + lp y else if m = 10 then 273 + lp y else if m = 11 then 304 + lp y else if m = 12 then 334 + lp y else 365 + lp y
theorem m_ways {m : Int} (h1 : 1 ≤ m) (h2 : m ≤ 12) : m = 1 ∨ m = 2 ∨ m = 3 ∨ m = 4 ∨ m = 5 ∨ m = 6 ∨ m = 7 ∨ m = 8 ∨ m = 9 ∨ m = 10 ∨ m = 11 ∨ m = 12 := by omega
theorem dim_ways (y m : Int) : (m = 2 ∧ dim y m = 28 + lp y) ∨ ((m = 4 ∨ m = 6 ∨ m = 9 ∨ m = 11) ∧ dim y m = 30) ∨ ((m = 1 ∨ m = 3 ∨ m = 5 ∨ m = 7 ∨ m = 8 ∨ m = 10 ∨ m = 12) ∧ dim y m = 31) ∨ ((m < 1 ∨ 12 < m) ∧ dim y m = 0) := by
  unfold dim
  split
  · omega
  · split
    · omega
    · split <;> omega
theorem dim_bd (y m : Int) : 0 ≤ dim y m ∧ dim y m ≤ 31 := by have := dim_ways y m; have := lp_01 y; omega
theorem dim_pos {y m : Int} (h1 : 1 ≤ m) (h2 : m ≤ 12) : 28 ≤ dim y m := by have := dim_ways y m; have := lp_01 y; omega
theorem dim_m {y m : Int} (h : 0 < dim y m) : 1 ≤ m ∧ m ≤ 12 := by have := dim_ways y m; omega
theorem cum_one (y : Int) : cum y 1 = 0 := rfl
theorem cum_succ (y m : Int) (h1 : 1 ≤ m) (h2 : m ≤ 12) : cum y (m + 1) = cum y m + dim y m := by
  rcases m_ways h1 h2 with rfl | rfl | rfl | rfl | rfl | rfl | rfl | rfl | rfl | rfl | rfl | rfl <;> simp [cum, dim] <;> omega
theorem cum_bd (y m : Int) : 0 ≤ cum y m ∧ cum y m ≤ 366 := by
  have := lp_01 y
  unfold cum
  repeat (first | omega | split)
theorem cum_all (y : Int) : cum y 13 = 365 + lp y := rfl
theorem cum_mono (y m k : Int) (h1 : 1 ≤ m) (h2 : m < k) (h3 : k ≤ 13) : cum y m + dim y m ≤ cum y k := by
  have hl := lp_01 y
  rw [← cum_succ y m h1 (by omega)]
  obtain ⟨j, hj⟩ : ∃ j, j = m + 1 := ⟨_, rfl⟩
  rw [← hj]
  have a1 : 2 ≤ j := by omega
  have a2 : j ≤ k := by omega
  clear hj h2 h1 m
  have e : j = k ∨ j < k := by omega
  unfold cum
  repeat (first | omega | split)

/-- how many days lie from the beginning of year 1 to the end of a year -/
def eY (y : Int) : Int := 365 * y + y / 4 - y / 100 + y / 400
theorem eY_succ (y : Int) : eY y = eY (y - 1) + 365 + lp y := by
  have := lp_iff y
  unfold eY
  omega
theorem eY_mono {a b : Int} (h : a ≤ b) : eY a ≤ eY b := by unfold eY; omega
theorem eY_era (a k : Int) : eY (a + 400 * k) = eY a + 146097 * k := by unfold eY; omega

/-- a day's number -/
def num (y m d : Int) : Int := eY (y - 1) - 719162 + cum y m + d - 1
/-- is there such a day, in whatever year? -/
def okD (y m d : Int) : Prop := 1 ≤ m ∧ m ≤ 12 ∧ 1 ≤ d ∧ d ≤ dim y m

theorem num_inj {y m d y' m' d' : Int} (h : okD y m d) (h' : okD y' m' d') (e : num y m d = num y' m' d') : y = y' ∧ m = m' ∧ d = d' := by
  obtain ⟨m1, m2, d1, d2⟩ := h
  obtain ⟨m1', m2', d1', d2'⟩ := h'
  have c1 := cum_mono y m 13 m1 (by omega) (by omega)
  have c1' := cum_mono y' m' 13 m1' (by omega) (by omega)
  rw [cum_all] at c1 c1'
  have b := (cum_bd y m).1
  have b' := (cum_bd y' m').1
  have s := eY_succ y
  have s' := eY_succ y'
  unfold num at e
  have hy : y = y' := by
    apply Classical.byContradiction
    intro hn
    rcases Int.lt_or_gt_of_ne hn with hl | hl
    · have := eY_mono (a := y) (b := y' - 1) (by omega)
      omega
    · have := eY_mono (a := y') (b := y - 1) (by omega)
      omega
  subst hy
  have hm : m = m' := by
    apply Classical.byContradiction
    intro hn
    rcases Int.lt_or_gt_of_ne hn with hl | hl
    · have := cum_mono y m m' m1 hl (by omega)
      omega
    · have := cum_mono y m' m m1' hl (by omega)
      omega
  subst hm
  exact ⟨rfl, rfl, by omega⟩

/-- how the program reckons a day's number -/
theorem num_prog (y m d : Int) (h1 : 1 ≤ m) (h2 : m ≤ 12) (Y : Int) (hY : Y = if m ≤ 2 then y - 1 else y) :
    Y / 400 * 146097 + Y % 400 * 365 + Y % 400 / 4 - Y % 400 / 100 + ((153 * ((m + 9) % 12) + 2) / 5 + d - 1) - 719468 = num y m d := by
  have e : Y / 400 * 146097 + Y % 400 * 365 + Y % 400 / 4 - Y % 400 / 100 = eY Y := by unfold eY; omega
  rw [e]
  have s := eY_succ y
  unfold num
  rcases m_ways h1 h2 with rfl | rfl | rfl | rfl | rfl | rfl | rfl | rfl | rfl | rfl | rfl | rfl <;> simp at hY <;> subst hY <;> simp [cum] <;> omega
end Go.Proofs.Ytnoomlakgfdaeaa
