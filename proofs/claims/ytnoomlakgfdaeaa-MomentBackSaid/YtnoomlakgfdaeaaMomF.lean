/- Contracts: moment.Of, the reference's Of. -/
import Derived.Test.YtnoomlakgfdaeaaMomE
namespace Go.Proofs.Ytnoomlakgfdaeaa
open Go.RowKit

/-- the instant of parts -/
def ofB (y m d h mi s : Int) : Bool := mayB y m d && (todB h mi s && joB (num y m d) (h * 3600 + mi * 60 + s))
def ofI (y m d h mi s : Int) : Int := num y m d * 86400 + (h * 3600 + mi * 60 + s)

theorem num_win {y m d : Int} (h : okD y m d) : (0 ≤ num y m d ∧ num y m d < 146097) ↔ (1970 ≤ y ∧ y ≤ 2369) := by
  obtain ⟨m1, m2, d1, d2⟩ := h
  have c := cum_mono y m 13 m1 (by omega) (by omega)
  rw [cum_all] at c
  have b := (cum_bd y m).1
  have s := eY_succ y
  have e1 : eY 1969 = 719162 := by decide
  have e2 : eY 2369 = 865259 := by decide
  unfold num
  constructor
  · rintro ⟨h1, h2⟩
    constructor <;> apply Classical.byContradiction <;> intro hn
    · have := eY_mono (a := y) (b := 1969) (by omega)
      omega
    · have := eY_mono (a := 2369) (b := y - 1) (by omega)
      omega
  · rintro ⟨h1, h2⟩
    have a1 := eY_mono (a := 1969) (b := y - 1) (by omega)
    have a2 := eY_mono (a := y) (b := 2369) (by omega)
    omega

theorem keepS {w W w2 : World} {B : Nat} {a b c d e f : Int} (hb : Below W.heap.size W w2)
    (h : Below w.heap.size w W ∧ W.cell? ⟨B, 0, none⟩ = some (.int .i64 a) ∧ W.cell? ⟨B, 1, none⟩ = some (.int .i64 b) ∧ W.cell? ⟨B, 2, none⟩ = some (.int .i64 c) ∧ W.cell? ⟨B, 3, none⟩ = some (.int .i64 d) ∧ W.cell? ⟨B, 4, none⟩ = some (.int .i64 e) ∧ W.cell? ⟨B, 5, none⟩ = some (.int .i64 f)) :
    Below w.heap.size w w2 ∧ w2.cell? ⟨B, 0, none⟩ = some (.int .i64 a) ∧ w2.cell? ⟨B, 1, none⟩ = some (.int .i64 b) ∧ w2.cell? ⟨B, 2, none⟩ = some (.int .i64 c) ∧ w2.cell? ⟨B, 3, none⟩ = some (.int .i64 d) ∧ w2.cell? ⟨B, 4, none⟩ = some (.int .i64 e) ∧ w2.cell? ⟨B, 5, none⟩ = some (.int .i64 f) := by
  obtain ⟨h0, h1, h2, h3, h4, h5, h6⟩ := h
  exact ⟨below_on h0 hb, (hb.cell (World.block_lt_of_cell? _ _ h1)).trans h1, (hb.cell (World.block_lt_of_cell? _ _ h2)).trans h2, (hb.cell (World.block_lt_of_cell? _ _ h3)).trans h3, (hb.cell (World.block_lt_of_cell? _ _ h4)).trans h4, (hb.cell (World.block_lt_of_cell? _ _ h5)).trans h5, (hb.cell (World.block_lt_of_cell? _ _ h6)).trans h6⟩

set_option maxHeartbeats 2000000 in
theorem mof_no1 (y m d h mi s : Int) (w : World) (hm : mayB y m d = false) : Calls Try.prog 24 #[.agg #[.int .i64 y, .int .i64 m, .int .i64 d, .int .i64 h, .int .i64 mi, .int .i64 s]] w (Kept (.tuple #[.int .i64 0, .bool false]) w) := by
  have HM := Lib.hid hm
  clear hm
  go_enter Try.func24, Try.ntmps24
  go_wp2_with fail
  refine (number_no _ _ _ _ HM.out).mono ?_
  rintro e w1 ⟨rfl, hb⟩
  have q3 := mkept hb 3 rfl
  have q4 := mkept hb 4 rfl
  have q5 := mkept hb 5 rfl
  have hz : w.heap.size < w1.heap.size := by have := hb.size; simp at this; omega
  have HB := Lib.hid (bel_one hb)
  clear hb
  go_wp2_with fail
  cases ht : todB h mi s
  · have HT := Lib.hid ht
    clear ht
    refine (tod_no _ _ _ _ HT.out).mono ?_
    rintro e w' ⟨rfl, rfl⟩
    go_wp2
    go_ret2
    exact ⟨rfl, HB.out⟩
  · have HT := Lib.hid ht
    clear ht
    refine (tod_yes _ _ _ _ HT.out).mono ?_
    rintro e w' ⟨rfl, rfl⟩
    go_wp2
    go_ret2
    exact ⟨rfl, HB.out⟩
set_option maxHeartbeats 2000000 in
theorem mof_no2 (y m d h mi s : Int) (w : World) (hm : mayB y m d = true) (ht : todB h mi s = false) : Calls Try.prog 24 #[.agg #[.int .i64 y, .int .i64 m, .int .i64 d, .int .i64 h, .int .i64 mi, .int .i64 s]] w (Kept (.tuple #[.int .i64 0, .bool false]) w) := by
  have HM := Lib.hid hm
  have HT := Lib.hid ht
  clear hm ht
  go_enter Try.func24, Try.ntmps24
  go_wp2_with fail
  refine (number_yes _ _ _ _ HM.out).mono ?_
  rintro e w1 ⟨rfl, hb⟩
  have q3 := mkept hb 3 rfl
  have q4 := mkept hb 4 rfl
  have q5 := mkept hb 5 rfl
  have hz : w.heap.size < w1.heap.size := by have := hb.size; simp at this; omega
  have HB := Lib.hid (bel_one hb)
  clear hb
  go_wp2_with fail
  refine (tod_no _ _ _ _ HT.out).mono ?_
  rintro e w' ⟨rfl, rfl⟩
  go_wp2
  go_ret2
  exact ⟨rfl, HB.out⟩
set_option maxHeartbeats 2000000 in
theorem mof_no3 (y m d h mi s : Int) (w : World) (hm : mayB y m d = true) (ht : todB h mi s = true) (hj : joB (num y m d) (h * 3600 + mi * 60 + s) = false) : Calls Try.prog 24 #[.agg #[.int .i64 y, .int .i64 m, .int .i64 d, .int .i64 h, .int .i64 mi, .int .i64 s]] w (Kept (.tuple #[.int .i64 0, .bool false]) w) := by
  have HM := Lib.hid hm
  have HT := Lib.hid ht
  have HJ := Lib.hid hj
  clear hm ht hj
  go_enter Try.func24, Try.ntmps24
  go_wp2_with fail
  refine (number_yes _ _ _ _ HM.out).mono ?_
  rintro e w1 ⟨rfl, hb⟩
  have q3 := mkept hb 3 rfl
  have q4 := mkept hb 4 rfl
  have q5 := mkept hb 5 rfl
  have hz : w.heap.size < w1.heap.size := by have := hb.size; simp at this; omega
  have HB := Lib.hid (bel_one hb)
  clear hb
  go_wp2_with fail
  refine (tod_yes _ _ _ _ HT.out).mono ?_
  rintro e w' ⟨rfl, rfl⟩
  go_wp2_with fail
  refine (join_no _ _ _ HJ.out).mono ?_
  rintro e w' ⟨rfl, rfl⟩
  go_wp2
  go_ret2
  exact ⟨rfl, HB.out⟩
set_option maxHeartbeats 2000000 in
theorem mof_yes (y m d h mi s : Int) (w : World) (hm : mayB y m d = true) (ht : todB h mi s = true) (hj : joB (num y m d) (h * 3600 + mi * 60 + s) = true) : Calls Try.prog 24 #[.agg #[.int .i64 y, .int .i64 m, .int .i64 d, .int .i64 h, .int .i64 mi, .int .i64 s]] w (Kept (.tuple #[.int .i64 (ofI y m d h mi s), .bool true]) w) := by
  have HM := Lib.hid hm
  have HT := Lib.hid ht
  have HJ := Lib.hid hj
  clear hm ht hj
  unfold ofI
  go_enter Try.func24, Try.ntmps24
  go_wp2_with fail
  refine (number_yes _ _ _ _ HM.out).mono ?_
  rintro e w1 ⟨rfl, hb⟩
  have q3 := mkept hb 3 rfl
  have q4 := mkept hb 4 rfl
  have q5 := mkept hb 5 rfl
  have hz : w.heap.size < w1.heap.size := by have := hb.size; simp at this; omega
  have HB := Lib.hid (bel_one hb)
  clear hb
  go_wp2_with fail
  refine (tod_yes _ _ _ _ HT.out).mono ?_
  rintro e w' ⟨rfl, rfl⟩
  go_wp2_with fail
  refine (join_yes _ _ _ HJ.out).mono ?_
  rintro e w' ⟨rfl, rfl⟩
  go_wp2
  go_ret2
  exact ⟨rfl, HB.out⟩

/-- what parts answer -/
def ofV (y m d h mi s : Int) : Value := if ofB y m d h mi s then .tuple #[.int .i64 (ofI y m d h mi s), .bool true] else .tuple #[.int .i64 0, .bool false]
theorem mof_any (y m d h mi s : Int) (w : World) : Calls Try.prog 24 #[.agg #[.int .i64 y, .int .i64 m, .int .i64 d, .int .i64 h, .int .i64 mi, .int .i64 s]] w (Kept (ofV y m d h mi s) w) := by
  unfold ofV ofB
  cases hm : mayB y m d
  · exact mof_no1 y m d h mi s w hm
  · cases ht : todB h mi s
    · exact mof_no2 y m d h mi s w hm ht
    · cases hj : joB (num y m d) (h * 3600 + mi * 60 + s)
      · exact mof_no3 y m d h mi s w hm ht hj
      · exact mof_yes y m d h mi s w hm ht hj
end Go.Proofs.Ytnoomlakgfdaeaa
