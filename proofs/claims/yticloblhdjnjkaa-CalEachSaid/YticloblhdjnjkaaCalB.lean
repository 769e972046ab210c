/- Contracts for chapter 28: a step, numbers of a field in order, an item that may be. -/
import Derived.Test.YticloblhdjnjkaaCalA
namespace Go.Proofs.Yticloblhdjnjkaa
open Go.RowKit

/-- an item -/
structure It where
  k : Int
  f : Int
  t : Int
  s : Int
/-- may a step be? is a number of a field? -/
def stB (s : Int) : Bool := decide (1 ≤ s) && decide (s ≤ 999)
def ofB (lo hi n : Int) : Bool := decide (lo ≤ n) && decide (n ≤ hi)
/-- may an item be one of a field? -/
def itB (i : It) (lo hi : Int) : Bool :=
  if i.k = 0 then (i.f == 0 && i.t == 0) && stB i.s
  else if i.k = 1 then (ofB lo hi i.f && i.t == 0) && i.s == 0
  else if i.k = 2 then ((ofB lo hi i.f && decide (i.t ≤ hi)) && decide (i.f ≤ i.t)) && stB i.s
  else if i.k = 3 then (ofB lo hi i.f && i.t == 0) && stB i.s
  else false

theorem step_any (s : Int) (w : World) : Calls Try.prog 69 #[.int .i64 s] w fun e w' => e = .returned (.bool (stB s)) ∧ w = w' := by
  unfold stB
  by_cases c1 : 1 ≤ s <;> by_cases c2 : s ≤ 999
  all_goals
    have e1 := by first | exact decide_eq_false (show ¬ 1 ≤ s from c1) | exact decide_eq_true (show 1 ≤ s from c1)
    have e2 := by first | exact decide_eq_false (show ¬ s ≤ 999 from c2) | exact decide_eq_true (show s ≤ 999 from c2)
    rw [e1, e2]
    clear c1 c2
    go_enter Try.func69, Try.ntmps69
    go_wp2
    go_ret
    exact ⟨rfl, rfl⟩

theorem of_ways (lo hi n : Int) : (decide (n < lo) = true ∧ ofB lo hi n = false) ∨ (decide (n < lo) = false ∧ decide (hi < n) = true ∧ ofB lo hi n = false) ∨ (decide (n < lo) = false ∧ decide (hi < n) = false ∧ ofB lo hi n = true) := by
  unfold ofB
  simp only [Bool.and_eq_true, Bool.and_eq_false_iff, decide_eq_true_eq, decide_eq_false_iff_not]
  omega
set_option maxHeartbeats 1000000 in
theorem of_one (lo hi n : Int) (b : Nat) (w : World) (hc : w.cell? ⟨b, 0, none⟩ = some (.int .i64 n)) :
    Calls Try.prog 70 #[.int .i64 lo, .int .i64 hi, .slice (some ⟨b, 0, none⟩) 1 1] w fun e w' => e = .returned (.bool (ofB lo hi n)) ∧ w = w' := by
  have bl := World.block_lt_of_cell? _ _ hc
  rcases of_ways lo hi n with ⟨c1, c⟩ | ⟨c1, c2, c⟩ | ⟨c1, c2, c⟩
  iterate 2
    · rw [c]
      clear c
      go_enter Try.func70, Try.ntmps70
      go_wp2
      refine wp_loop_rounds 1 ?_
      rw [rounds_succ]
      go_wp2
      go_ret
      exact ⟨rfl, rfl⟩
  · rw [c]
    clear c
    go_enter Try.func70, Try.ntmps70
    go_wp2
    refine wp_loop_rounds 2 ?_
    rw [rounds_succ]
    go_wp2
    rw [rounds_succ]
    go_wp2
    go_ret
    exact ⟨rfl, rfl⟩
theorem of_ways2 (lo hi n m : Int) (h : ofB lo hi n = true) : (decide (m < lo) = true ∧ ((ofB lo hi n && decide (m ≤ hi)) && decide (n ≤ m)) = false) ∨ (decide (m < lo) = false ∧ decide (hi < m) = true ∧ ((ofB lo hi n && decide (m ≤ hi)) && decide (n ≤ m)) = false) ∨
    (decide (m < lo) = false ∧ decide (hi < m) = false ∧ decide (m < n) = true ∧ ((ofB lo hi n && decide (m ≤ hi)) && decide (n ≤ m)) = false) ∨ (decide (m < lo) = false ∧ decide (hi < m) = false ∧ decide (m < n) = false ∧ ((ofB lo hi n && decide (m ≤ hi)) && decide (n ≤ m)) = true) := by
  rw [h]
  unfold ofB at h
  simp only [Bool.and_eq_true, Bool.and_eq_false_iff, decide_eq_true_eq, decide_eq_false_iff_not, Bool.true_and] at h ⊢
  omega
set_option maxHeartbeats 2000000 in
theorem of_two (lo hi n m : Int) (b : Nat) (w : World) (hc : w.cell? ⟨b, 0, none⟩ = some (.int .i64 n)) (hd : w.cell? ⟨b, 1, none⟩ = some (.int .i64 m)) :
    Calls Try.prog 70 #[.int .i64 lo, .int .i64 hi, .slice (some ⟨b, 0, none⟩) 2 2] w fun e w' => e = .returned (.bool ((ofB lo hi n && decide (m ≤ hi)) && decide (n ≤ m))) ∧ w = w' := by
  have bl := World.block_lt_of_cell? _ _ hc
  rcases of_ways lo hi n with ⟨c1, c⟩ | ⟨c1, c2, c⟩ | ⟨c1, c2, c⟩
  iterate 2
    · rw [c, Bool.false_and, Bool.false_and]
      clear c
      go_enter Try.func70, Try.ntmps70
      go_wp2
      refine wp_loop_rounds 1 ?_
      rw [rounds_succ]
      go_wp2
      go_ret
      exact ⟨rfl, rfl⟩
  · rcases of_ways2 lo hi n m c with ⟨d1, d⟩ | ⟨d1, d2, d⟩ | ⟨d1, d2, d3, d⟩ | ⟨d1, d2, d3, d⟩
    iterate 3
      · rw [d]
        clear c d
        go_enter Try.func70, Try.ntmps70
        go_wp2
        refine wp_loop_rounds 2 ?_
        rw [rounds_succ]
        go_wp2
        rw [rounds_succ]
        go_wp2
        go_ret
        exact ⟨rfl, rfl⟩
    · rw [d]
      clear c d
      go_enter Try.func70, Try.ntmps70
      go_wp2
      refine wp_loop_rounds 3 ?_
      rw [rounds_succ]
      go_wp2
      rw [rounds_succ]
      go_wp2
      rw [rounds_succ]
      go_wp2
      go_ret
      exact ⟨rfl, rfl⟩
end Go.Proofs.Yticloblhdjnjkaa
