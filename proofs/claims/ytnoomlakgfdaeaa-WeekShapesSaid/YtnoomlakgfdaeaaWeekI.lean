/- Contract of week.Days: the iterator it makes. -/
import Derived.Test.YtnoomlakgfdaeaaWeekG
namespace Go.Proofs.Ytnoomlakgfdaeaa
open Go.RowKit

/-- what week.Days leaves -/
def WPost (f q : Int) (w : World) (e : Ending) (w' : World) : Prop := e = .returned (.func (.func 88) #[] #[.pointer (some ⟨w.heap.size, 0, none⟩), .pointer (some ⟨w.heap.size + 1, 0, none⟩)]) ∧ Below w.heap.size w w' ∧ w'.cell? ⟨w.heap.size, 0, none⟩ = some (.int .i64 f) ∧ w'.cell? ⟨w.heap.size + 1, 0, none⟩ = some (.int .i64 q) ∧ w.heap.size + 2 ≤ w'.heap.size

set_option maxRecDepth 100000 in
set_option maxHeartbeats 4000000 in
theorem wdays_any (n T f q : Int) (w : World) (hf : (n < 0 ∧ f = 0) ∨ (n = 0 ∧ f = 0) ∨ (0 < n ∧ f = n)) (hq : (146096 < T ∧ q = 146096) ∨ (T = 146096 ∧ q = 146096) ∨ (T < 146096 ∧ q = T)) :
    Calls Try.prog 62 #[.int .i64 n, .int .i64 T] w (WPost f q w) := by
  have hmf : ∀ (fn : Fn) (first cap : Array Value) (w : World), (Instr.makeFunc fn first cap).run Try.prog w = .ok (.func fn first cap) w := fun _ _ _ _ => rfl
  rcases hf with ⟨h1, rfl⟩ | ⟨rfl, rfl⟩ | ⟨h1, rfl⟩
  all_goals rcases hq with ⟨h2, rfl⟩ | ⟨rfl, rfl⟩ | ⟨h2, rfl⟩
  all_goals
    go_enter Try.func62, Try.ntmps62
    go_wp2_with fail
    go_region
    go_wp2
    go_ret
    refine ⟨rfl, ?_, by go_simp, by go_simp, by simp⟩
    repeat (first | exact ((Below.refl _ _).alloc (Nat.le_refl _) _).alloc (by simp) _ | refine Below.setCell ?_ (by simp) _ | refine Below.drew ?_)
end Go.Proofs.Ytnoomlakgfdaeaa
