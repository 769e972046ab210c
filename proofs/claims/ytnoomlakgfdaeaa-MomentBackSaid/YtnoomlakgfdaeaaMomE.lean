/- Contracts: the reference's Stamp, Of, Digits, Long, Basic; moment.Of. -/
import Derived.Test.YtnoomlakgfdaeaaMomD
namespace Go.Proofs.Ytnoomlakgfdaeaa
open Go.RowKit

set_option maxHeartbeats 1000000 in
theorem rstamp_any (t : Int) (w : World) (h : inW t = true) : Calls Try.prog 68 #[.int .i64 t] w (Kept (stV t) w) := by
  obtain ⟨h0, h1⟩ := of_decide_eq_true h
  unfold stV stA
  have e1 : t % 86400 / 60 % 60 = t % 3600 / 60 := by omega
  have e2 : t % 86400 % 60 = t % 60 := by omega
  rw [e1, e2]
  clear e1 e2
  obtain ⟨D, hD⟩ : ∃ D, D = t / 86400 := ⟨_, rfl⟩
  have d0 : 0 ≤ D ∧ D ≤ 146096 := by omega
  rw [← hD]
  have HM := Lib.hid (dateV_yes (may_near D (by omega) (by omega)))
  obtain ⟨y1, y2, m1, m2, d1, d2, d3⟩ := near_bd D (by omega) (by omega)
  have HD := Lib.hid hD
  clear h hD d3
  obtain ⟨y, hy⟩ : ∃ y, y = dY D := ⟨_, rfl⟩
  obtain ⟨m, hm⟩ : ∃ m, m = dM D := ⟨_, rfl⟩
  obtain ⟨d, hd⟩ : ∃ d, d = dD D := ⟨_, rfl⟩
  rw [← hy, ← hm, ← hd] at HM ⊢
  rw [← hy] at y1 y2
  rw [← hm] at m1 m2
  rw [← hd] at d1 d2
  clear hy hm hd
  go_enter Try.func68, Try.ntmps68
  go_wp2_with fail
  rw [← HD.out]
  refine (rdate_any _ _ (by omega) (by omega)).mono ?_
  rintro e w' ⟨rfl, rfl⟩
  rw [HM.out]
  go_wp2
  exact bodyPost_ret (by simp [results, Try.results68, go_sem]) rfl ⟨rfl, (Below.refl _ _).alloc (Nat.le_refl _) _⟩

/-- one byte as a text -/
theorem conv1 (W : World) (g : Nat) (hg : g = W.heap.size) (x : Int) :
    (convert 108 9 (.slice (some ⟨g, 0, none⟩) 1 1)).run Try.prog (W.alloc (.cells #[.int .u8 x] 5)) = .ok (.string (strOfNums [x])) (W.alloc (.cells #[.int .u8 x] 5)) := by
  subst hg
  exact run_convert_bytes_arg (P := Try.prog) _ 108 5 Try.underlying108 Try.underlying5 W.heap.size 0 1 1 [x] rfl (fun i hi => by
    match i, hi with
    | 0, _ => go_simp) 9 Try.underlying9

set_option maxRecDepth 100000 in
set_option maxHeartbeats 2000000 in
theorem rdig_two (n : Int) (w : World) (n0 : 0 ≤ n) (n1 : n ≤ 99) : Calls Try.prog 91 #[.int .i64 n, .int .i64 2] w (Kept (.string (D2 n)) w) := by
  have c0 := conv1 (w) (w.heap.size) (by simp) (48 + n % 10)
  have c1 := conv1 ((w).alloc (.cells #[.int .u8 (48 + n % 10)] 5)) (w.heap.size + 1) (by simp) (48 + n / 10 % 10)
  obtain ⟨T0, h0⟩ : ∃ T, T = strOfNums [48 + n % 10] := ⟨_, rfl⟩
  have z0 : T0.size ≤ 1 := by rw [h0, strOfNums_size]; simp
  rw [← h0] at c0
  obtain ⟨T1, h1⟩ : ∃ T, T = strOfNums [48 + n / 10 % 10] := ⟨_, rfl⟩
  have z1 : T1.size ≤ 1 := by rw [h1, strOfNums_size]; simp
  rw [← h1] at c1
  have hE : T1 ++ (T0 ++ ⟨#[]⟩) = D2 n := by
    rw [h0, h1]
    apply ByteArray.ext
    simp [strOfNums, D2]
  have HE := Lib.hid hE
  clear hE h0 h1
  go_enter Try.func91, Try.ntmps91
  go_wp2
  refine wp_loop_rounds 3 ?_
  rw [rounds_succ]
  go_wp2
  rw [rounds_succ]
  go_wp2
  rw [rounds_succ]
  go_wp2
  go_ret
  exact ⟨ret_val (congrArg Value.string HE.out), ((Below.refl _ _).alloc (Nat.le_refl _) _).alloc (by simp) _⟩

set_option maxRecDepth 100000 in
set_option maxHeartbeats 2000000 in
theorem rdig_four (n : Int) (w : World) (n0 : 0 ≤ n) (n1 : n ≤ 9999) : Calls Try.prog 91 #[.int .i64 n, .int .i64 4] w (Kept (.string (D4 n)) w) := by
  have c0 := conv1 (w) (w.heap.size) (by simp) (48 + n % 10)
  have c1 := conv1 ((w).alloc (.cells #[.int .u8 (48 + n % 10)] 5)) (w.heap.size + 1) (by simp) (48 + n / 10 % 10)
  have c2 := conv1 (((w).alloc (.cells #[.int .u8 (48 + n % 10)] 5)).alloc (.cells #[.int .u8 (48 + n / 10 % 10)] 5)) (w.heap.size + 1 + 1) (by simp) (48 + n / 10 / 10 % 10)
  have c3 := conv1 ((((w).alloc (.cells #[.int .u8 (48 + n % 10)] 5)).alloc (.cells #[.int .u8 (48 + n / 10 % 10)] 5)).alloc (.cells #[.int .u8 (48 + n / 10 / 10 % 10)] 5)) (w.heap.size + 1 + 1 + 1) (by simp) (48 + n / 10 / 10 / 10 % 10)
  obtain ⟨T0, h0⟩ : ∃ T, T = strOfNums [48 + n % 10] := ⟨_, rfl⟩
  have z0 : T0.size ≤ 1 := by rw [h0, strOfNums_size]; simp
  rw [← h0] at c0
  obtain ⟨T1, h1⟩ : ∃ T, T = strOfNums [48 + n / 10 % 10] := ⟨_, rfl⟩
  have z1 : T1.size ≤ 1 := by rw [h1, strOfNums_size]; simp
  rw [← h1] at c1
  obtain ⟨T2, h2⟩ : ∃ T, T = strOfNums [48 + n / 10 / 10 % 10] := ⟨_, rfl⟩
  have z2 : T2.size ≤ 1 := by rw [h2, strOfNums_size]; simp
  rw [← h2] at c2
  obtain ⟨T3, h3⟩ : ∃ T, T = strOfNums [48 + n / 10 / 10 / 10 % 10] := ⟨_, rfl⟩
  have z3 : T3.size ≤ 1 := by rw [h3, strOfNums_size]; simp
  rw [← h3] at c3
  have hE : T3 ++ (T2 ++ (T1 ++ (T0 ++ ⟨#[]⟩))) = D4 n := by
    rw [h0, h1, h2, h3]
    apply ByteArray.ext
    simp [strOfNums, D4]
  have HE := Lib.hid hE
  clear hE h0 h1 h2 h3
  go_enter Try.func91, Try.ntmps91
  go_wp2
  refine wp_loop_rounds 5 ?_
  rw [rounds_succ]
  go_wp2
  rw [rounds_succ]
  go_wp2
  rw [rounds_succ]
  go_wp2
  rw [rounds_succ]
  go_wp2
  rw [rounds_succ]
  go_wp2
  go_ret
  exact ⟨ret_val (congrArg Value.string HE.out), ((((Below.refl _ _).alloc (Nat.le_refl _) _).alloc (by simp) _).alloc (by simp; omega) _).alloc (by simp; omega) _⟩

end Go.Proofs.Ytnoomlakgfdaeaa
