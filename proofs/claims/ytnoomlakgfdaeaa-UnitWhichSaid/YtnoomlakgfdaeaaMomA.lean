/- Contracts of package tod's Of, Parts, of package moment's In, Split, Join, Stamp, Of, and of the reference's. -/
import Derived.Test.YtnoomlakgfdaeaaCivG
namespace Go.Proofs.Ytnoomlakgfdaeaa
open Go.RowKit

/-- is there such a second of the day? -/
def todB (h m s : Int) : Bool := decide (0 ≤ h ∧ h ≤ 23 ∧ 0 ≤ m ∧ m ≤ 59 ∧ 0 ≤ s ∧ s ≤ 59)
theorem tod_ways (h m s : Int) : (decide (h < 0) = true ∧ todB h m s = false) ∨ (decide (h < 0) = false ∧ decide (24 ≤ h) = true ∧ todB h m s = false) ∨ (decide (h < 0) = false ∧ decide (24 ≤ h) = false ∧ decide (m < 0) = true ∧ todB h m s = false) ∨
    (decide (h < 0) = false ∧ decide (24 ≤ h) = false ∧ decide (m < 0) = false ∧ decide (60 ≤ m) = true ∧ todB h m s = false) ∨ (decide (h < 0) = false ∧ decide (24 ≤ h) = false ∧ decide (m < 0) = false ∧ decide (60 ≤ m) = false ∧ decide (s < 0) = true ∧ todB h m s = false) ∨
    (decide (h < 0) = false ∧ decide (24 ≤ h) = false ∧ decide (m < 0) = false ∧ decide (60 ≤ m) = false ∧ decide (s < 0) = false ∧ decide (60 ≤ s) = true ∧ todB h m s = false) ∨
    (decide (h < 0) = false ∧ decide (24 ≤ h) = false ∧ decide (m < 0) = false ∧ decide (60 ≤ m) = false ∧ decide (s < 0) = false ∧ decide (60 ≤ s) = false ∧ todB h m s = true) := by
  unfold todB
  simp only [decide_eq_true_eq, decide_eq_false_iff_not]
  omega
/-- what a second of the day answers -/
def todV (h m s : Int) : Value := if todB h m s then .tuple #[.int .i64 (h * 3600 + m * 60 + s), .bool true] else .tuple #[.int .i64 0, .bool false]

theorem tod_no (h m s : Int) (w : World) (hn : todB h m s = false) : Calls Try.prog 76 #[.int .i64 h, .int .i64 m, .int .i64 s] w fun e w' => e = .returned (.tuple #[.int .i64 0, .bool false]) ∧ w = w' := by
  rcases tod_ways h m s with ⟨c1, c⟩ | ⟨c1, c2, c⟩ | ⟨c1, c2, c3, c⟩ | ⟨c1, c2, c3, c4, c⟩ | ⟨c1, c2, c3, c4, c5, c⟩ | ⟨c1, c2, c3, c4, c5, c6, c⟩ | ⟨c1, c2, c3, c4, c5, c6, c⟩
  iterate 6
    · clear c hn
      go_enter Try.func76, Try.ntmps76
      go_wp2
      go_ret2
      exact ⟨rfl, rfl⟩
  · rw [hn] at c
    cases c
theorem tod_yes (h m s : Int) (w : World) (hy : todB h m s = true) : Calls Try.prog 76 #[.int .i64 h, .int .i64 m, .int .i64 s] w fun e w' => e = .returned (.tuple #[.int .i64 (h * 3600 + m * 60 + s), .bool true]) ∧ w = w' := by
  have hb := of_decide_eq_true hy
  rcases tod_ways h m s with ⟨c1, c⟩ | ⟨c1, c2, c⟩ | ⟨c1, c2, c3, c⟩ | ⟨c1, c2, c3, c4, c⟩ | ⟨c1, c2, c3, c4, c5, c⟩ | ⟨c1, c2, c3, c4, c5, c6, c⟩ | ⟨c1, c2, c3, c4, c5, c6, c⟩
  iterate 6
    · rw [hy] at c
      cases c
  · clear c hy
    go_enter Try.func76, Try.ntmps76
    go_wp2
    go_ret2
    exact ⟨rfl, rfl⟩

theorem parts_any (s : Int) (w : World) (h0 : 0 ≤ s) (h1 : s < 86400) : Calls Try.prog 75 #[.int .i64 s] w fun e w' => e = .returned (.tuple #[.int .i64 (s / 3600), .int .i64 (s / 60 % 60), .int .i64 (s % 60), .bool true]) ∧ w = w' := by
  have g1 : decide (s < 0) = false := decide_eq_false (by omega)
  have g2 : decide (86400 ≤ s) = false := decide_eq_false (by omega)
  go_enter Try.func75, Try.ntmps75
  go_wp2
  exact bodyPost_ret (by simp [results, Try.results75, go_sem]) rfl ⟨rfl, rfl⟩

/-- is an instant of the window? -/
def inW (t : Int) : Bool := decide (0 ≤ t ∧ t < 12622780800)
theorem inw_ways (t : Int) : (decide (0 ≤ t) = false ∧ inW t = false) ∨ (decide (0 ≤ t) = true ∧ decide (t < 12622780800) = false ∧ decide (t ≤ 12622780799) = false ∧ inW t = false) ∨ (decide (0 ≤ t) = true ∧ decide (t < 12622780800) = true ∧ decide (t ≤ 12622780799) = true ∧ inW t = true) := by
  unfold inW
  simp only [decide_eq_true_eq, decide_eq_false_iff_not]
  omega
theorem min_any (t : Int) (w : World) : Calls Try.prog 20 #[.int .i64 t] w fun e w' => e = .returned (.bool (inW t)) ∧ w = w' := by
  rcases inw_ways t with ⟨c1, c⟩ | ⟨c1, c2, c3, c⟩ | ⟨c1, c2, c3, c⟩
  all_goals
    rw [c]
    clear c
    go_enter Try.func20, Try.ntmps20
    go_wp2
    go_ret
    exact ⟨rfl, rfl⟩
theorem rmin_any (t : Int) (w : World) : Calls Try.prog 40 #[.int .i64 t] w fun e w' => e = .returned (.bool (inW t)) ∧ w = w' := by
  rcases inw_ways t with ⟨c1, c⟩ | ⟨c1, c2, c3, c⟩ | ⟨c1, c2, c3, c⟩
  all_goals
    rw [c]
    clear c
    go_enter Try.func40, Try.ntmps40
    go_wp2
    go_ret
    exact ⟨rfl, rfl⟩

theorem split_yes (t : Int) (w : World) (h : inW t = true) : Calls Try.prog 21 #[.int .i64 t] w fun e w' => e = .returned (.tuple #[.int .i64 (t / 86400), .int .i64 (t % 86400), .bool true]) ∧ w = w' := by
  obtain ⟨h0, h1⟩ := of_decide_eq_true h
  have H := Lib.hid h
  clear h
  go_enter Try.func21, Try.ntmps21
  go_wp2_with fail
  refine (min_any _ _).mono ?_
  rintro e w' ⟨rfl, rfl⟩
  rw [H.out]
  go_wp2
  go_ret3
  exact ⟨rfl, rfl⟩
theorem split_no (t : Int) (w : World) (h : inW t = false) : Calls Try.prog 21 #[.int .i64 t] w fun e w' => e = .returned (.tuple #[.int .i64 0, .int .i64 0, .bool false]) ∧ w = w' := by
  have H := Lib.hid h
  clear h
  go_enter Try.func21, Try.ntmps21
  go_wp2_with fail
  refine (min_any _ _).mono ?_
  rintro e w' ⟨rfl, rfl⟩
  rw [H.out]
  go_wp2
  go_ret3
  exact ⟨rfl, rfl⟩

/-- is there such an instant of the window? -/
def joB (d s : Int) : Bool := decide (0 ≤ d ∧ d < 146097 ∧ 0 ≤ s ∧ s < 86400)
theorem jo_ways (d s : Int) : (decide (d < 0) = true ∧ joB d s = false) ∨ (decide (d < 0) = false ∧ decide (146097 ≤ d) = true ∧ joB d s = false) ∨ (decide (d < 0) = false ∧ decide (146097 ≤ d) = false ∧ decide (s < 0) = true ∧ joB d s = false) ∨
    (decide (d < 0) = false ∧ decide (146097 ≤ d) = false ∧ decide (s < 0) = false ∧ decide (86400 ≤ s) = true ∧ joB d s = false) ∨ (decide (d < 0) = false ∧ decide (146097 ≤ d) = false ∧ decide (s < 0) = false ∧ decide (86400 ≤ s) = false ∧ joB d s = true) := by
  unfold joB
  simp only [decide_eq_true_eq, decide_eq_false_iff_not]
  omega
theorem join_no (d s : Int) (w : World) (hn : joB d s = false) : Calls Try.prog 22 #[.int .i64 d, .int .i64 s] w fun e w' => e = .returned (.tuple #[.int .i64 0, .bool false]) ∧ w = w' := by
  rcases jo_ways d s with ⟨c1, c⟩ | ⟨c1, c2, c⟩ | ⟨c1, c2, c3, c⟩ | ⟨c1, c2, c3, c4, c⟩ | ⟨c1, c2, c3, c4, c⟩
  iterate 4
    · clear c hn
      go_enter Try.func22, Try.ntmps22
      go_wp2
      go_ret2
      exact ⟨rfl, rfl⟩
  · rw [hn] at c
    cases c
theorem join_yes (d s : Int) (w : World) (hy : joB d s = true) : Calls Try.prog 22 #[.int .i64 d, .int .i64 s] w fun e w' => e = .returned (.tuple #[.int .i64 (d * 86400 + s), .bool true]) ∧ w = w' := by
  have hb := of_decide_eq_true hy
  rcases jo_ways d s with ⟨c1, c⟩ | ⟨c1, c2, c⟩ | ⟨c1, c2, c3, c⟩ | ⟨c1, c2, c3, c4, c⟩ | ⟨c1, c2, c3, c4, c⟩
  iterate 4
    · rw [hy] at c
      cases c
  · clear c hy
    go_enter Try.func22, Try.ntmps22
    go_wp2
    go_ret2
    exact ⟨rfl, rfl⟩

/-- an instant's parts -/
def stA (y m d h mi s : Int) : Value := .agg #[.int .i64 y, .int .i64 m, .int .i64 d, .int .i64 h, .int .i64 mi, .int .i64 s]
def stV (t : Int) : Value := stA (dY (t / 86400)) (dM (t / 86400)) (dD (t / 86400)) (t % 86400 / 3600) (t % 86400 / 60 % 60) (t % 86400 % 60)
def stZ : Value := stA 0 0 0 0 0 0

theorem stamp_no (t : Int) (w : World) (h : inW t = false) : Calls Try.prog 23 #[.int .i64 t] w (Kept (.tuple #[stZ, .bool false]) w) := by
  unfold stZ stA
  have H := Lib.hid h
  clear h
  go_enter Try.func23, Try.ntmps23
  go_wp2_with fail
  refine (split_no _ _ H.out).mono ?_
  rintro e w' ⟨rfl, rfl⟩
  go_wp2
  exact bodyPost_ret (by simp [results, Try.results23, go_sem]) rfl ⟨rfl, (Below.refl _ _).alloc (Nat.le_refl _) _⟩

theorem bel_one {w w1 : World} {o : Obj} (hb : Below (w.alloc o).heap.size (w.alloc o) w1) : Below w.heap.size w w1 :=
  ((Below.refl w.heap.size w).alloc (Nat.le_refl _) o).trans (hb.mono (by simp))
theorem bel_set {w W : World} {k : Nat} {v : Value} (h : Below w.heap.size w W) : Below w.heap.size w (W.setCell ⟨w.heap.size, k, none⟩ v) := h.setCell (Nat.le_refl _) _

set_option maxHeartbeats 1000000 in
theorem stamp_yes (t : Int) (w : World) (h : inW t = true) : Calls Try.prog 23 #[.int .i64 t] w (Kept (.tuple #[stV t, .bool true]) w) := by
  obtain ⟨h0, h1⟩ := of_decide_eq_true h
  unfold stV stA
  obtain ⟨D, hD⟩ : ∃ D, D = t / 86400 := ⟨_, rfl⟩
  obtain ⟨S, hS⟩ : ∃ S, S = t % 86400 := ⟨_, rfl⟩
  have d0 : 0 ≤ D ∧ D ≤ 146096 := by omega
  have s0 : 0 ≤ S ∧ S < 86400 := by omega
  rw [← hD, ← hS]
  have HD := Lib.hid hD
  have HS := Lib.hid hS
  have HI := Lib.hid h
  clear h hD hS
  have HM := Lib.hid (may_near D (by omega) (by omega))
  obtain ⟨y1, y2, m1, m2, d1, d2, d3⟩ := near_bd D (by omega) (by omega)
  clear d3
  obtain ⟨y, hy⟩ : ∃ y, y = dY D := ⟨_, rfl⟩
  obtain ⟨m, hm⟩ : ∃ m, m = dM D := ⟨_, rfl⟩
  obtain ⟨d, hd⟩ : ∃ d, d = dD D := ⟨_, rfl⟩
  rw [← hy, ← hm, ← hd]
  rw [← hy] at y1 y2
  rw [← hm] at m1 m2
  rw [← hd] at d1 d2
  have HY := Lib.hid hy
  have HMo := Lib.hid hm
  have HDa := Lib.hid hd
  clear hy hm hd
  obtain ⟨a, ha⟩ : ∃ a, a = S / 3600 := ⟨_, rfl⟩
  obtain ⟨b, hb⟩ : ∃ b, b = S / 60 % 60 := ⟨_, rfl⟩
  obtain ⟨c, hc⟩ : ∃ c, c = S % 60 := ⟨_, rfl⟩
  rw [← ha, ← hb, ← hc]
  have HA := Lib.hid ha
  have HB := Lib.hid hb
  have HC := Lib.hid hc
  clear ha hb hc
  go_enter Try.func23, Try.ntmps23
  go_wp2_with fail
  refine (split_yes _ _ HI.out).mono ?_
  rintro e w' ⟨rfl, rfl⟩
  rw [← HD.out, ← HS.out]
  go_wp2_with fail
  refine (date_yes D _ HM.out).mono ?_
  rintro e w1 ⟨rfl, hb⟩
  rw [← HY.out, ← HMo.out, ← HDa.out]
  obtain ⟨hc, hfz⟩ := bcell hb
  have hz : w.heap.size < w1.heap.size := by have := hb.size; simp at this; omega
  have HB1 := Lib.hid (bel_one hb)
  clear hb
  go_wp2_with fail
  refine (parts_any _ _ (by omega) (by omega)).mono ?_
  rintro e w' ⟨rfl, rfl⟩
  rw [← HA.out, ← HB.out, ← HC.out]
  go_wp2
  exact bodyPost_ret (by simp [results, Try.results23, go_sem, hc, hfz, hz]) rfl ⟨rfl, by
      (repeat (with_reducible apply bel_set))
      exact HB1.out⟩
end Go.Proofs.Ytnoomlakgfdaeaa
