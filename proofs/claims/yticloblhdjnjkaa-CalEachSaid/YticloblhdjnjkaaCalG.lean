/- Contracts for chapter 28: what is wrong first (Check, the reference's Check); whether an event is great; the chapter's example. -/
import Derived.Test.YticloblhdjnjkaaCalF
namespace Go.Proofs.Yticloblhdjnjkaa
open Go.RowKit

/-- the first of the fields k, k + 1, .. (so many) at which something is wrong, and what -/
def chkF (g : Nat → Int) : Nat → Nat → Int × Int
  | _, 0 => (7, 0)
  | k, n + 1 => if g k = 0 then chkF g (k + 1) n else ((k : Int), g k)
def chk (l : Nat → Sl) : Int × Int := chkF (fun j => flt j (l j).xs) 0 7
theorem chk_on {g : Nat → Int} {k : Nat} {R : Int × Int} (hk : k < 7) (h : chkF g k (7 - k) = R) (hg : g k = 0) : chkF g (k + 1) (7 - (k + 1)) = R := by
  rw [show 7 - k = (7 - (k + 1)) + 1 by omega] at h
  unfold chkF at h
  rw [if_pos hg] at h
  exact h
theorem chk_hit {g : Nat → Int} {k : Nat} {R : Int × Int} (hk : k < 7) (h : chkF g k (7 - k) = R) (hg : g k ≠ 0) : R = ((k : Int), g k) := by
  rw [show 7 - k = (7 - (k + 1)) + 1 by omega] at h
  unfold chkF at h
  rw [if_neg hg] at h
  exact h.symm

theorem ret_ii {a b c d : Int} (h1 : a = c) (h2 : b = d) : Ending.returned (.tuple #[.int .i64 a, .int .i64 b]) = .returned (.tuple #[.int .i64 c, .int .i64 d]) := by rw [h1, h2]
theorem calAt_box (l : Nat → Sl) (b : Bool) (w : World) (t : TypeId) : CalAt (w.alloc (.cells #[(l 0).v, (l 1).v, (l 2).v, (l 3).v, .bool b, (l 4).v, (l 5).v, (l 6).v] t)) w.heap.size l b := by
  refine ⟨?_, ?_, ?_, ?_, ?_, ?_, ?_, ?_⟩
  all_goals (rw [World.cell?_alloc_at _ _ _ _ rfl]; rfl)

set_option maxRecDepth 100000 in
set_option maxHeartbeats 4000000 in
theorem check_any (l : Nat → Sl) (b : Bool) (w : World) (hok : ∀ j, (l j).ok w) : Calls Try.prog 37 #[calV l b] w (Kept (.tuple #[.int .i64 (chk l).1, .int .i64 (chk l).2]) w) := by
  obtain ⟨R, hR⟩ : ∃ R, R = chk l := ⟨_, rfl⟩
  rw [← hR]
  have hbox := calAt_box l b w 57
  obtain ⟨A0, n0, c0, q0⟩ := Sl.v_form (l 0)
  obtain ⟨A1, n1, c1, q1⟩ := Sl.v_form (l 1)
  obtain ⟨A2, n2, c2, q2⟩ := Sl.v_form (l 2)
  obtain ⟨A3, n3, c3, q3⟩ := Sl.v_form (l 3)
  obtain ⟨A4, n4, c4, q4⟩ := Sl.v_form (l 4)
  obtain ⟨A5, n5, c5, q5⟩ := Sl.v_form (l 5)
  obtain ⟨A6, n6, c6, q6⟩ := Sl.v_form (l 6)
  unfold calV
  rw [q0, q1, q2, q3, q4, q5, q6] at hbox ⊢
  have HR := Lib.hid hR
  have HO := Lib.hid hok
  have HX := Lib.hid hbox
  have fl : ∀ k : Nat, k < 7 → fldS l (k : Int) = l k := fun k hk => by rw [fld_in l (by omega) (by omega)]; simp
  have HFL := Lib.hid fl
  clear hR hok q0 q1 q2 q3 q4 q5 q6 hbox fl
  go_enter Try.func37, Try.ntmps37
  go_wp2_with fail
  go_loopw [6] (fun i wr => ∃ k : Nat, k ≤ 7 ∧ i = .int .i64 k ∧ Hid (chkF (fun j => flt j (l j).xs) k (7 - k) = R) ∧ Hid (Below w.heap.size w wr ∧ CalAt wr w.heap.size l b)) (fun i _ => 7 - (intOf i).toNat)
  case atStart => exact ⟨0, by omega, rfl, Lib.hid (by rw [HR.out]; rfl), Lib.hid ⟨(Below.refl _ _).alloc (Nat.le_refl _) _, HX.out⟩⟩
  case round =>
    obtain ⟨k, hk, rfl, HC, HB⟩ := hrel
    by_cases hlt : k < 7
    · have hf := fault_any (k : Int) (l k)
      have on := chk_on hlt HC.out
      have hit := chk_hit hlt HC.out
      obtain ⟨g, hg⟩ : ∃ g, g = flt (k : Int) (l k).xs := ⟨_, rfl⟩
      rw [← hg] at hf
      simp only [← hg] at on hit
      have HF := Lib.hid hf
      have HON := Lib.hid on
      have HIT := Lib.hid hit
      clear hg hf on hit
      go_wp2_with fail
      refine (list_any _ _ l b _ HB.out.2).mono ?_
      rintro e w2 ⟨rfl, hb⟩
      rw [HFL.out k hlt]
      have HB2 : Hid (Below w.heap.size w w2 ∧ CalAt w2 w.heap.size l b) := Lib.hid ⟨below_on HB.out.1 hb, HB.out.2.below hb⟩
      clear hb
      go_wp2_with fail
      refine (HF.out _ (by omega) (by omega) ((HO.out k).below HB2.out.1)).mono ?_
      rintro e w3 ⟨rfl, hb⟩
      have HB3 : Hid (Below w.heap.size w w3 ∧ CalAt w3 w.heap.size l b) := Lib.hid ⟨below_on HB2.out.1 hb, HB2.out.2.below hb⟩
      clear hb
      by_cases hz : g = 0
      · have HC' := Lib.hid (HON.out hz)
        subst hz
        go_wp2
        go_roundw
        case rel => exact ⟨k + 1, by omega, by go_num, HC', HB3⟩
        case measure => simp [intOf]; omega
      · have HC' := Lib.hid (HIT.out hz)
        have hz' : (g != 0) = true := by simp [hz]
        go_wp2
        go_ret2
        exact ⟨ret_ii (by rw [HC'.out]) (by rw [HC'.out]), HB3.out.1⟩
    · obtain rfl : k = 7 := by omega
      have HC' : Hid ((7, 0) = R) := Lib.hid HC.out
      go_wp2
      go_ret2
      exact ⟨ret_ii (by rw [← HC'.out]) (by rw [← HC'.out]), HB.out.1⟩

/-- is one of the fields k, k + 1, .. (so many) more than is gone through? -/
def grF (l : Nat → Sl) : Nat → Nat → Bool
  | _, 0 => false
  | k, n + 1 => decide (500 < (l k).xs.length) || grF l (k + 1) n
def greatB (l : Nat → Sl) : Bool := grF l 0 7
theorem gr_on {l : Nat → Sl} {k : Nat} {R : Bool} (hk : k < 7) (h : grF l k (7 - k) = R) (hg : ¬ 500 < (l k).xs.length) : grF l (k + 1) (7 - (k + 1)) = R := by
  rw [show 7 - k = (7 - (k + 1)) + 1 by omega] at h
  unfold grF at h
  rw [decide_eq_false hg, Bool.false_or] at h
  exact h
theorem gr_hit {l : Nat → Sl} {k : Nat} {R : Bool} (hk : k < 7) (h : grF l k (7 - k) = R) (hg : 500 < (l k).xs.length) : true = R := by
  rw [show 7 - k = (7 - (k + 1)) + 1 by omega] at h
  unfold grF at h
  rw [decide_eq_true hg, Bool.true_or] at h
  exact h
theorem gr_len {l : Nat → Sl} (h : greatB l = false) (j : Nat) (hj : j < 7) : (l j).xs.length ≤ 500 := by
  unfold greatB grF grF grF grF grF grF grF grF at h
  simp only [Bool.or_eq_false_iff, decide_eq_false_iff_not] at h
  obtain ⟨h0, h1, h2, h3, h4, h5, h6, _⟩ := h
  match j, hj with
  | 0, _ => omega
  | 1, _ => exact Nat.not_lt.1 h1
  | 2, _ => exact Nat.not_lt.1 h2
  | 3, _ => exact Nat.not_lt.1 h3
  | 4, _ => exact Nat.not_lt.1 h4
  | 5, _ => exact Nat.not_lt.1 h5
  | 6, _ => exact Nat.not_lt.1 h6

set_option maxRecDepth 100000 in
set_option maxHeartbeats 4000000 in
theorem great_any (l : Nat → Sl) (b : Bool) (w : World) : Calls Try.prog 35 #[calV l b] w (Kept (.bool (greatB l)) w) := by
  obtain ⟨R, hR⟩ : ∃ R, R = greatB l := ⟨_, rfl⟩
  rw [← hR]
  have hbox := calAt_box l b w 57
  have hrf := fun (f : Int) => rfield_any f l b
  obtain ⟨A0, n0, c0, q0⟩ := Sl.v_form (l 0)
  obtain ⟨A1, n1, c1, q1⟩ := Sl.v_form (l 1)
  obtain ⟨A2, n2, c2, q2⟩ := Sl.v_form (l 2)
  obtain ⟨A3, n3, c3, q3⟩ := Sl.v_form (l 3)
  obtain ⟨A4, n4, c4, q4⟩ := Sl.v_form (l 4)
  obtain ⟨A5, n5, c5, q5⟩ := Sl.v_form (l 5)
  obtain ⟨A6, n6, c6, q6⟩ := Sl.v_form (l 6)
  unfold calV at hrf ⊢
  rw [q0, q1, q2, q3, q4, q5, q6] at hbox ⊢
  simp only [q0, q1, q2, q3, q4, q5, q6] at hrf
  have hcs : ∀ W, CalAt W w.heap.size l b → W.cell? ⟨w.heap.size, 0, none⟩ = some (.slice A0 n0 c0) ∧ W.cell? ⟨w.heap.size, 1, none⟩ = some (.slice A1 n1 c1) ∧ W.cell? ⟨w.heap.size, 2, none⟩ = some (.slice A2 n2 c2) ∧ W.cell? ⟨w.heap.size, 3, none⟩ = some (.slice A3 n3 c3) ∧
      W.cell? ⟨w.heap.size, 4, none⟩ = some (.bool b) ∧ W.cell? ⟨w.heap.size, 5, none⟩ = some (.slice A4 n4 c4) ∧ W.cell? ⟨w.heap.size, 6, none⟩ = some (.slice A5 n5 c5) ∧ W.cell? ⟨w.heap.size, 7, none⟩ = some (.slice A6 n6 c6) := fun W h => by
    obtain ⟨d0, d1, d2, d3, d4, d5, d6, d7⟩ := h
    rw [q0] at d0
    rw [q1] at d1
    rw [q2] at d2
    rw [q3] at d3
    rw [q4] at d5
    rw [q5] at d6
    rw [q6] at d7
    exact ⟨d0, d1, d2, d3, d4, d5, d6, d7⟩
  have HR := Lib.hid hR
  have HX := Lib.hid hbox
  have HRF := Lib.hid hrf
  have HCS := Lib.hid hcs
  have fl : ∀ k : Nat, k < 7 → (fldS l (k : Int)).v = .slice (l k).A (l k).xs.length (l k).c := fun k hk => by rw [fld_in l (by omega) (by omega)]; rfl
  have HFL := Lib.hid fl
  clear hR q0 q1 q2 q3 q4 q5 q6 hbox fl hrf hcs
  go_enter Try.func35, Try.ntmps35
  go_wp2_with fail
  go_loopw [3] (fun i wr => ∃ k : Nat, k ≤ 7 ∧ i = .int .i64 k ∧ Hid (grF l k (7 - k) = R) ∧ Hid (Below w.heap.size w wr ∧ CalAt wr w.heap.size l b)) (fun i _ => 7 - (intOf i).toNat)
  case atStart => exact ⟨0, by omega, rfl, Lib.hid (by rw [HR.out]; rfl), Lib.hid ⟨(Below.refl _ _).alloc (Nat.le_refl _) _, HX.out⟩⟩
  case round =>
    obtain ⟨k, hk, rfl, HC, HB⟩ := hrel
    by_cases hlt : k < 7
    · have on := gr_on hlt HC.out
      have hit := gr_hit hlt HC.out
      obtain ⟨d0, d1, d2, d3, d4, d5, d6, d7⟩ := HCS.out wr HB.out.2
      have hv := HFL.out k hlt
      obtain ⟨A, hA⟩ : ∃ A, A = (l k).A := ⟨_, rfl⟩
      obtain ⟨n, hn⟩ : ∃ n, n = (l k).xs.length := ⟨_, rfl⟩
      obtain ⟨c, hc⟩ : ∃ c, c = (l k).c := ⟨_, rfl⟩
      rw [← hA, ← hn, ← hc] at hv
      rw [← hn] at on hit
      have HON := Lib.hid on
      have HIT := Lib.hid hit
      have HV := Lib.hid hv
      clear hn hA hc hv on hit
      have bl := World.block_lt_of_cell? _ _ d0
      go_wp2_with fail
      refine (HRF.out _ _).mono ?_
      rintro e w2 ⟨rfl, hb⟩
      rw [HV.out]
      have HB2 : Hid (Below w.heap.size w w2 ∧ CalAt w2 w.heap.size l b) := Lib.hid ⟨below_on HB.out.1 hb, HB.out.2.below hb⟩
      clear hb d0 d1 d2 d3 d4 d5 d6 d7
      by_cases hz : 500 < n
      · have HC' := Lib.hid (HIT.out hz)
        go_wp2
        go_ret
        exact ⟨ret_val (congrArg Value.bool HC'.out), HB2.out.1⟩
      · have HC' := Lib.hid (HON.out hz)
        go_wp2
        go_roundw
        case rel => exact ⟨k + 1, by omega, by go_num, HC', HB2⟩
        case measure => simp [intOf]; omega
    · obtain rfl : k = 7 := by omega
      have HC' : Hid (false = R) := Lib.hid HC.out
      go_wp2
      go_ret
      exact ⟨ret_val (congrArg Value.bool HC'.out), HB.out.1⟩
end Go.Proofs.Yticloblhdjnjkaa
