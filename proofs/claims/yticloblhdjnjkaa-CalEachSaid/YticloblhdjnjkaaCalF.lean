/- Contract for chapter 28: what is wrong with a field's list. -/
import Derived.Test.YticloblhdjnjkaaCalE
import Derived.Deep.RegionHeld3
namespace Go.Proofs.Yticloblhdjnjkaa
open Go.RowKit

/-- what is wrong with a field's list -/
def flt (f : Int) (xs : List It) : Int :=
  if xs.length = 0 then (if f = 0 then 0 else 11) else if mst f < (xs.length : Int) then 5 else if (xs.any fun i => !itB i (bLo f) (bHi f)) then 1 else if (xs.any (oddB f xs.length)) then 1 else 0
theorem mst_bd (f : Int) : 64 ≤ mst f ∧ mst f ≤ 400 := by unfold mst; split <;> omega

theorem keepF {w W w2 : World} {B X : Nat} {u v : Value} (hb : Below W.heap.size W w2)
    (h : Below w.heap.size w W ∧ W.cell? ⟨B, 0, none⟩ = some u ∧ W.cell? ⟨X, 0, none⟩ = some v) :
    Below w.heap.size w w2 ∧ w2.cell? ⟨B, 0, none⟩ = some u ∧ w2.cell? ⟨X, 0, none⟩ = some v :=
  ⟨below_on h.1 hb, (hb.cell (World.block_lt_of_cell? _ _ h.2.1)).trans h.2.1, (hb.cell (World.block_lt_of_cell? _ _ h.2.2)).trans h.2.2⟩
theorem below_two {w w1 : World} {o o' : Obj} (hb : Below ((w.alloc o).alloc o').heap.size ((w.alloc o).alloc o') w1) : Below w.heap.size w w1 :=
  (((Below.refl _ _).alloc (Nat.le_refl _) o).alloc (by simp) o').trans (hb.mono (by simp; omega))

set_option maxHeartbeats 4000000 in
theorem fault_none (f : Int) (A : Option Addr) (c : Nat) (w : World) :
    Calls Try.prog 53 #[.int .i64 f, .slice A 0 c] w (Kept (.int .i64 (if f = 0 then 0 else 11)) w) := by
  by_cases h : f = 0
  · rw [if_pos h]
    subst h
    go_enter Try.func53, Try.ntmps53
    go_wp2_with fail
    refine (bounds_any _ _).mono ?_
    rintro e w1 ⟨rfl, hb⟩
    have r0 : w1.cell? ⟨w.heap.size, 0, none⟩ = some (.int .i64 0) := (hb.cell (p := ⟨w.heap.size, 0, none⟩) (by simp; omega)).trans (by go_simp)
    have r1 : w1.cell? ⟨w.heap.size + 1, 0, none⟩ = some (.slice A 0 c) := (hb.cell (p := ⟨w.heap.size + 1, 0, none⟩) (by simp)).trans (by go_simp)
    have HB := Lib.hid (below_two hb)
    clear hb
    go_wp2
    go_ret
    exact ⟨rfl, HB.out⟩
  · rw [if_neg h]
    have g : (f == 0) = false := beq_eq_false_iff_ne.2 h
    clear h
    go_enter Try.func53, Try.ntmps53
    go_wp2_with fail
    refine (bounds_any _ _).mono ?_
    rintro e w1 ⟨rfl, hb⟩
    have r0 : w1.cell? ⟨w.heap.size, 0, none⟩ = some (.int .i64 f) := (hb.cell (p := ⟨w.heap.size, 0, none⟩) (by simp; omega)).trans (by go_simp)
    have r1 : w1.cell? ⟨w.heap.size + 1, 0, none⟩ = some (.slice A 0 c) := (hb.cell (p := ⟨w.heap.size + 1, 0, none⟩) (by simp)).trans (by go_simp)
    have HB := Lib.hid (below_two hb)
    clear hb
    go_wp2
    go_ret
    exact ⟨rfl, HB.out⟩

set_option maxHeartbeats 4000000 in
theorem fault_some (f : Int) (l : Sl) (w : World) (f1 : 0 ≤ f) (f2 : f ≤ 6) (hok : l.ok w) (hn : 0 < l.xs.length) :
    Calls Try.prog 53 #[.int .i64 f, l.v] w (Kept (.int .i64 (flt f l.xs)) w) := by
  have mb := mst_bd f
  have hm := hok.2
  have hF : flt f l.xs = if mst f < (l.xs.length : Int) then 5 else if (l.xs.any fun i => !itB i (bLo f) (bHi f)) then 1 else if (l.xs.any (oddB f l.xs.length)) then 1 else 0 := by
    unfold flt
    rw [if_neg (by omega)]
  have hb1 := b_bd f
  have hb2 := b_ord f1 f2
  have hmo : ∀ w, Calls Try.prog 60 #[.int .i64 f] w fun e w' => e = .returned (.int .i64 (mst f)) ∧ w' = w := fun w => (most_any f w).mono fun _ _ ⟨he, hw⟩ => ⟨he, hw.symm⟩
  have hr := fun (W : World) (ok : l.ok W) (hle : (l.xs.length : Int) ≤ mst f) => right_any (bLo f) (bHi f) (mst f) l W ok hb1.1 hb2 (by omega) hn hle (by omega)
  have hv : l.v = .slice l.A l.xs.length l.c := rfl
  have hE : ∀ (args : Array Value) (w : World), Sem.run Try.prog (callFunc 63 args) w = .ok (.enter 63 args) w := fun _ _ => by kernel_rfl
  have hc := fun (W : World) (a b : Option Addr) (ok : l.ok W) => containsfunc_any (oddB f l.xs.length) 63 hE a b l W ok
  have hcl := fun (i : It) (W : World) (F L : Nat) => odd_closure f l.xs.length l.xs.length i l.A l.c F L W rfl
  obtain ⟨R, hRR⟩ : ∃ R, R = flt f l.xs := ⟨_, rfl⟩
  rw [← hRR] at hF ⊢
  clear hRR
  obtain ⟨n, hnn⟩ : ∃ n, n = l.xs.length := ⟨_, rfl⟩
  obtain ⟨M, hM⟩ : ∃ M, M = mst f := ⟨_, rfl⟩
  obtain ⟨bad, hbad⟩ : ∃ b, b = (l.xs.any fun i => !itB i (bLo f) (bHi f)) := ⟨_, rfl⟩
  rw [← hbad] at hF hr
  rw [← hM] at hF hr hmo mb
  rw [← hnn] at hF hr hv hcl hn hm hc
  obtain ⟨od, hod⟩ : ∃ b, b = l.xs.any (oddB f n) := ⟨_, rfl⟩
  rw [← hod] at hF hc
  obtain ⟨lo, hlo⟩ : ∃ x, x = bLo f := ⟨_, rfl⟩
  obtain ⟨hi, hhi⟩ : ∃ x, x = bHi f := ⟨_, rfl⟩
  rw [← hlo, ← hhi] at hr
  have HF := Lib.hid hF
  have HMO := Lib.hid hmo
  have hr2 : ∀ W : World, l.ok W → (n : Int) ≤ M → Calls Try.prog 61 #[.int .i64 lo, .int .i64 hi, .int .i64 M, .slice l.A n l.c] W (Kept (.bool (!bad)) W) := fun W ok h => by
    have := hr W ok h
    rw [hv] at this
    exact this
  have hc2 : ∀ (W : World) (a b : Option Addr), l.ok W → (∀ (i : It) (w' : World), Below W.heap.size W w' → Calls Try.prog 63 #[i.v, .pointer a, .pointer b] w' (Kept (.bool (oddB f n i)) w')) →
      Calls Try.prog 62 #[.slice l.A n l.c, .func (.func 63) #[] #[.pointer a, .pointer b]] W (Kept (.bool od) W) := fun W a b ok h => by
    have := hc W a b ok h
    rw [hv] at this
    exact this
  have HR := Lib.hid hr2
  have HV := Lib.hid hv
  have HC := Lib.hid hc2
  have HCL := Lib.hid hcl
  have HO := Lib.hid hok
  have HLO := Lib.hid hlo
  have HHI := Lib.hid hhi
  clear hF hmo hr hr2 hc2 hv hc hcl hok hE hb1 hb2 hnn hM hbad hod hlo hhi
  have e0 : ((n : Int) == 0) = false := beq_eq_false_iff_ne.2 (by omega)
  rw [HV.out]
  by_cases hgt : M < (n : Int)
  · have HQ : Hid (5 = R) := Lib.hid (by rw [HF.out, if_pos hgt])
    have g1 : decide (M < (n : Int)) = true := decide_eq_true hgt
    go_enter Try.func53, Try.ntmps53
    go_wp2_with fail
    refine (bounds_any _ _).mono ?_
    rintro e w1 ⟨rfl, hb⟩
    have r0 : w1.cell? ⟨w.heap.size, 0, none⟩ = some (.int .i64 f) := (hb.cell (p := ⟨w.heap.size, 0, none⟩) (by simp; omega)).trans (by go_simp)
    have r1 : w1.cell? ⟨w.heap.size + 1, 0, none⟩ = some (.slice l.A n l.c) := (hb.cell (p := ⟨w.heap.size + 1, 0, none⟩) (by simp)).trans (by go_simp)
    have HB := Lib.hid (below_two hb)
    clear hb
    go_wp2_with fail
    go_quiet ((go_at_call 60; exact Calls.quiet_of_same (HMO.out _)))
    go_wp2
    go_ret
    exact ⟨ret_int HQ.out, below_drewN HB.out _⟩
  · have HQ : Hid ((if bad then 1 else if od then 1 else 0) = R) := Lib.hid (by rw [HF.out, if_neg hgt])
    have hle : (n : Int) ≤ M := by omega
    have g1 : decide (M < (n : Int)) = false := decide_eq_false hgt
    go_enter Try.func53, Try.ntmps53
    go_wp2_with fail
    refine (bounds_any _ _).mono ?_
    rintro e w1 ⟨rfl, hb⟩
    rw [← HLO.out, ← HHI.out]
    have r0 : w1.cell? ⟨w.heap.size, 0, none⟩ = some (.int .i64 f) := (hb.cell (p := ⟨w.heap.size, 0, none⟩) (by simp; omega)).trans (by go_simp)
    have r1 : w1.cell? ⟨w.heap.size + 1, 0, none⟩ = some (.slice l.A n l.c) := (hb.cell (p := ⟨w.heap.size + 1, 0, none⟩) (by simp)).trans (by go_simp)
    have HB := Lib.hid (below_two hb)
    clear hb
    go_wp2_with fail
    go_quiet ((go_at_call 60; exact Calls.quiet_of_same (HMO.out _)))
    have HB1 : Hid (Below w.heap.size w (w1.drewN nq)) := Lib.hid (below_drewN HB.out nq)
    cases bad
    · go_wp2_with fail
      go_region_held3 (fun w' => Below w.heap.size w w' ∧ w'.cell? ⟨w.heap.size, 0, none⟩ = some (.int .i64 f) ∧ w'.cell? ⟨w.heap.size + 1, 0, none⟩ = some (.slice l.A n l.c))
        (first | exact ⟨below_drewN (below_drewN HB.out nq) 1, r0, r1⟩ | exact keepF hb2 (by assumption))
        (first
          | (go_at_call 60; refine (HMO.out _).mono ?_; rintro e w' ⟨rfl, rfl⟩)
          | (go_at_call 61; refine (HR.out _ (HO.out.below (by assumption : _ ∧ _).1) hle).mono ?_; rintro e w2 ⟨rfl, hb2⟩))
      rename_i hh
      obtain ⟨hbb, t0, t1⟩ := hh
      have HB2 := Lib.hid hbb
      clear hb2 hbb r0 r1
      have hc1 := HC.out w2 (some ⟨w.heap.size, 0, none⟩) (some ⟨w.heap.size + 1, 0, none⟩) (HO.out.below HB2.out) (fun i w' hb' => HCL.out i w' w.heap.size (w.heap.size + 1) ((hb'.cell (World.block_lt_of_cell? _ _ t0)).trans t0) ((hb'.cell (World.block_lt_of_cell? _ _ t1)).trans t1))
      have HC1 := Lib.hid hc1
      clear hc1
      cases od
      · go_wp2_with fail
        refine HC1.out.mono ?_
        rintro e w3 ⟨rfl, hb⟩
        have HB3 := Lib.hid (below_on HB2.out hb)
        clear hb
        go_wp2
        go_ret
        exact ⟨ret_int HQ.out, HB3.out⟩
      · go_wp2_with fail
        refine HC1.out.mono ?_
        rintro e w3 ⟨rfl, hb⟩
        have HB3 := Lib.hid (below_on HB2.out hb)
        clear hb
        go_wp2
        go_ret
        exact ⟨ret_int HQ.out, HB3.out⟩
    · go_wp2_with fail
      go_region_held3 (fun w' => Below w.heap.size w w' ∧ w'.cell? ⟨w.heap.size, 0, none⟩ = some (.int .i64 f) ∧ w'.cell? ⟨w.heap.size + 1, 0, none⟩ = some (.slice l.A n l.c))
        (first | exact ⟨below_drewN (below_drewN HB.out nq) 1, r0, r1⟩ | exact keepF hb2 (by assumption))
        (first
          | (go_at_call 60; refine (HMO.out _).mono ?_; rintro e w' ⟨rfl, rfl⟩)
          | (go_at_call 61; refine (HR.out _ (HO.out.below (by assumption : _ ∧ _).1) hle).mono ?_; rintro e w2 ⟨rfl, hb2⟩))
      rename_i hh
      obtain ⟨hbb, t0, t1⟩ := hh
      have HB2 := Lib.hid hbb
      clear hb2 hbb r0 r1
      go_wp2
      go_ret
      exact ⟨ret_int HQ.out, HB2.out⟩

theorem fault_any (f : Int) (l : Sl) (w : World) (f1 : 0 ≤ f) (f2 : f ≤ 6) (hok : l.ok w) : Calls Try.prog 53 #[.int .i64 f, l.v] w (Kept (.int .i64 (flt f l.xs)) w) := by
  by_cases h : l.xs.length = 0
  · have e1 : flt f l.xs = if f = 0 then 0 else 11 := by unfold flt; rw [if_pos h]
    have e2 : l.v = .slice l.A 0 l.c := by unfold Sl.v; rw [h]
    rw [e1, e2]
    exact fault_none f l.A l.c w
  · exact fault_some f l w f1 f2 hok (by omega)
end Go.Proofs.Yticloblhdjnjkaa
