/- Contracts for chapter 28: slices of items; an item that may not stand in a field; the closures; the first item that is so; whether there is one; a list that may be. -/
import Derived.Test.YticloblhdjnjkaaCalC
namespace Go.Proofs.Yticloblhdjnjkaa
open Go.RowKit

/-- a slice of items: where it lies, its capacity, what it holds -/
structure Sl where
  A : Option Addr
  c : Nat
  xs : List It
def Sl.v (l : Sl) : Value := .slice l.A l.xs.length l.c
def ItsAt (w : World) (A : Option Addr) (xs : List It) : Prop :=
  ∀ k, k < xs.length → ∃ b off, A = some ⟨b, off, none⟩ ∧ w.cell? ⟨b, off + k * 4, none⟩ = some (.int .i64 (xs.getD k ⟨0, 0, 0, 0⟩).k) ∧ w.cell? ⟨b, off + k * 4 + 1, none⟩ = some (.int .i64 (xs.getD k ⟨0, 0, 0, 0⟩).f) ∧
    w.cell? ⟨b, off + k * 4 + 2, none⟩ = some (.int .i64 (xs.getD k ⟨0, 0, 0, 0⟩).t) ∧ w.cell? ⟨b, off + k * 4 + 3, none⟩ = some (.int .i64 (xs.getD k ⟨0, 0, 0, 0⟩).s)
def Sl.ok (l : Sl) (w : World) : Prop := ItsAt w l.A l.xs ∧ l.xs.length ≤ 9223372036854775807
def calV (l : Nat → Sl) (b : Bool) : Value := .agg #[(l 0).v, (l 1).v, (l 2).v, (l 3).v, .bool b, (l 4).v, (l 5).v, (l 6).v]

theorem ItsAt.below {w w' : World} {A : Option Addr} {xs : List It} (h : ItsAt w A xs) (hb : Below w.heap.size w w') : ItsAt w' A xs := by
  intro k hk
  obtain ⟨b, off, rfl, h1, h2, h3, h4⟩ := h k hk
  exact ⟨b, off, rfl, (hb.cell (World.block_lt_of_cell? _ _ h1)).trans h1, (hb.cell (World.block_lt_of_cell? _ _ h2)).trans h2, (hb.cell (World.block_lt_of_cell? _ _ h3)).trans h3, (hb.cell (World.block_lt_of_cell? _ _ h4)).trans h4⟩
theorem Sl.ok.below {l : Sl} {w w' : World} (h : l.ok w) (hb : Below w.heap.size w w') : l.ok w' := ⟨h.1.below hb, h.2⟩

/-- may an item not stand in a field, with so many? -/
def oddB (f n : Int) (i : It) : Bool := if f = 0 then (i.k == 0 || i.k == 3) || decide (1 < i.s) else i.k == 0 && (decide (1 < n) || decide (1 < i.s))

set_option maxHeartbeats 2000000 in
theorem odd_any (f n k a t s : Int) (w : World) : Calls Try.prog 64 #[.int .i64 f, .int .i64 n, .agg #[.int .i64 k, .int .i64 a, .int .i64 t, .int .i64 s]] w (Kept (.bool (oddB f n ⟨k, a, t, s⟩)) w) := by
  unfold oddB
  by_cases hf : f = 0
  · rw [if_pos hf]
    subst hf
    dsimp only
    cases c1 : (k == 0) <;> cases c2 : (k == 3) <;> cases c3 : decide (1 < s)
    all_goals
      go_enter Try.func64, Try.ntmps64
      go_wp2
      go_ret
      exact ⟨rfl, (Below.refl _ _).alloc (Nat.le_refl _) _⟩
  · rw [if_neg hf]
    have hf' : (f == 0) = false := beq_eq_false_iff_ne.2 hf
    clear hf
    dsimp only
    cases c1 : (k == 0) <;> cases c2 : decide (1 < n) <;> cases c3 : decide (1 < s)
    all_goals
      go_enter Try.func64, Try.ntmps64
      go_wp2
      go_ret
      exact ⟨rfl, (Below.refl _ _).alloc (Nat.le_refl _) _⟩

theorem bel_one {w w1 : World} {o : Obj} (hb : Below (w.alloc o).heap.size (w.alloc o) w1) : Below w.heap.size w w1 :=
  ((Below.refl w.heap.size w).alloc (Nat.le_refl _) o).trans (hb.mono (by simp))

set_option maxHeartbeats 1000000 in
theorem odd_closure (f n : Int) (m : Nat) (i : It) (A : Option Addr) (c : Nat) (F L : Nat) (w : World) (hn : n = (m : Int)) (h1 : w.cell? ⟨F, 0, none⟩ = some (.int .i64 f)) (h2 : w.cell? ⟨L, 0, none⟩ = some (.slice A m c)) :
    Calls Try.prog 63 #[i.v, .pointer (some ⟨F, 0, none⟩), .pointer (some ⟨L, 0, none⟩)] w (Kept (.bool (oddB f n i)) w) := by
  subst hn
  obtain ⟨k, a, t, s⟩ := i
  have b1 := World.block_lt_of_cell? _ _ h1
  have b2 := World.block_lt_of_cell? _ _ h2
  unfold It.v
  dsimp only
  go_enter Try.func63, Try.ntmps63
  go_wp2_with fail
  refine (odd_any _ _ _ _ _ _ _).mono ?_
  rintro e w1 ⟨rfl, hb⟩
  have HB := Lib.hid (bel_one hb)
  clear hb
  go_wp2
  go_ret
  exact ⟨rfl, HB.out⟩

set_option maxHeartbeats 1000000 in
theorem right_closure (i : It) (lo hi : Int) (F L : Nat) (w : World) (h0 : 0 ≤ lo) (hl : lo ≤ hi) (hh : hi ≤ 9999) (h1 : w.cell? ⟨F, 0, none⟩ = some (.int .i64 lo)) (h2 : w.cell? ⟨L, 0, none⟩ = some (.int .i64 hi)) :
    Calls Try.prog 66 #[i.v, .pointer (some ⟨F, 0, none⟩), .pointer (some ⟨L, 0, none⟩)] w (Kept (.bool (!itB i lo hi)) w) := by
  obtain ⟨k, a, t, s⟩ := i
  have b1 := World.block_lt_of_cell? _ _ h1
  have b2 := World.block_lt_of_cell? _ _ h2
  unfold It.v
  dsimp only
  go_enter Try.func66, Try.ntmps66
  go_wp2_with fail
  refine (imay_any _ _ _ _ _ _ _ h0 hl hh).mono ?_
  rintro e w1 ⟨rfl, hb⟩
  have HB := Lib.hid (bel_one hb)
  clear hb
  go_wp2
  go_ret
  exact ⟨rfl, HB.out⟩

/-- where the first item lies that is so; -1: there is none -/
def ixf (p : It → Bool) (xs : List It) : Int := match xs.findIdx? p with
  | some i => i
  | none => -1
theorem ixf_hit {p : It → Bool} {xs : List It} {k : Nat} (hk : k < xs.length) (h : ∀ j, j < k → p (xs.getD j ⟨0, 0, 0, 0⟩) = false) (hp : p (xs.getD k ⟨0, 0, 0, 0⟩) = true) : ixf p xs = k := by
  have e : xs.findIdx? p = some k := by
    rw [List.findIdx?_eq_some_iff_getElem]
    refine ⟨hk, by simpa [List.getD, hk] using hp, fun j hj => ?_⟩
    have := h j hj
    simpa [List.getD, show j < xs.length by omega] using this
  unfold ixf
  rw [e]
theorem ixf_none {p : It → Bool} {xs : List It} (h : ∀ j, j < xs.length → p (xs.getD j ⟨0, 0, 0, 0⟩) = false) : ixf p xs = -1 := by
  have e : xs.findIdx? p = none := by
    rw [List.findIdx?_eq_none_iff]
    intro x hx
    obtain ⟨j, hj, rfl⟩ := List.getElem_of_mem hx
    have := h j hj
    simpa [List.getD, hj] using this
  unfold ixf
  rw [e]
theorem ixf_any (p : It → Bool) (xs : List It) : decide (0 ≤ ixf p xs) = xs.any p := by
  unfold ixf
  cases e : xs.findIdx? p with
  | none =>
    rw [List.findIdx?_eq_none_iff] at e
    have : xs.any p = false := by
      rw [List.any_eq_false]
      intro x hx
      simp [e x hx]
    rw [this]
    rfl
  | some i =>
    rw [List.findIdx?_eq_some_iff_getElem] at e
    obtain ⟨h, hp, _⟩ := e
    have : xs.any p = true := List.any_eq_true.2 ⟨_, List.getElem_mem h, hp⟩
    rw [this]
    simp

set_option maxHeartbeats 2000000 in
theorem indexfunc_any (p : It → Bool) (K : Nat) (hE : ∀ (args : Array Value) (w : World), Sem.run Try.prog (callFunc K args) w = .ok (.enter K args) w) (a b : Option Addr) (l : Sl) (w : World) (hok : l.ok w)
    (hf : ∀ (i : It) (w' : World), Below w.heap.size w w' → Calls Try.prog K #[i.v, .pointer a, .pointer b] w' (Kept (.bool (p i)) w')) :
    Calls Try.prog 68 #[l.v, .func (.func K) #[] #[.pointer a, .pointer b]] w (Kept (.int .i64 (ixf p l.xs)) w) := by
  obtain ⟨A, c, xs⟩ := l
  obtain ⟨hi, hm⟩ := hok
  unfold Sl.v
  dsimp only at hi hm ⊢
  obtain ⟨n0, hn⟩ : ∃ n, n = xs.length := ⟨_, rfl⟩
  rw [← hn] at hm
  rw [← hn]
  have HN := Lib.hid hn
  have HI := Lib.hid hi
  have HF := Lib.hid hf
  clear hn hi hf
  go_enter Try.func68, Try.ntmps68
  go_wp2_with fail
  go_loopw [8] (fun i wr => ∃ k : Nat, k ≤ n0 ∧ i = .int .i64 k ∧ Hid (∀ j, j < k → p (xs.getD j ⟨0, 0, 0, 0⟩) = false) ∧ Hid (Below w.heap.size w wr)) (fun i _ => n0 - (intOf i).toNat)
  case atStart => exact ⟨0, by omega, rfl, Lib.hid (fun j hj => absurd hj (by omega)), Lib.hid (Below.refl _ _)⟩
  case round =>
    obtain ⟨k, hk, rfl, HP, HB⟩ := hrel
    by_cases hlt : k < n0
    · obtain ⟨B, off, rfl, g0, g1, g2, g3⟩ := (HI.out.below HB.out) k (by rw [← HN.out]; exact hlt)
      have hcall := HF.out (xs.getD k ⟨0, 0, 0, 0⟩)
      have hit := fun (h : p (xs.getD k ⟨0, 0, 0, 0⟩) = true) => ixf_hit (by rw [← HN.out]; exact hlt) HP.out h
      have on := fun (h : p (xs.getD k ⟨0, 0, 0, 0⟩) = false) (j : Nat) (hj : j < k + 1) => (show p (xs.getD j ⟨0, 0, 0, 0⟩) = false from by
        by_cases e : j = k
        · rw [e]; exact h
        · exact HP.out j (by omega))
      unfold It.v at hcall
      obtain ⟨i, hi⟩ : ∃ i, i = xs.getD k ⟨0, 0, 0, 0⟩ := ⟨_, rfl⟩
      rw [← hi] at g0 g1 g2 g3 hcall hit on
      have HC := Lib.hid hcall
      have HH := Lib.hid hit
      have HO := Lib.hid on
      clear hi hcall hit on
      have bl := World.block_lt_of_cell? _ _ g0
      obtain ⟨ik, ia, it, is⟩ := i
      dsimp only at g0 g1 g2 g3
      go_wp2_with fail
      refine (HC.out _ HB.out).mono ?_
      rintro e w2 ⟨rfl, hb2⟩
      have HB2 := Lib.hid (below_on HB.out hb2)
      clear hb2
      obtain ⟨v, hv⟩ : ∃ v, v = p ⟨ik, ia, it, is⟩ := ⟨_, rfl⟩
      rw [← hv] at HH HO ⊢
      clear hv
      cases v
      · have HO' := Lib.hid (HO.out rfl)
        go_wp2
        go_roundw
        case rel => exact ⟨k + 1, by omega, by go_num, HO', HB2⟩
        case measure => simp [intOf]; omega
      · have E := Lib.hid (HH.out rfl)
        go_wp2
        go_ret
        exact ⟨ret_int E.out.symm, HB2.out⟩
    · obtain rfl : k = n0 := by omega
      have E := Lib.hid (ixf_none (p := p) (xs := xs) (by rw [← HN.out]; exact HP.out))
      go_wp2
      go_ret
      exact ⟨ret_int E.out.symm, HB.out⟩

theorem containsfunc_any (p : It → Bool) (K : Nat) (hE : ∀ (args : Array Value) (w : World), Sem.run Try.prog (callFunc K args) w = .ok (.enter K args) w) (a b : Option Addr) (l : Sl) (w : World) (hok : l.ok w)
    (hf : ∀ (i : It) (w' : World), Below w.heap.size w w' → Calls Try.prog K #[i.v, .pointer a, .pointer b] w' (Kept (.bool (p i)) w')) :
    Calls Try.prog 62 #[l.v, .func (.func K) #[] #[.pointer a, .pointer b]] w (Kept (.bool (l.xs.any p)) w) := by
  have HA := Lib.hid (ixf_any p l.xs)
  have HC := Lib.hid (indexfunc_any p K hE a b l w hok hf)
  clear hE hok hf
  go_enter Try.func62, Try.ntmps62
  go_wp2_with fail
  refine HC.out.mono ?_
  rintro e w1 ⟨rfl, hb⟩
  have HB := Lib.hid hb
  clear hb
  cases c : decide (0 ≤ ixf p l.xs)
  all_goals
    have HV := HA
    rw [c] at HV
    go_wp2
    go_ret
    exact ⟨ret_val (congrArg Value.bool HV.out), HB.out⟩

/-- may a list that is not empty and not too long be? -/
theorem right_any (lo hi most : Int) (l : Sl) (w : World) (hok : l.ok w) (h0 : 0 ≤ lo) (hl : lo ≤ hi) (hh : hi ≤ 9999) (hn : 0 < l.xs.length) (hm : (l.xs.length : Int) ≤ most) (hb : l.xs.length ≤ 1000) :
    Calls Try.prog 61 #[.int .i64 lo, .int .i64 hi, .int .i64 most, l.v] w (Kept (.bool (!l.xs.any fun i => !itB i lo hi)) w) := by
  have hE : ∀ (args : Array Value) (w : World), Sem.run Try.prog (callFunc 66 args) w = .ok (.enter 66 args) w := fun _ _ => by kernel_rfl
  have hc := containsfunc_any (fun i => !itB i lo hi) 66 hE (some ⟨w.heap.size, 0, none⟩) (some ⟨w.heap.size + 1, 0, none⟩) l
  have hcl := fun (i : It) (w' : World) (h1) (h2) => right_closure i lo hi w.heap.size (w.heap.size + 1) w' h0 hl hh h1 h2
  have HC := Lib.hid hc
  have HCL := Lib.hid hcl
  have HO := Lib.hid hok
  clear hE hc hcl hok
  have g1 : decide (0 < l.xs.length) = true := decide_eq_true hn
  have g2 : decide ((l.xs.length : Int) ≤ most) = true := decide_eq_true hm
  have HL : Hid (l.v = .slice l.A l.xs.length l.c) := Lib.hid rfl
  rw [HL.out]
  go_enter Try.func61, Try.ntmps61
  go_wp2_with fail
  rw [← HL.out]
  refine (HC.out _ (HO.out.below ?_) ?_).mono ?_
  · exact ((Below.refl _ _).alloc (Nat.le_refl _) _).alloc (by simp) _
  · intro i w' hb'
    refine HCL.out i w' ?_ ?_
    · rw [hb'.cell (p := ⟨w.heap.size, 0, none⟩) (by simp; omega)]
      go_simp
    · rw [hb'.cell (p := ⟨w.heap.size + 1, 0, none⟩) (by simp)]
      go_simp
  · rintro e w1 ⟨rfl, hb⟩
    have HB := Lib.hid (Below.trans (((Below.refl _ _).alloc (Nat.le_refl _) _).alloc (by simp) _) (hb.mono (by simp; omega)))
    clear hb
    go_wp2
    go_ret
    exact ⟨rfl, HB.out⟩
end Go.Proofs.Yticloblhdjnjkaa
