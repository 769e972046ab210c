/- Contracts for chapter 28: a field's items in new memory (slices.Clone, cal.Field). -/
import Derived.Test.YticloblhdjnjkaaCalJ
import Derived.OwnWalk
namespace Go.Proofs.Yticloblhdjnjkaa
open Go.RowKit

/-- an item's cell -/
def itC (i : It) (r : Nat) : Value := match r with
  | 0 => .int .i64 i.k
  | 1 => .int .i64 i.f
  | 2 => .int .i64 i.t
  | _ => .int .i64 i.s
def itV (xs : List It) (j : Nat) : Value := itC (xs.getD (j / 4) ⟨0, 0, 0, 0⟩) (j % 4)
def itN (xs : List It) : List Value := (List.range (xs.length * 4)).map (itV xs)
theorem itN_len (xs : List It) : (itN xs).length = xs.length * 4 := by simp [itN]
theorem itN_get {xs : List It} {j : Nat} {u : Value} (h : (itN xs)[j]? = some u) : j < xs.length * 4 ∧ u = itV xs j := by
  have hj : j < xs.length * 4 := by
    have := (List.getElem?_eq_some_iff.1 h).1
    rwa [itN_len] at this
  refine ⟨hj, ?_⟩
  unfold itN at h
  rw [List.getElem?_map, List.getElem?_range hj] at h
  simpa using h.symm
theorem itN_at {xs : List It} {j : Nat} (h : j < xs.length * 4) : (itN xs)[j]? = some (itV xs j) := by
  unfold itN
  rw [List.getElem?_map, List.getElem?_range h]
  rfl
theorem itV_at (xs : List It) (k r : Nat) (hr : r < 4) : itV xs (k * 4 + r) = itC (xs.getD k ⟨0, 0, 0, 0⟩) r := by
  unfold itV
  rw [show (k * 4 + r) / 4 = k by omega, show (k * 4 + r) % 4 = r by omega]
theorem ItsAt.cell {w : World} {b off : Nat} {xs : List It} (h : ItsAt w (some ⟨b, off, none⟩) xs) (j : Nat) (hj : j < xs.length * 4) : w.cell? ⟨b, off + j, none⟩ = some (itV xs j) := by
  obtain ⟨b', off', e, h0, h1, h2, h3⟩ := h (j / 4) (by omega)
  cases e
  have e : j = j / 4 * 4 + j % 4 := by omega
  have hr : j % 4 < 4 := Nat.mod_lt _ (by decide)
  rw [e, itV_at _ _ _ hr]
  obtain ⟨r, hr'⟩ : ∃ r, r = j % 4 := ⟨_, rfl⟩
  rw [← hr'] at hr ⊢
  rw [← Nat.add_assoc]
  match r, hr with
  | 0, _ => exact h0
  | 1, _ => exact h1
  | 2, _ => exact h2
  | 3, _ => exact h3
theorem its_of {w : World} {b : Nat} {xs : List It} (h : ∀ j, j < xs.length * 4 → w.cell? ⟨b, j, none⟩ = some (itV xs j)) : ItsAt w (some ⟨b, 0, none⟩) xs := by
  intro k hk
  refine ⟨b, 0, rfl, ?_, ?_, ?_, ?_⟩
  · rw [Nat.zero_add]
    exact (h (k * 4 + 0) (by omega)).trans (by rw [itV_at _ _ _ (by omega)]; rfl)
  · rw [Nat.zero_add]
    exact (h (k * 4 + 1) (by omega)).trans (by rw [itV_at _ _ _ (by omega)]; rfl)
  · rw [Nat.zero_add]
    exact (h (k * 4 + 2) (by omega)).trans (by rw [itV_at _ _ _ (by omega)]; rfl)
  · rw [Nat.zero_add]
    exact (h (k * 4 + 3) (by omega)).trans (by rw [itV_at _ _ _ (by omega)]; rfl)
theorem its_owned {w : World} {base : Nat} {e : TypeId} {v : Value} {xs : List It} (h : w.ownsRow base e 4 v xs.length (itN xs)) (hm : xs.length ≤ 9223372036854775807) : ∃ l : Sl, v = l.v ∧ l.xs = xs ∧ l.ok w := by
  rcases h.2 with ⟨rfl, hn⟩ | ⟨g, cap, cur, rfl, _⟩
  · have hx : xs = [] := List.length_eq_zero_iff.1 hn
    subst hx
    exact ⟨⟨none, 0, []⟩, rfl, rfl, fun k hk => absurd hk (by simp), by simp⟩
  · refine ⟨⟨some ⟨g, 0, none⟩, cap, xs⟩, rfl, rfl, its_of fun j hj => ?_, hm⟩
    have := h.cells (g := g) rfl j _ (itN_at hj)
    rw [Go.WideShapes.add_plain, Nat.zero_add] at this
    exact this

/-- the items once more -/
def CloneP (l : Sl) (w : World) (e : Ending) (w' : World) : Prop := ∃ l' : Sl, e = .returned l'.v ∧ l'.xs = l.xs ∧ l'.ok w' ∧ Below w.heap.size w w'

theorem Try.infoIt : (Try.prog.info? 77).map (fun i => (i.zero, i.size, i.bytes)) = some (some (.agg #[.int .i64 0, .int .i64 0, .int .i64 0, .int .i64 0]), 4, 32) := by kernel_rfl

theorem itC_one (i : It) (r : Nat) : (itC i r).oneCell' = true := by
  unfold itC
  split <;> rfl

set_option maxRecDepth 100000 in
set_option maxHeartbeats 4000000 in
theorem clone_any (l : Sl) (w : World) (hok : l.ok w) (h5 : l.xs.length ≤ 500) : Calls Try.prog 57 #[l.v] w (CloneP l w) := by
  obtain ⟨A, c, xs⟩ := l
  obtain ⟨hi, hm⟩ := hok
  dsimp only at hi hm h5
  have hq : ∀ (w : World) (a : Option Addr) (n c n' c' : Nat), (binOp .eql 55 (.slice a n c) (.slice none n' c')).run Try.prog w = .ok (.bool a.isNone) w := fun w a n c n' c' => Lib.run_eql_slice_nil w _ _ a n c n' c' Try.underlying55
  cases A with
  | none =>
    have hx : xs = [] := by
      cases xs with
      | nil => rfl
      | cons x r =>
        obtain ⟨b, off, e, _⟩ := hi 0 (by simp)
        cases e
    subst hx
    have hfin : ∀ w', Below w.heap.size w w' → CloneP ⟨none, c, []⟩ w (.returned (.slice none 0 0)) w' := fun w' hb => ⟨⟨none, 0, []⟩, rfl, rfl, ⟨fun k hk => absurd hk (by simp), by simp⟩, hb⟩
    have HF := Lib.hid hfin
    clear hfin hi
    show Calls _ _ #[.slice none 0 c] w _
    go_enter Try.func57, Try.ntmps57
    go_wp2
    go_ret
    exact HF.out _ (Below.refl _ _)
  | some a =>
    obtain ⟨i0, hinf, hz0, hz1, hz2⟩ := info_parts Try.infoIt
    have hnews : ∀ j u, (itN xs)[j]? = some u → (w.alloc (.cells #[] 77)).cell? (a.add j) = some u := fun j u hu => by
      obtain ⟨hj, rfl⟩ := itN_get hu
      obtain ⟨b, off, e, _⟩ := hi 0 (by omega)
      injection e with e
      subst e
      rw [Go.WideShapes.add_plain]
      have hc := hi.cell j hj
      exact (((Below.refl w.heap.size w).alloc (Nat.le_refl _) _).cell (p := ⟨b, off + j, none⟩) (World.block_lt_of_cell? _ _ hc)).trans hc
    have hone : ∀ u ∈ itN xs, u.oneCell' = true := fun u hu => by
      obtain ⟨j, hj, rfl⟩ := List.getElem_of_mem hu
      obtain ⟨_, e⟩ := itN_get (List.getElem?_eq_getElem hj)
      rw [e]
      exact itC_one _ _
    have hown := World.ownsRow_made (base := w.heap.size) (e := 77) (size := 4) w #[] 0 (Nat.le_refl _) (by decide) rfl
    have hlen := itN_len xs
    have hfin : ∀ v' w', w'.ownsRow w.heap.size 77 4 v' (0 + xs.length) ([] ++ itN xs) → Below w.heap.size w w' → CloneP ⟨some a, c, xs⟩ w (.returned v') w' := fun v' w' h hb => by
      rw [Nat.zero_add, List.nil_append] at h
      obtain ⟨l', e, e2, e3⟩ := its_owned h hm
      exact ⟨l', by rw [e], e2, e3, hb⟩
    have HF := Lib.hid hfin
    obtain ⟨n, hn⟩ : ∃ n, n = xs.length := ⟨_, rfl⟩
    rw [← hn] at hlen h5
    have HF2 : Hid (∀ v' w', w'.ownsRow w.heap.size 77 4 v' (0 + n) ([] ++ itN xs) → Below w.heap.size w w' → CloneP ⟨some a, c, xs⟩ w (.returned v') w') := Lib.hid (by rw [hn]; exact HF.out)
    have HV : Hid ((⟨some a, c, xs⟩ : Sl).v = .slice (some a) n c) := Lib.hid (by rw [hn]; rfl)
    have HNW := Lib.hid hnews
    have HON := Lib.hid hone
    have HOW := Lib.hid hown
    have HLE := Lib.hid hlen
    have HIN := Lib.hid hinf
    have HZ0 := Lib.hid hz0
    have HZ1 := Lib.hid hz1
    have HZ2 := Lib.hid hz2
    rw [HV.out]
    clear hfin HF hnews hone hown hlen hinf hz0 hz1 hz2 hn hi hm
    go_enter Try.func57, Try.ntmps57
    go_wp2_with (at_builtin; refine wpList_append_own _ rfl _ _ 55 rfl w.heap.size 77 i0 (.agg #[.int .i64 0, .int .i64 0, .int .i64 0, .int .i64 0]) 4 32 Try.underlying55 HIN.out HZ0.out HZ1.out HZ2.out rfl (by decide) _ _ _ rfl HOW.out a n c (itN xs) rfl HLE.out HNW.out HON.out (by unfold maxLen; omega) (by omega) (by simp) ?_; intro v' w1 hown' hgrow _; have HG := Lib.hid hgrow; have HW := Lib.hid hown'; clear hgrow hown')
    go_ret
    exact HF2.out _ _ HW.out (((Below.refl _ _).alloc (Nat.le_refl _) _).grown HG.out (by simp) (fun k hk => by cases hk; exact Nat.le_refl _))
end Go.Proofs.Yticloblhdjnjkaa
