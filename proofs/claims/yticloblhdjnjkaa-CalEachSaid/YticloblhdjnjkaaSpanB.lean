/- Contracts: spans in a slice, what all of them have together (span.Meet), a span's days, the chapter's examples. -/
import Derived.Test.YticloblhdjnjkaaSpan
namespace Go.Proofs.Yticloblhdjnjkaa
open Go.RowKit

theorem days_any (a b : Int) (w : World) (he : hF a b ≤ hU a b) :
    Calls Try.prog 47 #[.agg #[.int .i64 a, .int .i64 b]] w (Kept (.tuple #[.int .i64 (hF a b / 86400), .int .i64 (hU a b / 86400), .bool true]) w) := by
  obtain ⟨d1, d2, d3, d4⟩ := h_bd a b
  obtain ⟨f, hf⟩ : ∃ f, f = hF a b := ⟨_, rfl⟩
  obtain ⟨u, hu⟩ : ∃ u, u = hU a b := ⟨_, rfl⟩
  rw [← hf, ← hu] at he ⊢
  rw [← hf] at d1 d2
  rw [← hu] at d3 d4
  have HF := Lib.hid hf
  have HU := Lib.hid hu
  clear hf hu
  go_enter Try.func47, Try.ntmps47
  go_wp2_with fail
  refine (span_any _ _ _).mono ?_
  rintro e w1 ⟨rfl, hb⟩
  rw [← HF.out, ← HU.out]
  obtain ⟨hc, hfz⟩ := bcell hb
  have hz : w.heap.size < w1.heap.size := by have := hb.size; simp at this; omega
  have HB := Lib.hid hb
  clear hb
  go_wp2_with fail
  refine (split_any _ _ (by omega) (by omega)).mono ?_
  rintro e w' ⟨rfl, rfl⟩
  go_wp2_with fail
  refine (split_any _ _ (by omega) (by omega)).mono ?_
  rintro e w' ⟨rfl, rfl⟩
  go_wp2
  go_ret3
  exact ⟨rfl, ((((Below.refl _ _).alloc (Nat.le_refl _) _).trans (HB.out.mono (by simp))).setCell (Nat.le_refl _) _).setCell (Nat.le_refl _) _⟩

/-- a slice of spans: two cells an element -/
def SpansAt (w : World) (A : Option Addr) (xs : List (Int × Int)) : Prop :=
  ∀ k, k < xs.length → ∃ b off, A = some ⟨b, off, none⟩ ∧ w.cell? ⟨b, off + k * 2, none⟩ = some (.int .i64 (xs.getD k (0, 0)).1) ∧ w.cell? ⟨b, off + k * 2 + 1, none⟩ = some (.int .i64 (xs.getD k (0, 0)).2)

def mt (xs : List (Int × Int)) : Int × Int := xs.foldl (fun m x => (max m.1 x.1, min m.2 x.2)) (0, 12622780799)
theorem mt_snoc (xs : List (Int × Int)) (k : Nat) (h : k < xs.length) : mt (xs.take (k + 1)) = (max (mt (xs.take k)).1 (xs.getD k (0, 0)).1, min (mt (xs.take k)).2 (xs.getD k (0, 0)).2) := by
  unfold mt
  rw [List.take_succ_eq_append_getElem h, List.foldl_append]
  simp [List.getD, h]

theorem SpansAt.below {w w' : World} {A : Option Addr} {xs : List (Int × Int)} (h : SpansAt w A xs) (hb : Below w.heap.size w w') : SpansAt w' A xs := by
  intro k hk
  obtain ⟨b, off, rfl, h1, h2⟩ := h k hk
  exact ⟨b, off, rfl, (hb.cell (World.block_lt_of_cell? _ _ h1)).trans h1, (hb.cell (World.block_lt_of_cell? _ _ h2)).trans h2⟩
theorem SpansAt.lt {w : World} {A : Option Addr} {xs : List (Int × Int)} (h : SpansAt w A xs) (hp : 0 < xs.length) (b off : Nat) (e : A = some ⟨b, off, none⟩) : b < w.heap.size := by
  obtain ⟨b', off', e', hc, _⟩ := h 0 hp
  rw [e] at e'
  cases e'
  exact World.block_lt_of_cell? _ _ hc

/-- what holds at a round's head: the result's block R, the gathered span's block O -/
structure MInv (w wr : World) (R O : Nat) (p q : Int) : Prop where
  bel : Below w.heap.size w wr
  r : w.heap.size ≤ R
  o : w.heap.size ≤ O
  ne : R ≠ O
  rl : R < wr.heap.size
  ol : O < wr.heap.size
  o0 : wr.cell? ⟨O, 0, none⟩ = some (.int .i64 p)
  o1 : wr.cell? ⟨O, 1, none⟩ = some (.int .i64 q)
  of0 : wr.frozen? ⟨O, 0, none⟩ = false
  of1 : wr.frozen? ⟨O, 1, none⟩ = false
  r0 : wr.cell? ⟨R, 0, none⟩ = some (.int .i64 0)
  r1 : wr.cell? ⟨R, 1, none⟩ = some (.int .i64 0)
  rf0 : wr.frozen? ⟨R, 0, none⟩ = false
  rf1 : wr.frozen? ⟨R, 1, none⟩ = false

theorem MInv.step {w wr : World} {R O : Nat} {p q : Int} (h : MInv w wr R O p q) (ob : Obj) (a b : Int) :
    MInv w (((wr.setCell ⟨O, 0, none⟩ (.int .i64 a)).setCell ⟨O, 1, none⟩ (.int .i64 b)).alloc ob) R O a b := by
  obtain ⟨bel, r, o, ne, rl, ol, o0, o1, of0, of1, r0, r1, rf0, rf1⟩ := h
  have n1 : O ≠ wr.heap.size := by omega
  have n2 : R ≠ wr.heap.size := by omega
  refine ⟨((bel.setCell o _).setCell o _).alloc (by simp; omega) _, r, o, ne, ?_, ?_, ?_, ?_, ?_, ?_, ?_, ?_, ?_, ?_⟩
  · simp; omega
  · simp; omega
  all_goals go_simp

set_option maxHeartbeats 1000000 in
theorem meet_any (A : Option Addr) (c : Nat) (xs : List (Int × Int)) (w : World) (hl : xs.length ≤ 140737488351232) (h : SpansAt w A xs) :
    Calls Try.prog 20 #[.slice A xs.length c] w (Kept (.agg #[.int .i64 (hF (mt xs).1 (mt xs).2), .int .i64 (hU (mt xs).1 (mt xs).2)]) w) := by
  obtain ⟨n0, hn⟩ : ∃ n, n = xs.length := ⟨_, rfl⟩
  obtain ⟨P, hP⟩ : ∃ P, P = hF (mt xs).1 (mt xs).2 := ⟨_, rfl⟩
  obtain ⟨Q, hQ⟩ : ∃ Q, Q = hU (mt xs).1 (mt xs).2 := ⟨_, rfl⟩
  rw [← hn] at hl
  rw [← hn, ← hP, ← hQ]
  have HN := Lib.hid hn
  have HI := Lib.hid h
  have HP := Lib.hid hP
  have HQ := Lib.hid hQ
  clear hn h hP hQ
  go_enter Try.func20, Try.ntmps20
  go_wp2_with fail
  refine (whole_any _).mono ?_
  rintro e w1 ⟨rfl, rfl⟩
  go_wp2_with fail
  go_loopw [9] (fun i wr => ∃ (k : Nat) (p q : Int), k ≤ n0 ∧ i = .int .i64 k ∧ Hid ((p, q) = mt (xs.take k)) ∧ Hid (MInv w wr w.heap.size (w.heap.size + 1 + 1) p q)) (fun i _ => n0 - (intOf i).toNat)
  case atStart =>
    refine ⟨0, 0, 12622780799, Nat.zero_le _, rfl, Lib.hid rfl, Lib.hid ⟨(((Below.refl _ _).alloc (Nat.le_refl _) _).alloc (by simp) _).alloc (by simp; omega) _, Nat.le_refl _, by omega, by omega, by simp; omega, by simp, ?_, ?_, ?_, ?_, ?_, ?_, ?_, ?_⟩⟩
    all_goals go_simp
  case round =>
    obtain ⟨k, p, q, hk, rfl, HM, HV⟩ := hrel
    by_cases hlt : k < n0
    · obtain ⟨b, off, rfl, hc1, hc2⟩ := (HI.out.below HV.out.bel) k (by rw [← HN.out]; exact hlt)
      have hsn := mt_snoc xs k (by rw [← HN.out]; exact hlt)
      rw [← HM.out] at hsn
      obtain ⟨x, hx⟩ : ∃ x, x = (xs.getD k (0, 0)).1 := ⟨_, rfl⟩
      obtain ⟨y, hy⟩ : ∃ y, y = (xs.getD k (0, 0)).2 := ⟨_, rfl⟩
      rw [← hx] at hc1 hsn
      rw [← hy] at hc2 hsn
      have HSN := Lib.hid hsn
      clear hx hy hsn
      have o0 := HV.out.o0
      have o1 := HV.out.o1
      have of0 := HV.out.of0
      have of1 := HV.out.of1
      have ol := HV.out.ol
      have bl := World.block_lt_of_cell? _ _ hc1
      by_cases c1 : p < x <;> by_cases c2 : y < q
      all_goals
        have e0 : mt (xs.take (k + 1)) = (max p x, min q y) := HSN.out
        first | rw [Int.max_eq_right (Int.le_of_lt c1)] at e0 | rw [Int.max_eq_left (Int.not_lt.1 c1)] at e0
        first | rw [Int.min_eq_right (Int.le_of_lt c2)] at e0 | rw [Int.min_eq_left (Int.not_lt.1 c2)] at e0
        have E := Lib.hid e0.symm
        clear e0
        go_wp2
        go_roundw
        case rel => exact ⟨k + 1, _, _, by omega, by go_num, E, Lib.hid (HV.out.step _ _ _)⟩
        case measure => simp [intOf]; omega
    · have E := HM.out
      rw [List.take_of_length_le (by rw [← HN.out]; omega)] at E
      have e1 : (mt xs).1 = p := by rw [← E]
      have e2 : (mt xs).2 = q := by rw [← E]
      have HP' : Hid (hF p q = P) := Lib.hid (by rw [HP.out, e1, e2])
      have HQ' : Hid (hU p q = Q) := Lib.hid (by rw [HQ.out, e1, e2])
      clear E e1 e2
      have ol := HV.out.ol
      have o0 := HV.out.o0
      have o1 := HV.out.o1
      go_wp2_with fail
      refine (span_any _ _ _).mono ?_
      rintro e w1 ⟨rfl, hb⟩
      rw [HP'.out, HQ'.out]
      have r0 := (hb.cell (p := ⟨w.heap.size, 0, none⟩) HV.out.rl).trans HV.out.r0
      have r1 := (hb.cell (p := ⟨w.heap.size, 1, none⟩) HV.out.rl).trans HV.out.r1
      have rf0 := (hb.frozen (p := ⟨w.heap.size, 0, none⟩) HV.out.rl).trans HV.out.rf0
      have rf1 := (hb.frozen (p := ⟨w.heap.size, 1, none⟩) HV.out.rl).trans HV.out.rf1
      have hz : w.heap.size < w1.heap.size := Nat.lt_of_lt_of_le HV.out.rl hb.size
      have HB := Lib.hid (HV.out.bel.trans (hb.mono HV.out.bel.size))
      clear hb
      go_wp2
      exact bodyPost_ret (by simp [results, Try.results20, go_sem, r0, r1, rf0, rf1, hz]) rfl ⟨rfl, (HB.out.setCell (Nat.le_refl _) _).setCell (Nat.le_refl _) _⟩
end Go.Proofs.Yticloblhdjnjkaa
