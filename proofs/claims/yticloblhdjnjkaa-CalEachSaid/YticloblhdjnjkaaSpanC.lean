/- Contracts: the reference's Meet, the chapter's examples (lives); the walk of ferialaw09.SpanTells. -/
import Derived.Test.YticloblhdjnjkaaSpanB
import Derived.Deep.RegionHeld3
import Derived.IntWalk
namespace Go.Proofs.Yticloblhdjnjkaa
open Go.RowKit

theorem MInv.drewN {w wr : World} {R O : Nat} {p q : Int} (h : MInv w wr R O p q) (n : Nat) : MInv w (wr.drewN n) R O p q :=
  ⟨below_drewN h.bel n, h.r, h.o, h.ne, h.rl, h.ol, h.o0, h.o1, h.of0, h.of1, h.r0, h.r1, h.rf0, h.rf1⟩
theorem MInv.set0 {w wr : World} {R O : Nat} {p q : Int} (h : MInv w wr R O p q) (a : Int) : MInv w (wr.setCell ⟨O, 0, none⟩ (.int .i64 a)) R O a q := by
  obtain ⟨bel, r, o, ne, rl, ol, o0, o1, of0, of1, r0, r1, rf0, rf1⟩ := h
  refine ⟨bel.setCell o _, r, o, ne, by simpa using rl, by simpa using ol, ?_, ?_, ?_, ?_, ?_, ?_, ?_, ?_⟩
  all_goals go_simp
theorem MInv.set1 {w wr : World} {R O : Nat} {p q : Int} (h : MInv w wr R O p q) (a : Int) : MInv w (wr.setCell ⟨O, 1, none⟩ (.int .i64 a)) R O p a := by
  obtain ⟨bel, r, o, ne, rl, ol, o0, o1, of0, of1, r0, r1, rf0, rf1⟩ := h
  refine ⟨bel.setCell o _, r, o, ne, by simpa using rl, by simpa using ol, ?_, ?_, ?_, ?_, ?_, ?_, ?_, ?_⟩
  all_goals go_simp

set_option maxHeartbeats 1000000 in
theorem rmeet_any (A : Option Addr) (c : Nat) (xs : List (Int × Int)) (w : World) (hl : xs.length ≤ 140737488351232) (h : SpansAt w A xs) :
    Calls Try.prog 21 #[.slice A xs.length c] w (Kept (.agg #[.int .i64 (hF (mt xs).1 (mt xs).2), .int .i64 (hU (mt xs).1 (mt xs).2)]) w) := by
  obtain ⟨n0, hn⟩ : ∃ n, n = xs.length := ⟨_, rfl⟩
  obtain ⟨P, hP⟩ : ∃ P, P = hF (mt xs).1 (mt xs).2 := ⟨_, rfl⟩
  obtain ⟨Q, hQ⟩ : ∃ Q, Q = hU (mt xs).1 (mt xs).2 := ⟨_, rfl⟩
  rw [← hn] at hl
  rw [← hn, ← hP, ← hQ]
  have HN := Lib.hid hn
  have HI := Lib.hid h
  have HP := Lib.hid hP
  have HQ := Lib.hid hQ
  clear hn h hP hQ
  go_enter Try.func21, Try.ntmps21
  go_wp2_with fail
  go_loopw [4] (fun i wr => ∃ (k : Nat) (p q : Int), k ≤ n0 ∧ i = .int .i64 k ∧ Hid ((p, q) = mt (xs.take k)) ∧ Hid (MInv w wr w.heap.size (w.heap.size + 1) p q)) (fun i _ => n0 - (intOf i).toNat)
  case atStart =>
    refine ⟨0, 0, 12622780799, Nat.zero_le _, rfl, Lib.hid rfl, Lib.hid ⟨((Below.refl _ _).alloc (Nat.le_refl _) _).alloc (by simp) _, Nat.le_refl _, by omega, by omega, by simp; omega, by simp, ?_, ?_, ?_, ?_, ?_, ?_, ?_, ?_⟩⟩
    all_goals go_simp
  case round =>
    obtain ⟨k, p, q, hk, rfl, HM, HV⟩ := hrel
    by_cases hlt : k < n0
    · obtain ⟨b, off, rfl, hc1, hc2⟩ := (HI.out.below HV.out.bel) k (by rw [← HN.out]; exact hlt)
      have hsn := mt_snoc xs k (by rw [← HN.out]; exact hlt)
      rw [← HM.out] at hsn
      obtain ⟨x, hx⟩ : ∃ x, x = (xs.getD k (0, 0)).1 := ⟨_, rfl⟩
      obtain ⟨y, hy⟩ : ∃ y, y = (xs.getD k (0, 0)).2 := ⟨_, rfl⟩
      rw [← hx] at hc1 hsn
      rw [← hy] at hc2 hsn
      have HSN := Lib.hid hsn
      clear hx hy hsn
      have o0 := HV.out.o0
      have o1 := HV.out.o1
      have of0 := HV.out.of0
      have of1 := HV.out.of1
      have ol := HV.out.ol
      have bl := World.block_lt_of_cell? _ _ hc1
      by_cases c1 : p < x <;> by_cases c2 : y < q
      all_goals
        have e0 : mt (xs.take (k + 1)) = (max p x, min q y) := HSN.out
        first | rw [Int.max_eq_right (Int.le_of_lt c1)] at e0 | rw [Int.max_eq_left (Int.not_lt.1 c1)] at e0
        first | rw [Int.min_eq_right (Int.le_of_lt c2)] at e0 | rw [Int.min_eq_left (Int.not_lt.1 c2)] at e0
        have E := Lib.hid e0.symm
        clear e0
        go_wp2_with fail
        go_quiet (fail)
        go_wp2_with fail
        go_quiet (fail)
        go_wp2
        go_roundw
        case rel => exact ⟨k + 1, _, _, by omega, by go_num, E, Lib.hid (by repeat (first | exact HV.out | apply MInv.drewN | apply MInv.set0 | apply MInv.set1))⟩
        case measure => simp [intOf]; omega
    · have E := HM.out
      rw [List.take_of_length_le (by rw [← HN.out]; omega)] at E
      have e1 : (mt xs).1 = p := by rw [← E]
      have e2 : (mt xs).2 = q := by rw [← E]
      have HP' : Hid (hF p q = P) := Lib.hid (by rw [HP.out, e1, e2])
      have HQ' : Hid (hU p q = Q) := Lib.hid (by rw [HQ.out, e1, e2])
      clear E e1 e2
      have ol := HV.out.ol
      have o0 := HV.out.o0
      have o1 := HV.out.o1
      go_wp2_with fail
      refine (rspan_any _ _ _).mono ?_
      rintro e w1 ⟨rfl, hb⟩
      rw [HP'.out, HQ'.out]
      have r0 := (hb.cell (p := ⟨w.heap.size, 0, none⟩) HV.out.rl).trans HV.out.r0
      have r1 := (hb.cell (p := ⟨w.heap.size, 1, none⟩) HV.out.rl).trans HV.out.r1
      have rf0 := (hb.frozen (p := ⟨w.heap.size, 0, none⟩) HV.out.rl).trans HV.out.rf0
      have rf1 := (hb.frozen (p := ⟨w.heap.size, 1, none⟩) HV.out.rl).trans HV.out.rf1
      have hz : w.heap.size < w1.heap.size := Nat.lt_of_lt_of_le HV.out.rl hb.size
      have HB := Lib.hid (HV.out.bel.trans (hb.mono HV.out.bel.size))
      clear hb
      go_wp2
      exact bodyPost_ret (by simp [results, Try.results21, go_sem, r0, r1, rf0, rf1, hz]) rfl ⟨rfl, (HB.out.setCell (Nat.le_refl _) _).setCell (Nat.le_refl _) _⟩

theorem spansAt_two (w : World) (a b c d : Int) (t : TypeId) : SpansAt (w.alloc (.cells #[.int .i64 a, .int .i64 b, .int .i64 c, .int .i64 d] t)) (some ⟨w.heap.size, 0, none⟩) [(a, b), (c, d)] := by
  intro k hk
  match k, hk with
  | 0, _ => exact ⟨_, _, rfl, by go_simp, by go_simp⟩
  | 1, _ => exact ⟨_, _, rfl, by go_simp, by go_simp⟩

theorem span_lives (w : World) : Calls Try.prog 18 #[] w (Kept (.bool true) w) := by
  go_enter Try.func18, Try.ntmps18
  go_wp2_with fail
  refine (days_any _ _ _ (by decide)).mono ?_
  rintro e w1 ⟨rfl, hb1⟩
  rw [show hF 86399 86400 / 86400 = 0 by decide, show hU 86399 86400 / 86400 = 1 by decide]
  go_wp2_with fail
  refine (meet_any _ 2 [(5, 9), (7, 20)] _ (by decide) (spansAt_two _ _ _ _ _ _)).mono ?_
  rintro e w2 ⟨rfl, hb2⟩
  rw [show hF (mt [(5, 9), (7, 20)]).1 (mt [(5, 9), (7, 20)]).2 = 7 by decide, show hU (mt [(5, 9), (7, 20)]).1 (mt [(5, 9), (7, 20)]).2 = 9 by decide]
  have HB := Lib.hid (below_on (hb1.alloc hb1.size _) hb2)
  clear hb1 hb2
  go_wp2
  go_ret
  exact ⟨rfl, HB.out⟩

theorem h_idem (a b : Int) : hF (hF a b) (hU a b) = hF a b ∧ hU (hF a b) (hU a b) = hU a b := by
  have h := h_ways a b
  obtain ⟨f, hf⟩ : ∃ f, f = hF a b := ⟨_, rfl⟩
  obtain ⟨u, hu⟩ : ∃ u, u = hU a b := ⟨_, rfl⟩
  rw [← hf, ← hu] at h ⊢
  have h2 := h_ways f u
  omega
theorem whole_kept (w : World) : Calls Try.prog 30 #[] w (Kept (.agg #[.int .i64 0, .int .i64 12622780799]) w) :=
  (whole_any w).mono fun e w' ⟨he, hw⟩ => ⟨he, hw ▸ (Below.refl _ _).alloc (Nat.le_refl _) _⟩
theorem keepT {w W w2 : World} {B X : Nat} {a b f u : Int} (hb : Below W.heap.size W w2)
    (h : Below w.heap.size w W ∧ W.cell? ⟨B, 0, none⟩ = some (.int .i64 a) ∧ W.cell? ⟨B, 1, none⟩ = some (.int .i64 b) ∧ W.cell? ⟨X, 0, none⟩ = some (.int .i64 f) ∧ W.cell? ⟨X, 1, none⟩ = some (.int .i64 u)) :
    Below w.heap.size w w2 ∧ w2.cell? ⟨B, 0, none⟩ = some (.int .i64 a) ∧ w2.cell? ⟨B, 1, none⟩ = some (.int .i64 b) ∧ w2.cell? ⟨X, 0, none⟩ = some (.int .i64 f) ∧ w2.cell? ⟨X, 1, none⟩ = some (.int .i64 u) :=
  ⟨below_on h.1 hb, (hb.cell (World.block_lt_of_cell? _ _ h.2.1)).trans h.2.1, (hb.cell (World.block_lt_of_cell? _ _ h.2.2.1)).trans h.2.2.1, (hb.cell (World.block_lt_of_cell? _ _ h.2.2.2.1)).trans h.2.2.2.1, (hb.cell (World.block_lt_of_cell? _ _ h.2.2.2.2)).trans h.2.2.2.2⟩

set_option maxHeartbeats 1000000 in
theorem SpanTells_walk (a b t : Int) (w : World) (ha : (Lit.int .i64 a).wf = true) (hb : (Lit.int .i64 b).wf = true) (ht : (Lit.int .i64 t).wf = true) :
    Calls Try.prog 7 #[.agg #[.int .i64 a, .int .i64 b], .int .i64 t] w (Kept (.bool true) w) := by
  clear ha hb ht
  obtain ⟨d1, d2, d3, d4⟩ := h_bd a b
  have he : emB a b = decide (hU a b < hF a b) := rfl
  obtain ⟨f, hf⟩ : ∃ f, f = hF a b := ⟨_, rfl⟩
  obtain ⟨u, hu⟩ : ∃ u, u = hU a b := ⟨_, rfl⟩
  rw [← hf] at d1 d2
  rw [← hu] at d3 d4
  rw [← hf, ← hu] at he
  have hi := h_idem a b
  rw [← hf, ← hu] at hi
  have HI1 := Lib.hid hi.1
  have HI2 := Lib.hid hi.2
  clear hi
  have HF := Lib.hid hf
  have HU := Lib.hid hu
  have HE := Lib.hid he
  clear hf hu he
  go_enter Try.func7, Try.ntmps7
  go_wp2_with fail
  refine (rspan_any _ _ _).mono ?_
  rintro e w1 ⟨rfl, hb1⟩
  rw [← HF.out, ← HU.out]
  have hS : Below w.heap.size w (w1.alloc (.cells #[.int .i64 f, .int .i64 u] 33)).drew ∧ (w1.alloc (.cells #[.int .i64 f, .int .i64 u] 33)).drew.cell? ⟨w.heap.size, 0, none⟩ = some (.int .i64 a) ∧ (w1.alloc (.cells #[.int .i64 f, .int .i64 u] 33)).drew.cell? ⟨w.heap.size, 1, none⟩ = some (.int .i64 b)
      ∧ (w1.alloc (.cells #[.int .i64 f, .int .i64 u] 33)).drew.cell? ⟨w1.heap.size, 0, none⟩ = some (.int .i64 f) ∧ (w1.alloc (.cells #[.int .i64 f, .int .i64 u] 33)).drew.cell? ⟨w1.heap.size, 1, none⟩ = some (.int .i64 u) := by
    obtain ⟨hc, hfz⟩ := bcell hb1
    have hz : w.heap.size < w1.heap.size := by have := hb1.size; simp at this; omega
    refine ⟨?_, ?_, ?_, ?_, ?_⟩
    · have := (below_on ((Below.refl w.heap.size w).alloc (Nat.le_refl _) _) hb1).alloc (Nat.le_of_lt hz) (.cells #[.int .i64 f, .int .i64 u] 33)
      exact below_drewN this 1
    all_goals go_simp
  have HS := Lib.hid hS
  clear hS hb1
  go_wp2_with fail
  go_region_held3 (fun w' => Below w.heap.size w w' ∧ w'.cell? ⟨w.heap.size, 0, none⟩ = some (.int .i64 a) ∧ w'.cell? ⟨w.heap.size, 1, none⟩ = some (.int .i64 b) ∧ w'.cell? ⟨w1.heap.size, 0, none⟩ = some (.int .i64 f) ∧ w'.cell? ⟨w1.heap.size, 1, none⟩ = some (.int .i64 u))
    (first | exact HS.out | exact keepT hb2 (by assumption))
    (first
      | (go_at_call 27; refine (span_any _ _ _).mono ?_; rintro e w2 ⟨rfl, hb2⟩; rw [← HF.out, ← HU.out])
      | (go_at_call 28; refine (empty_any _ _ _).mono ?_; rintro e w2 ⟨rfl, hb2⟩; rw [HE.out])
      | (go_at_call 22; refine (in_any _ _ _ _).mono ?_; rintro e w2 ⟨rfl, hb2⟩)
      | (go_at_call 19; refine (rin_any _ _ _ _).mono ?_; rintro e w2 ⟨rfl, hb2⟩)
      | (go_at_call 29; refine (len_any _ _ _).mono ?_; rintro e w2 ⟨rfl, hb2⟩; rw [← HF.out, ← HU.out]))
  have hw : (u - f + 1 != IntKind.i64.wrap (IntKind.i64.wrap (u - f) + 1)) = false := by
    rw [IntWalk.i64_in (u - f) (by omega), IntWalk.i64_in (u - f + 1) (by omega)]
    simp
  rw [hw]
  clear hw HS
  have hS : Below w.heap.size w w2 ∧ w2.cell? ⟨w.heap.size, 0, none⟩ = some (.int .i64 a) ∧ w2.cell? ⟨w.heap.size, 1, none⟩ = some (.int .i64 b) ∧ w2.cell? ⟨w1.heap.size, 0, none⟩ = some (.int .i64 f) ∧ w2.cell? ⟨w1.heap.size, 1, none⟩ = some (.int .i64 u) := by assumption
  clear hb2
  rename_i hh1
  clear hh1
  have HS : Hid (Below w.heap.size w w2.drew ∧ w2.drew.cell? ⟨w.heap.size, 0, none⟩ = some (.int .i64 a) ∧ w2.drew.cell? ⟨w.heap.size, 1, none⟩ = some (.int .i64 b) ∧ w2.drew.cell? ⟨w1.heap.size, 0, none⟩ = some (.int .i64 f) ∧ w2.drew.cell? ⟨w1.heap.size, 1, none⟩ = some (.int .i64 u)) :=
    Lib.hid ⟨below_drewN hS.1 1, hS.2.1, hS.2.2.1, hS.2.2.2.1, hS.2.2.2.2⟩
  clear hS
  go_wp2_with fail
  go_region_held3 (fun w' => Below w.heap.size w w' ∧ w'.cell? ⟨w.heap.size, 0, none⟩ = some (.int .i64 a) ∧ w'.cell? ⟨w.heap.size, 1, none⟩ = some (.int .i64 b) ∧ w'.cell? ⟨w1.heap.size, 0, none⟩ = some (.int .i64 f) ∧ w'.cell? ⟨w1.heap.size, 1, none⟩ = some (.int .i64 u))
    (first | exact HS.out | exact keepT hb3 (by assumption))
    (first
      | (go_at_call 27; refine (span_any _ _ _).mono ?_; rintro e w3 ⟨rfl, hb3⟩; (first | rw [HI1.out, HI2.out] | rw [← HF.out, ← HU.out]))
      | (go_at_call 30; refine (whole_kept _).mono ?_; rintro e w3 ⟨rfl, hb3⟩)
      | (go_at_call 18; refine (span_lives _).mono ?_; rintro e w3 ⟨rfl, hb3⟩))
  have hS : Below w.heap.size w w3 ∧ w3.cell? ⟨w.heap.size, 0, none⟩ = some (.int .i64 a) ∧ w3.cell? ⟨w.heap.size, 1, none⟩ = some (.int .i64 b) ∧ w3.cell? ⟨w1.heap.size, 0, none⟩ = some (.int .i64 f) ∧ w3.cell? ⟨w1.heap.size, 1, none⟩ = some (.int .i64 u) := by assumption
  have HB := Lib.hid hS.1
  clear hS
  go_wp2
  go_ret
  exact ⟨rfl, HB.out⟩
end Go.Proofs.Yticloblhdjnjkaa
