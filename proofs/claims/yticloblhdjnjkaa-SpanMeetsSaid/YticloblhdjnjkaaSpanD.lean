/- The walk of ferialaw09.SpanMeets: the law gathers the spans into a slice of its own, and asks both answers of it. -/
import Derived.Test.YticloblhdjnjkaaSpanC
import Derived.OwnWalk
import Derived.Laws.AppendOwn
import Derived.Laws.OwnMore
import Derived.Deep.AppendLies
namespace Go.Proofs.Yticloblhdjnjkaa
open Go.RowKit

theorem owns_on {w w' : World} {base : Nat} {e : TypeId} {size : Nat} {v : Value} {n : Nat} {xs : List Value} (h : w.ownsRow base e size v n xs) (hb : Below w.heap.size w w') : w'.ownsRow base e size v n xs := by
  obtain ⟨h1, h2⟩ := h
  refine ⟨h1, ?_⟩
  rcases h2 with h2 | ⟨g, cap, cur, h3, h4, h5, h6⟩
  · exact .inl h2
  · refine .inr ⟨g, cap, cur, h3, h4, ?_, h6⟩
    rw [hb.block g (by
      apply Classical.byContradiction
      intro hn
      rw [Array.getElem?_eq_none (by omega)] at h5
      cases h5)]
    exact h5

def flatS (xs : List (Int × Int)) : List Value := xs.flatMap fun p => [.int .i64 p.1, .int .i64 p.2]
theorem flatS_length (xs : List (Int × Int)) : (flatS xs).length = xs.length * 2 := by
  induction xs with
  | nil => rfl
  | cons x xs ih => simp only [flatS, List.flatMap_cons, List.length_append, List.length_cons, List.length_nil] at *; omega
theorem flatS_at (xs : List (Int × Int)) (k : Nat) (h : k < xs.length) : (flatS xs)[k * 2]? = some (.int .i64 (xs.getD k (0, 0)).1) ∧ (flatS xs)[k * 2 + 1]? = some (.int .i64 (xs.getD k (0, 0)).2) := by
  induction xs generalizing k with
  | nil => simp at h
  | cons x xs ih =>
    cases k with
    | zero => simp [flatS]
    | succ k =>
      have := ih k (by simpa using h)
      have e1 : (k + 1) * 2 = k * 2 + 1 + 1 := by omega
      rw [e1]
      simpa [flatS] using this
theorem flatS_snoc (xs : List (Int × Int)) (k : Nat) (h : k < xs.length) : flatS (xs.take (k + 1)) = flatS (xs.take k) ++ [.int .i64 (xs.getD k (0, 0)).1, .int .i64 (xs.getD k (0, 0)).2] := by
  unfold flatS
  rw [List.take_succ_eq_append_getElem h, List.flatMap_append]
  simp [List.getD, h]

theorem owns_spans {w : World} {base : Nat} {e : TypeId} {v : Value} {n : Nat} {xs : List (Int × Int)} (h : w.ownsRow base e 2 v n (flatS xs)) : ∃ A c, v = .slice A xs.length c ∧ SpansAt w A xs := by
  have hl := h.1
  rw [flatS_length] at hl
  obtain rfl : n = xs.length := by omega
  rcases h.2 with ⟨rfl, h2⟩ | ⟨g, cap, cur, rfl, _, _⟩
  · exact ⟨none, 0, by rw [h2], fun k hk => absurd hk (by omega)⟩
  · refine ⟨_, _, rfl, fun k hk => ⟨g, 0, rfl, ?_, ?_⟩⟩
    · rw [Nat.zero_add, h.cellAt (k * 2) (by omega)]
      exact (flatS_at xs k hk).1
    · rw [Nat.zero_add, h.cellAt (k * 2 + 1) (by omega)]
      exact (flatS_at xs k hk).2

/-- is an instant of the window in all spans? -/
def inAll (t : Int) (xs : List (Int × Int)) : Bool := (decide (0 ≤ t) && decide (t ≤ 12622780799)) && xs.all fun p => inB p.1 p.2 t
theorem inAll_snoc (t : Int) (xs : List (Int × Int)) (k : Nat) (h : k < xs.length) : inAll t (xs.take (k + 1)) = (inAll t (xs.take k) && inB (xs.getD k (0, 0)).1 (xs.getD k (0, 0)).2 t) := by
  unfold inAll
  rw [List.take_succ_eq_append_getElem h, List.all_append]
  simp [List.getD, h, Bool.and_assoc]
theorem fold_in (t : Int) (xs : List (Int × Int)) (m : Int × Int) : ((xs.foldl (fun m x => (max m.1 x.1, min m.2 x.2)) m).1 ≤ t ∧ t ≤ (xs.foldl (fun m x => (max m.1 x.1, min m.2 x.2)) m).2) ↔ ((m.1 ≤ t ∧ t ≤ m.2) ∧ ∀ x ∈ xs, x.1 ≤ t ∧ t ≤ x.2) := by
  induction xs generalizing m with
  | nil => simp
  | cons x xs ih =>
    rw [List.foldl_cons, ih]
    simp only [List.mem_cons, forall_eq_or_imp]
    constructor
    · rintro ⟨⟨h1, h2⟩, h3⟩
      exact ⟨⟨by omega, by omega⟩, ⟨by omega, by omega⟩, h3⟩
    · rintro ⟨⟨h1, h2⟩, ⟨h4, h5⟩, h3⟩
      exact ⟨⟨by omega, by omega⟩, h3⟩
theorem inAll_mt (t : Int) (xs : List (Int × Int)) : inB (hF (mt xs).1 (mt xs).2) (hU (mt xs).1 (mt xs).2) t = inAll t xs := by
  have h1 : inB (hF (mt xs).1 (mt xs).2) (hU (mt xs).1 (mt xs).2) t = inB (mt xs).1 (mt xs).2 t := by
    unfold inB; rw [(h_idem _ _).1, (h_idem _ _).2]
  rw [h1, inB_eq, Bool.eq_iff_iff]
  have h2 := fold_in t xs (0, 12622780799)
  have h3 : (mt xs).1 ≤ t ∧ t ≤ (mt xs).2 ↔ _ := h2
  unfold inAll
  simp only [Bool.and_eq_true, decide_eq_true_eq, List.all_eq_true, inB_eq] at *
  constructor
  · rintro ⟨⟨⟨a, b⟩, c⟩, d⟩
    obtain ⟨_, k⟩ := h3.1 ⟨c, d⟩
    exact ⟨⟨a, b⟩, fun x hx => ⟨⟨⟨a, b⟩, (k x hx).1⟩, (k x hx).2⟩⟩
  · rintro ⟨⟨a, b⟩, k⟩
    obtain ⟨c, d⟩ := h3.2 ⟨⟨a, b⟩, fun x hx => ⟨(k x hx).1.2, (k x hx).2⟩⟩
    exact ⟨⟨⟨a, b⟩, c⟩, d⟩

theorem infoS : (Try.prog.info? 33).map (fun i => (i.zero, i.size, i.bytes)) = some (some (.agg #[.int .i64 0, .int .i64 0]), 2, 16) := by kernel_rfl

/-- a round's head -/
structure GInv (w wr : World) (v : Value) (k : Nat) (B : Bool) (t : Int) (xs : List (Int × Int)) : Prop where
  own : wr.ownsRow w.heap.size 33 2 v k (flatS (xs.take k))
  bel : Below w.heap.size w wr
  is : B = inAll t (xs.take k)

theorem GInv.next {w wr w1 w2 : World} {v v' : Value} {k : Nat} {B : Bool} {t x y : Int} {xs : List (Int × Int)} {ob : Obj} (h : GInv w wr v k B t xs) (hk : k < xs.length) (hx : x = (xs.getD k (0, 0)).1) (hy : y = (xs.getD k (0, 0)).2)
    (own : w1.ownsRow w.heap.size 33 2 v' (k + 1) (flatS (xs.take k) ++ [.int .i64 x, .int .i64 y])) (hg : (wr.alloc ob).grownBy w1 v.ownBlock) (hb : Below w1.heap.size w1 w2) :
    GInv w w2 v' (k + 1) (B && inB x y t) t xs := by
  have b1 : Below w.heap.size w w1 := (h.bel.alloc h.bel.size ob).grown hg (Nat.le_trans h.bel.size (by simp)) (fun j hj => (h.own.lt j hj).1)
  refine ⟨?_, below_on b1 hb, ?_⟩
  · rw [flatS_snoc xs k hk, ← hx, ← hy]
    exact owns_on own hb
  · rw [inAll_snoc t xs k hk, ← hx, ← hy, h.is]

theorem GInv.cells {w wr w1 : World} {v : Value} {k : Nat} {B : Bool} {t : Int} {xs : List (Int × Int)} {ob : Obj} (h : GInv w wr v k B t xs) (hg : (wr.alloc ob).grownBy w1 v.ownBlock) {p : Addr} {u : Value} (hc : w.cell? p = some u) : w1.cell? p = some u :=
  (((h.bel.alloc h.bel.size ob).grown hg (Nat.le_trans h.bel.size (by simp)) (fun j hj => (h.own.lt j hj).1)).cell (World.block_lt_of_cell? _ _ hc)).trans hc

theorem keepM {w wr W w2 : World} {X : Nat} {f u : Int} (hb : Below W.heap.size W w2)
    (h : Below w.heap.size w W ∧ Below wr.heap.size wr W ∧ W.cell? ⟨X, 0, none⟩ = some (.int .i64 f) ∧ W.cell? ⟨X, 1, none⟩ = some (.int .i64 u)) :
    Below w.heap.size w w2 ∧ Below wr.heap.size wr w2 ∧ w2.cell? ⟨X, 0, none⟩ = some (.int .i64 f) ∧ w2.cell? ⟨X, 1, none⟩ = some (.int .i64 u) :=
  ⟨below_on h.1 hb, below_on h.2.1 hb, (hb.cell (World.block_lt_of_cell? _ _ h.2.2.1)).trans h.2.2.1, (hb.cell (World.block_lt_of_cell? _ _ h.2.2.2)).trans h.2.2.2⟩

set_option maxHeartbeats 2000000 in
set_option maxRecDepth 100000 in
theorem SpanMeets_walk (A : Option Addr) (c : Nat) (xs : List (Int × Int)) (t : Int) (w : World) (h : SpansAt w A xs) (hl : xs.length ≤ 9223372036854775807) :
    Calls Try.prog 5 #[.slice A xs.length c, .int .i64 t] w (Kept (.bool true) w) := by
  obtain ⟨n0, hn⟩ : ∃ n, n = xs.length := ⟨_, rfl⟩
  have HI := Lib.hid h
  have HN := Lib.hid hn
  clear h
  rw [← hn] at hl ⊢
  clear hn
  by_cases h50 : 50 < n0
  · have h50' : (50 : Int) < (n0 : Int) := by omega
    go_enter Try.func5, Try.ntmps5
    go_wp2_with fail
    refine (span_lives _).mono ?_
    rintro e w' ⟨rfl, hw⟩
    have HW := Lib.hid hw
    clear hw
    go_wp2
    go_ret
    exact ⟨rfl, HW.out⟩
  have h50' : ¬ (50 : Int) < (n0 : Int) := by omega
  obtain ⟨i0, hi, hz0, hz1, hz2⟩ := info_parts infoS
  have cs : (decide (0 ≤ t) = false) ∨ (decide (0 ≤ t) = true ∧ decide (t ≤ 12622780799) = false) ∨ (decide (0 ≤ t) = true ∧ decide (t ≤ 12622780799) = true) := by
    simp only [decide_eq_true_eq, decide_eq_false_iff_not]
    omega
  rcases cs with e1 | ⟨e1, e2⟩ | ⟨e1, e2⟩
  all_goals
    have E0 := Lib.hid (show _ = inAll t [] by unfold inAll; simp only [*]; rfl)
    go_enter Try.func5, Try.ntmps5
    go_wp2_with fail
    go_loopw [5, 6, 7] (fun v b i wr => ∃ (k : Nat) (B : Bool), k ≤ n0 ∧ i = .int .i64 k ∧ b = .bool B ∧ Hid (GInv w wr v k B t xs)) (fun _ _ i _ => n0 - (intOf i).toNat)
    case atStart => exact ⟨0, _, Nat.zero_le _, rfl, rfl, Lib.hid ⟨World.ownsRow_nil _ _ _ _, Below.refl _ _, E0.out⟩⟩
    case round =>
      obtain ⟨k, B, hk, rfl, rfl, HG⟩ := hrel
      by_cases hlt : k < n0
      · obtain ⟨b, off, rfl, z1, z2⟩ := HI.out k (by rw [← HN.out]; exact hlt)
        obtain ⟨x, hx⟩ : ∃ x, x = (xs.getD k (0, 0)).1 := ⟨_, rfl⟩
        obtain ⟨y, hy⟩ : ∃ y, y = (xs.getD k (0, 0)).2 := ⟨_, rfl⟩
        rw [← hx] at z1
        rw [← hy] at z2
        have hc1 := (HG.out.bel.cell (World.block_lt_of_cell? _ _ z1)).trans z1
        have hc2 := (HG.out.bel.cell (World.block_lt_of_cell? _ _ z2)).trans z2
        have Z1 := Lib.hid z1
        have Z2 := Lib.hid z2
        clear z1 z2
        have HX := Lib.hid hx
        have HY := Lib.hid hy
        clear hx hy
        have bl := World.block_lt_of_cell? _ _ hc1
        have hb1 : (k + 1) * 16 ≤ 140737488355328 := by omega
        have hb2 : k + 1 ≤ maxLen := by unfold maxLen; omega
        have HK : Hid (k < xs.length) := Lib.hid (by rw [← HN.out]; exact hlt)
        cases B
        · go_wp2_with (at_builtin; refine wpList_append_own _ rfl _ _ 31 rfl w.heap.size 33 i0 (.agg #[.int .i64 0, .int .i64 0]) 2 16 Try.underlying31 hi hz0 hz1 hz2 rfl (by decide) _ k _ rfl (HG.out.own.alloc _) ⟨wr.heap.size, 0, none⟩ 1 1 [.int .i64 x, .int .i64 y] rfl rfl (World.news_of_block (cs := #[.int .i64 x, .int .i64 y]) (t := 33) (fr := (0, 0)) (heap_alloc_new wr _)) (by simp [Value.oneCell']) hb2 hb1 (Nat.le_trans HG.out.bel.size (by simp)) ?_; intro v' w1 hown' hgrow _; have HO := Lib.hid hown'; have HR := Lib.hid hgrow; clear hown' hgrow)
          go_roundw
          case rel => exact ⟨k + 1, _, by omega, by go_num, rfl, Lib.hid (HG.out.next HK.out HX.out HY.out HO.out HR.out (Below.refl _ _))⟩
          case measure => simp [intOf]; omega
        · go_wp2_with (at_builtin; refine wpList_append_own _ rfl _ _ 31 rfl w.heap.size 33 i0 (.agg #[.int .i64 0, .int .i64 0]) 2 16 Try.underlying31 hi hz0 hz1 hz2 rfl (by decide) _ k _ rfl (HG.out.own.alloc _) ⟨wr.heap.size, 0, none⟩ 1 1 [.int .i64 x, .int .i64 y] rfl rfl (World.news_of_block (cs := #[.int .i64 x, .int .i64 y]) (t := 33) (fr := (0, 0)) (heap_alloc_new wr _)) (by simp [Value.oneCell']) hb2 hb1 (Nat.le_trans HG.out.bel.size (by simp)) ?_; intro v' w1 hown' hgrow _; have HO := Lib.hid hown'; have d1 := HG.out.cells hgrow Z1.out; have d2 := HG.out.cells hgrow Z2.out; have HR := Lib.hid hgrow; clear hown' hgrow; have db := World.block_lt_of_cell? _ _ d1)
          refine (rin_any _ _ _ _).mono ?_
          rintro e w2 ⟨rfl, hb⟩
          obtain ⟨C, hC⟩ : ∃ C, C = inB x y t := ⟨_, rfl⟩
          rw [← hC]
          have HB := Lib.hid hb
          have HC := Lib.hid hC
          clear hb hC
          go_wp2_with fail
          go_roundw
          case rel => exact ⟨k + 1, _, by omega, by go_num, rfl, Lib.hid (by rw [HC.out]; exact HG.out.next HK.out HX.out HY.out HO.out HR.out HB.out)⟩
          case measure => simp [intOf]; omega
      · have hg := HG.out
        obtain ⟨own, bel, is⟩ := hg
        rw [List.take_of_length_le (by rw [← HN.out]; omega)] at own is
        obtain ⟨Ax, cx, rfl, hx⟩ := owns_spans own
        rw [← HN.out]
        have HL : Hid (xs.length ≤ 140737488351232) := Lib.hid (by rw [← HN.out]; omega)
        have HX := Lib.hid hx
        have IS := Lib.hid is
        clear hx is own
        have HBE := Lib.hid bel
        clear bel
        go_wp2_with fail
        rw [HN.out]
        refine (meet_any A c xs _ HL.out (HI.out.below HBE.out)).mono ?_
        rintro e w1 ⟨rfl, hb1⟩
        obtain ⟨P, hP⟩ : ∃ P, P = hF (mt xs).1 (mt xs).2 := ⟨_, rfl⟩
        obtain ⟨Q, hQ⟩ : ∃ Q, Q = hU (mt xs).1 (mt xs).2 := ⟨_, rfl⟩
        rw [← hP, ← hQ]
        have HP := Lib.hid hP
        have HQ := Lib.hid hQ
        clear hP hQ
        rw [← HN.out]
        have HB1 := Lib.hid hb1
        clear hb1
        go_wp2_with fail
        have HS : Hid (Below w.heap.size w (w1.alloc (.cells #[.int .i64 P, .int .i64 Q] 34)).drew ∧ Below wr.heap.size wr (w1.alloc (.cells #[.int .i64 P, .int .i64 Q] 34)).drew ∧ (w1.alloc (.cells #[.int .i64 P, .int .i64 Q] 34)).drew.cell? ⟨w1.heap.size, 0, none⟩ = some (.int .i64 P) ∧ (w1.alloc (.cells #[.int .i64 P, .int .i64 Q] 34)).drew.cell? ⟨w1.heap.size, 1, none⟩ = some (.int .i64 Q)) :=
          Lib.hid ⟨((below_on HBE.out HB1.out).alloc (Nat.le_trans HBE.out.size HB1.out.size) _).drew, (HB1.out.alloc HB1.out.size _).drew, by go_simp, by go_simp⟩
        have HE : Hid (inB P Q t = B) := Lib.hid (by rw [IS.out, HP.out, HQ.out, inAll_mt])
        go_region_held3 (fun w' => Below w.heap.size w w' ∧ Below wr.heap.size wr w' ∧ w'.cell? ⟨w1.heap.size, 0, none⟩ = some (.int .i64 P) ∧ w'.cell? ⟨w1.heap.size, 1, none⟩ = some (.int .i64 Q))
          (first | exact HS.out | exact keepM hb3 (by assumption))
          (first
            | (go_at_call 21; rw [HN.out]; refine (rmeet_any _ _ xs _ HL.out (HX.out.below (by assumption : Below w.heap.size w _ ∧ Below wr.heap.size wr _ ∧ _).2.1)).mono ?_; rintro e w3 ⟨rfl, hb3⟩; rw [← HP.out, ← HQ.out, ← HN.out])
            | (go_at_call 22; refine (in_any _ _ _ _).mono ?_; rintro e w3 ⟨rfl, hb3⟩; rw [HE.out])
            | (go_at_call 18; refine (span_lives _).mono ?_; rintro e w3 ⟨rfl, hb3⟩))
        have hS : Below w.heap.size w w3 ∧ Below wr.heap.size wr w3 ∧ w3.cell? ⟨w1.heap.size, 0, none⟩ = some (.int .i64 P) ∧ w3.cell? ⟨w1.heap.size, 1, none⟩ = some (.int .i64 Q) := by assumption
        have HB := Lib.hid hS.1
        clear hS
        go_wp2
        go_ret
        exact ⟨rfl, HB.out⟩
end Go.Proofs.Yticloblhdjnjkaa
