/- Contracts of moment.text and its closure. -/
import Derived.Test.YtnoomlakgfdaeaaMomA
import Derived.Laws.BytesArg
import Derived.RegionTactic
namespace Go.Proofs.Ytnoomlakgfdaeaa
open Go.RowKit

/-- two digits, four digits -/
def D2 (n : Int) : ByteArray := strOfNums [48 + n / 10 % 10, 48 + n % 10]
def D4 (n : Int) : ByteArray := strOfNums [48 + n / 10 / 10 / 10 % 10, 48 + n / 10 / 10 % 10, 48 + n / 10 % 10, 48 + n % 10]
theorem D2_size (n : Int) : (D2 n).size = 2 := rfl
theorem D4_size (n : Int) : (D4 n).size = 4 := rfl

/-- nothing that was there has changed but the block O -/
structure Same (O : Nat) (w w' : World) : Prop where
  cell : ∀ p : Addr, p.block < w.heap.size → p.block ≠ O → w'.cell? p = w.cell? p
  size : w.heap.size ≤ w'.heap.size
  bel : ∀ (B : Nat) (a : World), B ≤ O → B ≤ w.heap.size → Below B a w → Below B a w'

theorem Same.mk' {O : Nat} {w : World} (ob : Obj) (v : Value) : Same O w ((w.setCell ⟨O, 0, none⟩ v).alloc ob).drew := by
  refine ⟨fun p hp hne => ?_, by simp, fun B a h1 h2 h => ((h.setCell h1 v).alloc (by simpa using h2) ob).drew⟩
  refine World.cell?_of_block (w := w) ?_
  show ((w.setCell ⟨O, 0, none⟩ v).alloc ob).heap[p.block]? = _
  rw [Below.heap_alloc _ _ _ (by simpa using hp), Below.heap_setCell _ _ _ _ hne]
theorem Same.trans {O : Nat} {a b c : World} (h : Same O a b) (k : Same O b c) : Same O a c :=
  ⟨fun p hp hne => (k.cell p (Nat.lt_of_lt_of_le hp h.size) hne).trans (h.cell p hp hne), Nat.le_trans h.size k.size, fun B x h1 h2 hb => k.bel B x h1 (Nat.le_trans h2 h.size) (h.bel B x h1 h2 hb)⟩

/-- what the closure leaves -/
def DigPost (O : Nat) (o : ByteArray) (w : World) (e : Ending) (w' : World) : Prop := e = .returned (.tuple #[]) ∧ Same O w w' ∧ w'.cell? ⟨O, 0, none⟩ = some (.string o) ∧ w'.frozen? ⟨O, 0, none⟩ = false

set_option maxHeartbeats 1000000 in
theorem dig_two (n : Int) (sg : ByteArray) (B : Nat) (o : ByteArray) (w : World) (n0 : 0 ≤ n) (n1 : n ≤ 99) (hs : sg.size ≤ 4) (ho : o.size ≤ 100) (hc : w.cell? ⟨B, 0, none⟩ = some (.string o)) (hf : w.frozen? ⟨B, 0, none⟩ = false) :
    Calls Try.prog 93 #[.int .i64 n, .int .i64 2, .string sg, .pointer (some ⟨B, 0, none⟩)] w (DigPost B (o ++ (D2 n ++ sg)) w) := by
  have bl := World.block_lt_of_cell? _ _ hc
  have hcv := run_convert_bytes_arg (P := Try.prog) (w.alloc (.cells #[.int .u8 (48 + n / 10 % 10), .int .u8 (48 + n % 10), .int .u8 0, .int .u8 0] 110)).drew 108 5 Try.underlying108 Try.underlying5 w.heap.size 0 2 4 [48 + n / 10 % 10, 48 + n % 10] rfl (fun i hi => by
    match i, hi with
    | 0, _ => go_simp
    | 1, _ => go_simp) 9 Try.underlying9
  obtain ⟨T, hT⟩ : ∃ T, T = D2 n := ⟨_, rfl⟩
  have hT' : strOfNums [48 + n / 10 % 10, 48 + n % 10] = T := hT.symm
  rw [hT'] at hcv
  have tz : T.size ≤ 4 := by rw [hT, D2_size]; omega
  rw [← hT]
  clear hT hT'
  go_enter Try.func93, Try.ntmps93
  go_wp2
  refine wp_loop_rounds 3 ?_
  rw [rounds_succ]
  go_wp2
  rw [rounds_succ]
  go_wp2
  rw [rounds_succ]
  go_wp2
  go_region
  go_end0
  exact ⟨rfl, Same.mk' _ _, by go_simp, by go_simp⟩

set_option maxHeartbeats 1000000 in
theorem dig_four (n : Int) (sg : ByteArray) (B : Nat) (o : ByteArray) (w : World) (n0 : 0 ≤ n) (n1 : n ≤ 9999) (hs : sg.size ≤ 4) (ho : o.size ≤ 100) (hc : w.cell? ⟨B, 0, none⟩ = some (.string o)) (hf : w.frozen? ⟨B, 0, none⟩ = false) :
    Calls Try.prog 93 #[.int .i64 n, .int .i64 4, .string sg, .pointer (some ⟨B, 0, none⟩)] w (DigPost B (o ++ (D4 n ++ sg)) w) := by
  have bl := World.block_lt_of_cell? _ _ hc
  have hcv := run_convert_bytes_arg (P := Try.prog) (w.alloc (.cells #[.int .u8 (48 + n / 10 / 10 / 10 % 10), .int .u8 (48 + n / 10 / 10 % 10), .int .u8 (48 + n / 10 % 10), .int .u8 (48 + n % 10)] 110)).drew 108 5 Try.underlying108 Try.underlying5 w.heap.size 0 4 4 [48 + n / 10 / 10 / 10 % 10, 48 + n / 10 / 10 % 10, 48 + n / 10 % 10, 48 + n % 10] rfl (fun i hi => by
    match i, hi with
    | 0, _ => go_simp
    | 1, _ => go_simp
    | 2, _ => go_simp
    | 3, _ => go_simp) 9 Try.underlying9
  obtain ⟨T, hT⟩ : ∃ T, T = D4 n := ⟨_, rfl⟩
  have hT' : strOfNums [48 + n / 10 / 10 / 10 % 10, 48 + n / 10 / 10 % 10, 48 + n / 10 % 10, 48 + n % 10] = T := hT.symm
  rw [hT'] at hcv
  have tz : T.size ≤ 4 := by rw [hT, D4_size]; omega
  rw [← hT]
  clear hT hT'
  go_enter Try.func93, Try.ntmps93
  go_wp2
  refine wp_loop_rounds 5 ?_
  rw [rounds_succ]
  go_wp2
  rw [rounds_succ]
  go_wp2
  rw [rounds_succ]
  go_wp2
  rw [rounds_succ]
  go_wp2
  rw [rounds_succ]
  go_wp2
  go_region
  go_end0
  exact ⟨rfl, Same.mk' _ _, by go_simp, by go_simp⟩

end Go.Proofs.Ytnoomlakgfdaeaa
