/- Contracts: a number of digits (moment.number, the reference's number). -/
import Derived.Test.YtnoomlakgfdaeaaMomH
import Derived.Test.YtnoomlakgfdaeaaMomP
import Derived.Laws.IdiomStrings
namespace Go.Proofs.Ytnoomlakgfdaeaa
open Go.RowKit

theorem ten_le (k : Nat) (h : k ≤ 4) : (10 : Int) ^ k ≤ 10000 := by
  match k, h with
  | 0, _ => decide
  | 1, _ => decide
  | 2, _ => decide
  | 3, _ => decide
  | 4, _ => decide
theorem nm_at (s : ByteArray) (hs : s.size ≤ 4) (hd : ∀ j, (h : j < s.size) → isD s[j]) (k : Nat) (hk : k ≤ s.size) : 0 ≤ nm (s.data.toList.take k) ∧ nm (s.data.toList.take k) ≤ 9999 := by
  have hl : s.data.toList.length = s.size := by simp
  have h := nm_bd s.data.toList (fun j hj => hd j (by omega)) k (by omega)
  have := ten_le k (by omega)
  omega
theorem nm_step (s : ByteArray) (k : Nat) (hk : k < s.size) : nm (s.data.toList.take (k + 1)) = 10 * nm (s.data.toList.take k) + ((s[k].toNat : Int) - 48) := by
  rw [List.take_succ_eq_append_getElem (by simpa using hk), nm_snoc]
  rfl

set_option maxRecDepth 100000 in
set_option maxHeartbeats 2000000 in
theorem wnumber_any (s : ByteArray) (w : World) (hs : s.size ≤ 4) (hd : ∀ j, (h : j < s.size) → isD s[j]) :
    Calls Try.prog 78 #[.string s] w (Kept (.int .i64 (nm s.data.toList)) w) := by
  have hcv := run_bytes_of_string (P := Try.prog) w 9 108 5 s Try.underlying9 Try.underlying108 Try.underlying5
  have hC : ∀ j, (h : j < s.size) → (w.alloc (.cells (bytesRow s (grownCap w s.size 0 5)) 5 ((bytesRow s (grownCap w s.size 0 5)).size, (bytesRow s (grownCap w s.size 0 5)).size + 1))).cell? ⟨w.heap.size, j, none⟩ = some (.int .u8 (s[j].toNat : Int)) := fun j hj => by
    rw [World.cell?_alloc_mark, bytesRow_at s _ j hj]
    rfl
  obtain ⟨cap, hcap⟩ : ∃ c, c = grownCap w s.size 0 5 := ⟨_, rfl⟩
  rw [← hcap] at hcv hC
  obtain ⟨C, hCC⟩ : ∃ C, C = bytesRow s cap := ⟨_, rfl⟩
  rw [← hCC] at hcv hC
  have hbd := nm_at s hs hd
  have hst := nm_step s
  have HCE := Lib.hid hC
  have HBD := Lib.hid hbd
  have HST := Lib.hid hst
  have HD := Lib.hid hd
  have HZ : Hid (nm (s.data.toList.take s.size) = nm s.data.toList) := Lib.hid (by rw [List.take_of_length_le (by simp)])
  clear hcap hCC hC hbd hst hd
  go_enter Try.func78, Try.ntmps78
  go_wp2_with fail
  go_loop [3, 9] (fun n i => ∃ k : Nat, k ≤ s.size ∧ i = .int .i64 k ∧ n = .int .i64 (nm (s.data.toList.take k))) (fun _ i => s.size - (intOf i).toNat)
  case atStart => exact ⟨0, Nat.zero_le _, rfl, rfl⟩
  case round =>
    obtain ⟨k, hk, rfl, rfl⟩ := hrel
    clear hcv
    obtain ⟨b0, b1⟩ := HBD.out k hk
    by_cases hlt : k < s.size
    · have hcell := HCE.out k hlt
      have hstep := HST.out k hlt
      obtain ⟨d0, d1⟩ := HD.out k hlt
      obtain ⟨c, hc⟩ : ∃ c : Int, c = (s[k].toNat : Int) := ⟨_, rfl⟩
      have c0 : 48 ≤ c ∧ c ≤ 57 := by omega
      rw [← hc] at hcell hstep
      obtain ⟨n, hn⟩ : ∃ n, n = nm (s.data.toList.take k) := ⟨_, rfl⟩
      rw [← hn] at hstep b0 b1 ⊢
      have HS := Lib.hid hstep
      clear hc hn hstep d0 d1
      go_wp2
      go_round
      case rel => exact ⟨k + 1, by omega, by go_num, by rw [HS.out]⟩
      case measure => simp [intOf]; omega
    · obtain rfl : k = s.size := by omega
      go_wp2
      go_ret
      exact ⟨ret_int HZ.out, ((Below.refl _ _).alloc (Nat.le_refl _) _).drew⟩

set_option maxRecDepth 100000 in
set_option maxHeartbeats 2000000 in
theorem rnumber8_any (s : ByteArray) (w : World) (hs : s.size ≤ 4) (hd : ∀ j, (h : j < s.size) → isD s[j]) :
    Calls Try.prog 92 #[.string s] w fun e w' => e = .returned (.int .i64 (nm s.data.toList)) ∧ w = w' := by
  have hbd := nm_at s hs hd
  have hst := nm_step s
  have HBD := Lib.hid hbd
  have HST := Lib.hid hst
  have HD := Lib.hid hd
  have HZ : Hid (nm (s.data.toList.take s.size) = nm s.data.toList) := Lib.hid (by rw [List.take_of_length_le (by simp)])
  clear hbd hst hd
  go_enter Try.func92, Try.ntmps92
  go_wp2_with fail
  go_loop [3, 4] (fun n i => ∃ k : Nat, k ≤ s.size ∧ i = .int .i64 k ∧ n = .int .i64 (nm (s.data.toList.take k))) (fun _ i => s.size - (intOf i).toNat)
  case atStart => exact ⟨0, Nat.zero_le _, rfl, rfl⟩
  case round =>
    obtain ⟨k, hk, rfl, rfl⟩ := hrel
    obtain ⟨b0, b1⟩ := HBD.out k hk
    by_cases hlt : k < s.size
    · have hstep := HST.out k hlt
      obtain ⟨d0, d1⟩ := HD.out k hlt
      obtain ⟨n, hn⟩ : ∃ n, n = nm (s.data.toList.take k) := ⟨_, rfl⟩
      rw [← hn] at hstep b0 b1 ⊢
      have HS : Hid (nm (s.data.toList.take (k + 1)) = 10 * n + (s[k].toNat : Int) - 48) := Lib.hid (by rw [hstep]; omega)
      clear hn hstep
      go_wp2
      go_round
      case rel => exact ⟨k + 1, by omega, by go_num, by rw [HS.out]⟩
      case measure => simp [intOf]; omega
    · obtain rfl : k = s.size := by omega
      go_wp2
      go_ret
      exact ⟨ret_int HZ.out, rfl⟩
end Go.Proofs.Ytnoomlakgfdaeaa
