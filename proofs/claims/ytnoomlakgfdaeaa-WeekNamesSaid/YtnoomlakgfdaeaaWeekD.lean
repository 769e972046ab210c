/- Contracts of package week's small and of the reference's Small. -/
import Derived.Test.YtnoomlakgfdaeaaWeekB
import Derived.Laws.IdiomStrings
import Derived.OwnWalk
namespace Go.Proofs.Ytnoomlakgfdaeaa
open Go.RowKit

/-- a byte, a text in small letters -/
def loB (c : UInt8) : UInt8 := if 65 ≤ c.toNat ∧ c.toNat ≤ 90 then c + 32 else c
def sml (s : ByteArray) : ByteArray := ⟨(s.data.toList.map loB).toArray⟩
theorem loB_in {c : UInt8} (h : 65 ≤ (c.toNat : Int) ∧ (c.toNat : Int) ≤ 90) : ((loB c).toNat : Int) = (c.toNat : Int) + 32 := by
  unfold loB
  rw [if_pos (by omega), UInt8.toNat_add]
  have : (32 : UInt8).toNat = 32 := rfl
  rw [this]
  omega
theorem loB_out {c : UInt8} (h : ¬ (65 ≤ (c.toNat : Int) ∧ (c.toNat : Int) ≤ 90)) : loB c = c := by
  unfold loB
  rw [if_neg (by omega)]
/-- a byte's cell -/
def u8V (c : UInt8) : Value := .int .u8 (c.toNat : Int)

theorem back_any (s : ByteArray) (g cap : Nat) (W : World) (h : ∀ j, (hj : j < s.size) → W.cell? ⟨g, j, none⟩ = some (u8V (loB s[j]))) : (convert 108 9 (.slice (some ⟨g, 0, none⟩) s.size cap)).run Try.prog W = .ok (.string (sml s)) W := by
  have := run_convert_bytes_back (P := Try.prog) W 108 9 5 ⟨g, 0, none⟩ cap (s.data.toList.map loB) Try.underlying108 Try.underlying5 Try.underlying9 (fun j hj => by
    rw [Go.WideShapes.add_plain, Nat.zero_add, h j (by simpa using hj)]
    simp only [List.getElem_map, u8V]
    rfl)
  rw [show (s.data.toList.map loB).length = s.size by simp] at this
  exact this

/-- what holds at a round's head -/
structure SM (w wr : World) (s : ByteArray) (B k : Nat) : Prop where
  bel : Below w.heap.size w wr
  c : ∀ j, (h : j < s.size) → wr.cell? ⟨B, j, none⟩ = some (u8V (if j < k then loB s[j] else s[j]))
  f : ∀ j, j < s.size → wr.frozen? ⟨B, j, none⟩ = false
theorem SM.store {w wr : World} {s : ByteArray} {k : Nat} (h : SM w wr s w.heap.size k) (hk : k < s.size) : SM w (wr.setCell ⟨w.heap.size, k, none⟩ (u8V (loB s[k]))) s w.heap.size (k + 1) := by
  refine ⟨h.bel.setCell (Nat.le_refl _) _, fun j hj => ?_, fun j hj => by rw [World.frozen?_setCell]; exact h.f j hj⟩
  by_cases e : j = k
  · subst e
    rw [if_pos (by omega), World.cell?_setCell_same _ _ _ (h.c j hj)]
  · rw [World.cell?_setCell_other _ _ _ _ (by intro e'; injection e' with _ e'; exact e e'.symm), h.c j hj]
    by_cases e2 : j < k
    · rw [if_pos e2, if_pos (by omega)]
    · rw [if_neg e2, if_neg (by omega)]
theorem SM.skip {w wr : World} {s : ByteArray} {k : Nat} (h : SM w wr s w.heap.size k) (hk : k < s.size) (hs : loB s[k] = s[k]) : SM w wr s w.heap.size (k + 1) := by
  refine ⟨h.bel, fun j hj => ?_, h.f⟩
  rw [h.c j hj]
  by_cases e : j = k
  · subst e
    rw [if_neg (by omega), if_pos (by omega), hs]
  · by_cases e2 : j < k
    · rw [if_pos e2, if_pos (by omega)]
    · rw [if_neg e2, if_neg (by omega)]

set_option maxRecDepth 100000 in
set_option maxHeartbeats 4000000 in
theorem wsmall_any (s : ByteArray) (w : World) (hs : s.size ≤ 9223372036854775807) : Calls Try.prog 90 #[.string s] w (Kept (.string (sml s)) w) := by
  have hcv := run_bytes_of_string (P := Try.prog) w 9 108 5 s Try.underlying9 Try.underlying108 Try.underlying5
  have hC : ∀ j, (h : j < s.size) → (w.alloc (.cells (bytesRow s (grownCap w s.size 0 5)) 5 ((bytesRow s (grownCap w s.size 0 5)).size, (bytesRow s (grownCap w s.size 0 5)).size + 1))).cell? ⟨w.heap.size, j, none⟩ = some (u8V s[j]) := fun j hj => by
    rw [World.cell?_alloc_mark, bytesRow_at s _ j hj]
    rfl
  have hz : s.size ≤ (bytesRow s (grownCap w s.size 0 5)).size := by
    unfold bytesRow
    rw [Array.size_append, Array.size_map]
    exact Nat.le_add_right _ _
  have hback : ∀ (W : World) (cap : Nat), (∀ j, (hj : j < s.size) → W.cell? ⟨w.heap.size, j, none⟩ = some (u8V (loB s[j]))) → (convert 108 9 (.slice (some ⟨w.heap.size, 0, none⟩) s.size cap)).run Try.prog W = .ok (.string (sml s)) W := fun W cap h => back_any s w.heap.size cap W h
  obtain ⟨cap, hcap⟩ : ∃ c, c = grownCap w s.size 0 5 := ⟨_, rfl⟩
  rw [← hcap] at hcv hC hz
  obtain ⟨C, hCC⟩ : ∃ C, C = bytesRow s cap := ⟨_, rfl⟩
  rw [← hCC] at hcv hC hz
  have hSM : SM w (w.alloc (.cells C 5 (C.size, C.size + 1))).drew s w.heap.size 0 := by
    refine ⟨((Below.refl _ _).alloc (Nat.le_refl _) _).drew, fun j hj => ?_, fun j hj => ?_⟩
    · rw [if_neg (by omega)]
      exact hC j hj
    · show (w.alloc (.cells C 5 (C.size, C.size + 1))).frozen? ⟨w.heap.size, j, none⟩ = false
      rw [World.frozen?_alloc_mark, Bool.and_eq_false_iff]
      exact .inl (decide_eq_false (by omega))
  have HSM := Lib.hid hSM
  have HBK := Lib.hid hback
  clear hcap hCC hC hSM hback hz
  go_enter Try.func90, Try.ntmps90
  go_wp2_with fail
  clear hcv
  go_loopw [10] (fun i wr => ∃ k : Nat, k ≤ s.size ∧ i = .int .i64 k ∧ Hid (SM w wr s w.heap.size k)) (fun i _ => s.size - (intOf i).toNat)
  case atStart => exact ⟨0, by omega, rfl, HSM⟩
  case round =>
    obtain ⟨k, hk, rfl, HX⟩ := hrel
    by_cases hlt : k < s.size
    · have hc := HX.out.c k hlt
      have hf := HX.out.f k hlt
      rw [if_neg (by omega)] at hc
      unfold u8V at hc
      have bl := World.block_lt_of_cell? _ _ hc
      have hst := HX.out.store hlt
      have hin := loB_in (c := s[k])
      have hsk := fun (hh : ¬ (65 ≤ (s[k].toNat : Int) ∧ (s[k].toNat : Int) ≤ 90)) => HX.out.skip hlt (loB_out (c := s[k]) hh)
      have hb0 : 0 ≤ (s[k].toNat : Int) ∧ (s[k].toNat : Int) ≤ 255 := by have := s[k].toNat_lt; omega
      unfold u8V at hst
      obtain ⟨c, hcc⟩ : ∃ c : Int, c = (s[k].toNat : Int) := ⟨_, rfl⟩
      rw [← hcc] at hc hin hb0
      simp only [← hcc] at hsk
      have HST := Lib.hid hst
      have HIN := Lib.hid hin
      have HSK := Lib.hid hsk
      clear hcc hst hin hsk
      by_cases c1 : 65 ≤ c
      · by_cases c2 : c ≤ 90
        · have hS := HST.out
          rw [HIN.out ⟨c1, c2⟩] at hS
          have HS := Lib.hid hS
          clear hS
          go_wp2
          go_roundw
          case rel => exact ⟨k + 1, by omega, by go_num, HS⟩
          case measure => simp [intOf]; omega
        · have HS := Lib.hid (HSK.out (fun h => c2 h.2))
          go_wp2
          go_roundw
          case rel => exact ⟨k + 1, by omega, by go_num, HS⟩
          case measure => simp [intOf]; omega
      · have HS := Lib.hid (HSK.out (fun h => c1 h.1))
        go_wp2
        go_roundw
        case rel => exact ⟨k + 1, by omega, by go_num, HS⟩
        case measure => simp [intOf]; omega
    · obtain rfl : k = s.size := by omega
      have hb := HBK.out wr cap (fun j hj => by rw [HX.out.c j hj, if_pos hj])
      go_wp2
      go_ret
      exact ⟨rfl, HX.out.bel⟩

def cellsU (l : List UInt8) : List Value := l.map u8V
theorem cellsU_at {l : List UInt8} {j : Nat} (h : j < l.length) : (cellsU l)[j]? = some (u8V l[j]) := by
  unfold cellsU
  rw [List.getElem?_map, List.getElem?_eq_getElem h]
  rfl
theorem Try.infoU8 : (Try.prog.info? 5).map (fun i => (i.zero, i.size, i.bytes)) = some (some (.int .u8 0), 1, 1) := by kernel_rfl

set_option maxRecDepth 100000 in
set_option maxHeartbeats 4000000 in
theorem rsmall_any (s : ByteArray) (w : World) (hs : s.size ≤ 140737488351232) : Calls Try.prog 65 #[.string s] w (Kept (.string (sml s)) w) := by
  obtain ⟨i0, hinf, hz0, hz1, hz2⟩ := info_parts Try.infoU8
  have HIF := Lib.hid hinf
  have HZ0 := Lib.hid hz0
  have HZ1 := Lib.hid hz1
  have HZ2 := Lib.hid hz2
  clear hinf hz0 hz1 hz2
  have hback : ∀ (W : World) (g cap : Nat), (∀ j, (hj : j < s.size) → W.cell? ⟨g, j, none⟩ = some (u8V (loB s[j]))) → (convert 108 9 (.slice (some ⟨g, 0, none⟩) s.size cap)).run Try.prog W = .ok (.string (sml s)) W := fun W g cap h => back_any s g cap W h
  have hnx : ∀ k, (h : k < s.size) → cellsU ((s.data.toList.map loB).take (k + 1)) = cellsU ((s.data.toList.map loB).take k) ++ [u8V (loB s[k])] := fun k h => by
    rw [List.take_succ_eq_append_getElem (by simpa using h)]
    unfold cellsU
    rw [List.map_append]
    simp
    rfl
  have HBK := Lib.hid hback
  have HNX := Lib.hid hnx
  clear hback hnx
  go_enter Try.func65, Try.ntmps65
  go_wp2_with fail
  go_loopw [3, 4] (fun v i wr => ∃ k : Nat, k ≤ s.size ∧ i = .int .i64 k ∧ Hid (wr.ownsRow w.heap.size 5 1 v k (cellsU ((s.data.toList.map loB).take k)) ∧ Below w.heap.size w wr)) (fun _ i _ => s.size - (intOf i).toNat)
  case atStart => exact ⟨0, by omega, rfl, Lib.hid ⟨World.ownsRow_nil _ _ _ _, Below.refl _ _⟩⟩
  case round =>
    obtain ⟨k, hk, rfl, HX⟩ := hrel
    by_cases hlt : k < s.size
    · have hsz := HX.out.2.size
      have hin := loB_in (c := s[k])
      have hout := loB_out (c := s[k])
      have hnx := HNX.out k hlt
      have hb0 : 0 ≤ (s[k].toNat : Int) ∧ (s[k].toNat : Int) ≤ 255 := by have := s[k].toNat_lt; omega
      unfold u8V at hnx
      obtain ⟨c', hc'⟩ : ∃ c : Int, c = ((loB s[k]).toNat : Int) := ⟨_, rfl⟩
      have hout' : ¬ (65 ≤ (s[k].toNat : Int) ∧ (s[k].toNat : Int) ≤ 90) → c' = (s[k].toNat : Int) := fun h => by rw [hc', hout h]
      rw [← hc'] at hin hnx
      obtain ⟨c, hcc⟩ : ∃ c : Int, c = (s[k].toNat : Int) := ⟨_, rfl⟩
      rw [← hcc] at hin hb0 hout'
      have HCC := Lib.hid hcc.symm
      have HN := Lib.hid hnx
      have hn1 : ∀ j u, [Value.int .u8 c'][j]? = some u → (wr.alloc (.cells #[.int .u8 c'] 5)).cell? ((⟨wr.heap.size, 0, none⟩ : Addr).add j) = some u := fun j u hu => by
        match j, hu with
        | 0, hu =>
          simp at hu
          subst hu
          rw [Go.WideShapes.add_plain, World.cell?_alloc_at _ _ _ _ rfl]
          rfl
      have hn2 : ∀ u ∈ [Value.int .u8 c'], u.oneCell' = true := fun u hu => by
        simp at hu
        subst hu
        rfl
      have HN1 := Lib.hid hn1
      have HN2 := Lib.hid hn2
      have way : (65 ≤ c ∧ c ≤ 90 ∧ c' = c + 32) ∨ (65 ≤ c ∧ ¬ c ≤ 90 ∧ c' = c) ∨ (¬ 65 ≤ c ∧ c' = c) := by
        by_cases c1 : 65 ≤ c
        · by_cases c2 : c ≤ 90
          · exact .inl ⟨c1, c2, hin ⟨c1, c2⟩⟩
          · exact .inr (.inl ⟨c1, c2, hout' (fun h => c2 h.2)⟩)
        · exact .inr (.inr ⟨c1, hout' (fun h => c1 h.1)⟩)
      clear hin hout hout' hnx hcc hn1 hn2 hc'
      have hcw := HCC.out
      rcases way with ⟨c1, c2, rfl⟩ | ⟨c1, c2, rfl⟩ | ⟨c1, rfl⟩
      all_goals
        go_wp2_with (at_builtin; refine wpList_append_own _ rfl _ _ 108 rfl w.heap.size 5 i0 (.int .u8 0) 1 1 Try.underlying108 HIF.out HZ0.out HZ1.out HZ2.out rfl (by decide) _ _ _ rfl (HX.out.1.alloc _) ⟨wr.heap.size, 0, none⟩ 1 1 _ rfl rfl HN1.out HN2.out (by unfold maxLen; omega) (by omega) (by simp; omega) ?_; intro v' w1 hown' hgrow _; have HG := Lib.hid hgrow; have HW := Lib.hid hown'; clear hgrow hown')
        have hrow := HW.out
        rw [← HN.out] at hrow
        have HX' : Hid (w1.ownsRow w.heap.size 5 1 v' (k + 1) (cellsU ((s.data.toList.map loB).take (k + 1))) ∧ Below w.heap.size w w1) := Lib.hid ⟨hrow, (HX.out.2.alloc HX.out.2.size _).grown HG.out (by simp; omega) (fun b hb => (HX.out.1.lt b hb).1)⟩
        clear hrow
        go_wp2
        go_roundw
        case rel => exact ⟨k + 1, by omega, by go_num, HX'⟩
        case measure => simp [intOf]; omega
    · obtain rfl : k = s.size := by omega
      obtain ⟨hrow, hbel⟩ := HX.out
      rw [List.take_of_length_le (by simp)] at hrow
      rcases hrow.2 with ⟨rfl, hn⟩ | ⟨g, cap, cur, rfl, _⟩
      · have he : sml s = ⟨#[]⟩ := by
          unfold sml
          rw [List.length_eq_zero_iff.1 (by simpa using hn : s.data.toList.length = 0)]
          rfl
        have HE := Lib.hid he
        have HBE := Lib.hid hbel
        clear hrow hbel he hn
        have hnil : ∀ W, (convert 108 9 (.slice none 0 0)).run Try.prog W = .ok (.string ⟨#[]⟩) W := fun W => by kernel_rfl
        go_wp2
        go_ret
        exact ⟨ret_val (congrArg Value.string HE.out.symm), HBE.out⟩
      · have hb := HBK.out wr g cap (fun j hj => by
          have := hrow.cells (g := g) rfl j _ (cellsU_at (by simpa using hj))
          rw [Go.WideShapes.add_plain, Nat.zero_add] at this
          rw [this]
          simp
          rfl)
        have HBE := Lib.hid hbel
        clear hrow hbel
        go_wp2
        go_ret
        exact ⟨rfl, HBE.out⟩
end Go.Proofs.Ytnoomlakgfdaeaa
