/- Contracts: num.Sum's closure, num.all, num.Sum; the walk of ferialaw01.NumAll: it returns true. -/
import Derived.Test.YticloblhdjnjkaaSum
namespace Go.Proofs.Yticloblhdjnjkaa
open Go.RowKit

/-- the counter's cell: it may be written -/
def Cnt (w : World) (B : Nat) (m : Nat) : Prop := w.cell? ⟨B, 0, none⟩ = some (.int .i64 m) ∧ w.frozen? ⟨B, 0, none⟩ = false

theorem wrap_up {a b : Int} (a1 : a ≤ 9223372036854775807) (b1 : b ≤ 9223372036854775807) (h : 9223372036854775807 < a + b) : wrap64 (a + b) = a + b - 18446744073709551616 := by unfold wrap64; omega
theorem wrap_dn {a b : Int} (a1 : -9223372036854775808 ≤ a) (b1 : -9223372036854775808 ≤ b) (h : a + b < -9223372036854775808) : wrap64 (a + b) = a + b + 18446744073709551616 := by unfold wrap64; omega

def Fits (a b : Int) : Prop := -9223372036854775808 ≤ a + b ∧ a + b ≤ 9223372036854775807
/-- what the closure leaves -/
def CloPost (a b : Int) (B m : Nat) (w : World) (e : Ending) (w' : World) : Prop :=
  ∃ (s : Int) (ok : Bool), e = .returned (.tuple #[.int .i64 s, .bool ok]) ∧ (Fits a b → ok = true ∧ s = a + b) ∧ (¬ Fits a b → ok = false) ∧ w.setCell ⟨B, 0, none⟩ (.int .i64 ((m + 1 : Nat) : Int)) = w'

theorem CloPost.yes {a b s : Int} {B m : Nat} {w w' : World} {e : Ending} {ok : Bool} (he : e = .returned (.tuple #[.int .i64 s, .bool ok])) (hf : Fits a b) (h1 : ok = true) (h2 : s = a + b) (hw : w.setCell ⟨B, 0, none⟩ (.int .i64 ((m + 1 : Nat) : Int)) = w') :
    CloPost a b B m w e w' := ⟨s, ok, he, fun _ => ⟨h1, h2⟩, fun h => absurd hf h, hw⟩
theorem CloPost.no {a b s : Int} {B m : Nat} {w w' : World} {e : Ending} {ok : Bool} (he : e = .returned (.tuple #[.int .i64 s, .bool ok])) (hf : ¬ Fits a b) (h1 : ok = false) (hw : w.setCell ⟨B, 0, none⟩ (.int .i64 ((m + 1 : Nat) : Int)) = w') :
    CloPost a b B m w e w' := ⟨s, ok, he, fun h => absurd h hf, fun _ => h1, hw⟩

theorem clo_zero (b : Int) (B : Nat) (w : World) (b0 : -9223372036854775808 ≤ b) (b1 : b ≤ 9223372036854775807)
    (c1 : w.cell? ⟨B, 0, none⟩ = some (.int .i64 0)) (c2 : w.frozen? ⟨B, 0, none⟩ = false) :
    Calls Try.prog 50 #[.int .i64 0, .int .i64 b, .pointer (some ⟨B, 0, none⟩)] w (CloPost 0 b B 0 w) := by
  have hf : Fits 0 b := ⟨by omega, by omega⟩
  have HF := Lib.hid hf
  clear hf
  go_enter Try.func50, Try.ntmps50
  go_wp2
  go_ret2
  exact CloPost.yes rfl HF.out rfl (by omega) rfl

theorem sgn_yes {a b : Int} : (decide (a < a + b) == decide (0 < b)) = true := by
  by_cases h : 0 < b
  · have h' : a < a + b := by omega
    simp only [h, h', decide_true]; rfl
  · have h' : ¬ a < a + b := by omega
    simp only [h, h', decide_false]; rfl

theorem sgn_no {a b : Int} (a0 : -9223372036854775808 ≤ a) (a1 : a ≤ 9223372036854775807) (b0 : -9223372036854775808 ≤ b) (b1 : b ≤ 9223372036854775807) (h : ¬ Fits a b) :
    (decide (a < wrap64 (a + b)) == decide (0 < b)) = false := by
  by_cases hb : 0 < b
  · rw [wrap_up a1 b1 (by unfold Fits at h; omega)]
    have : ¬ (a < a + b - 18446744073709551616) := by omega
    simp [hb, this]
  · rw [wrap_dn a0 b0 (by unfold Fits at h; omega)]
    have : (a < a + b + 18446744073709551616) := by omega
    simp [hb, this]

theorem clo_more (a b : Int) (B m : Nat) (w : World) (a0 : -9223372036854775808 ≤ a) (a1 : a ≤ 9223372036854775807) (b0 : -9223372036854775808 ≤ b) (b1 : b ≤ 9223372036854775807) (hm : m ≤ 140737488351232) (hm0 : ¬ m = 0)
    (c1 : w.cell? ⟨B, 0, none⟩ = some (.int .i64 m)) (c2 : w.frozen? ⟨B, 0, none⟩ = false) :
    Calls Try.prog 50 #[.int .i64 a, .int .i64 b, .pointer (some ⟨B, 0, none⟩)] w (CloPost a b B m w) := by
  have e1 : ((m : Int) + 1 == 1) = false := by simp; omega
  by_cases hf : Fits a b
  · obtain ⟨f0, f1⟩ := hf
    go_enter Try.func50, Try.ntmps50
    go_wp2
    go_ret2
    exact CloPost.yes rfl ⟨f0, f1⟩ sgn_yes rfl rfl
  · have HN := Lib.hid (sgn_no a0 a1 b0 b1 hf)
    have HF := Lib.hid hf
    clear hf
    go_enter Try.func50, Try.ntmps50
    go_wp2
    go_ret2
    exact CloPost.no rfl HF.out HN.out rfl

theorem clo_any (a b : Int) (B m : Nat) (w : World) (a0 : -9223372036854775808 ≤ a) (a1 : a ≤ 9223372036854775807) (b0 : -9223372036854775808 ≤ b) (b1 : b ≤ 9223372036854775807) (hm : m ≤ 140737488351232)
    (hc : Cnt w B m) (h0 : m = 0 → a = 0) :
    Calls Try.prog 50 #[.int .i64 a, .int .i64 b, .pointer (some ⟨B, 0, none⟩)] w (CloPost a b B m w) := by
  by_cases hm0 : m = 0
  · obtain rfl := h0 hm0
    subst hm0
    exact clo_zero b B w b0 b1 hc.1 hc.2
  · exact clo_more a b B m w a0 a1 b0 b1 hm hm0 hc.1 hc.2

theorem Cnt.set {w : World} {B m : Nat} (h : Cnt w B m) (j : Nat) : Cnt (w.setCell ⟨B, 0, none⟩ (.int .i64 j)) B j := by
  obtain ⟨h1, h2⟩ := h
  refine ⟨?_, ?_⟩
  · go_simp
  · go_simp

/-- what num.all leaves -/
def AllPost (B : Nat) (zs : List Int) (w : World) (e : Ending) (w' : World) : Prop := e = .returned (sumV zs) ∧ Below B w w'

set_option maxHeartbeats 1000000 in
theorem all_any (A : Option Addr) (c B : Nat) (zs : List Int) (w : World) (hl : zs.length ≤ 140737488351232) (h : IntsAt w A zs) (hB : 0 < zs.length → ∀ b off, A = some ⟨b, off, none⟩ → b < B) (hcnt : Cnt w B 0) :
    Calls Try.prog 49 #[.slice A zs.length c, .func (.func 50) #[] #[.pointer (some ⟨B, 0, none⟩)]] w (AllPost B zs w) := by
  obtain ⟨n0, hn⟩ : ∃ n, n = zs.length := ⟨_, rfl⟩
  rw [← hn] at hl ⊢
  have HN := Lib.hid hn
  have HI := Lib.hid h
  have HB := Lib.hid hB
  have HC := Lib.hid hcnt
  clear hn h hB hcnt
  go_enter Try.func49, Try.ntmps49
  go_wp2
  go_loopw [6, 13] (fun t i wr => ∃ (k : Nat) (s : Int), k ≤ n0 ∧ i = .int .i64 k ∧ t = .int .i64 s ∧ Hid (sumO (zs.take k) = some s) ∧ -9223372036854775808 ≤ s ∧ s ≤ 9223372036854775807 ∧ Hid (Cnt wr B k) ∧ Hid (Below B w wr)) (fun _ i _ => n0 - (intOf i).toNat)
  case atStart => exact ⟨0, 0, Nat.zero_le _, rfl, rfl, Lib.hid rfl, by omega, by omega, HC, Lib.hid (Below.refl _ _)⟩
  case round =>
    obtain ⟨k, s, hk, rfl, rfl, HS, s0, s1, HK, HW⟩ := hrel
    by_cases hlt : k < n0
    · obtain ⟨b, off, rfl, hc0⟩ := HI.out.1 k (by rw [← HN.out]; exact hlt)
      have hc := (HW.out.cell (p := ⟨b, off + k, none⟩) (HB.out (by rw [← HN.out]; omega) b off rfl)).trans hc0
      clear hc0
      have hb := HI.out.2 k
      have hsn := sumO_snoc zs k (by rw [← HN.out]; exact hlt)
      rw [HS.out] at hsn
      have hz0 : k = 0 → s = 0 := fun e => by have := HS.out; rw [e] at this; simpa [sumO] using this.symm
      have HZ := Lib.hid hz0
      obtain ⟨z, hz⟩ : ∃ z, z = zs.getD k 0 := ⟨_, rfl⟩
      rw [← hz] at hc hb hsn
      have HSN := Lib.hid hsn
      clear hz hsn hz0
      obtain ⟨z0, z1⟩ := hb
      go_wp2_with fail
      refine (clo_any _ _ B k _ s0 s1 z0 z1 (by omega) HK.out HZ.out).mono ?_
      rintro e w' ⟨s', ok, rfl, y1, y2, rfl⟩
      by_cases f : Fits s z
      · obtain ⟨rfl, rfl⟩ := y1 f
        have F := Lib.hid (HSN.out.trans (step_yes f))
        obtain ⟨f0, f1⟩ := f
        clear y1 y2
        go_wp2
        go_roundw
        case rel => exact ⟨k + 1, s + z, by omega, by go_num, rfl, F, f0, f1, Lib.hid (HK.out.set _), Lib.hid (HW.out.setCell (Nat.le_refl _) _)⟩
        case measure => simp [intOf]; omega
      · obtain rfl := y2 f
        have F := Lib.hid (sumV_none (sumO_stop zs (k + 1) (HSN.out.trans (step_no f))))
        clear y1 y2 f
        go_wp2
        go_ret2
        exact ⟨ret_val F.out.symm, HW.out.setCell (Nat.le_refl _) _⟩
    · have F := Lib.hid (sumV_some (by rw [← HS.out, List.take_of_length_le (by rw [← HN.out]; omega)]))
      go_wp2
      go_ret2
      exact ⟨ret_val F.out.symm, HW.out⟩

theorem IntsAt.below {w w' : World} {A : Option Addr} {zs : List Int} (h : IntsAt w A zs) (hb : Below w.heap.size w w') : IntsAt w' A zs := by
  refine ⟨fun k hk => ?_, h.2⟩
  obtain ⟨b, off, rfl, hc⟩ := h.1 k hk
  exact ⟨b, off, rfl, (hb.cell (World.block_lt_of_cell? _ _ hc)).trans hc⟩
theorem IntsAt.lt {w : World} {A : Option Addr} {zs : List Int} (h : IntsAt w A zs) (hp : 0 < zs.length) (b off : Nat) (e : A = some ⟨b, off, none⟩) : b < w.heap.size := by
  obtain ⟨b', off', e', hc⟩ := h.1 0 hp
  rw [e] at e'
  cases e'
  exact World.block_lt_of_cell? _ _ hc
theorem Cnt.new (w : World) (t : TypeId) : Cnt (w.alloc (.cells #[.int .i64 0] t)) w.heap.size 0 := ⟨by go_simp, by go_simp⟩

theorem sum_any (A : Option Addr) (c : Nat) (zs : List Int) (w : World) (hl : zs.length ≤ 140737488351232) (h : IntsAt w A zs) :
    Calls Try.prog 31 #[.slice A zs.length c] w (Kept (sumV zs) w) := by
  have hmf : ∀ (fn : Fn) (first cap : Array Value) (w : World), (Instr.makeFunc fn first cap).run Try.prog w = .ok (.func fn first cap) w := fun _ _ _ _ => rfl
  obtain ⟨n0, hn⟩ : ∃ n, n = zs.length := ⟨_, rfl⟩
  have HI := Lib.hid h
  have HN := Lib.hid hn
  clear h
  have vs : (∃ s, sumV zs = .tuple #[.int .i64 s, .bool true]) ∨ sumV zs = .tuple #[.int .i64 0, .bool false] := by
    unfold sumV
    cases sumO zs with
    | none => exact .inr rfl
    | some s => exact .inl ⟨s, rfl⟩
  obtain ⟨V, hV⟩ : ∃ V, V = sumV zs := ⟨_, rfl⟩
  rw [← hn, ← hV]
  rw [← hV] at vs
  have HV := Lib.hid hV
  clear hn hV
  rcases vs with ⟨s, rfl⟩ | rfl
  all_goals
    go_enter Try.func31, Try.ntmps31
    go_wp2_with fail
    rw [HN.out]
    refine (all_any A c w.heap.size zs _ hl (HI.out.below ((Below.refl _ _).alloc (Nat.le_refl _) _)) HI.out.lt (Cnt.new _ _)).mono ?_
    rintro e w' ⟨rfl, hb⟩
    rw [← HV.out]
    have HB := Lib.hid hb
    clear hb
    go_wp2
    go_ret2
    exact ⟨rfl, ((Below.refl _ _).alloc (Nat.le_refl _) _).trans HB.out⟩

set_option maxHeartbeats 1000000 in
theorem NumAll_walk (A : Option Addr) (c : Nat) (zs : List Int) (w : World) (h : IntsAt w A zs) (hl : zs.length ≤ 9223372036854775807) :
    Calls Try.prog 8 #[.slice A zs.length c] w (Kept (.bool true) w) := by
  obtain ⟨n0, hn⟩ : ∃ n, n = zs.length := ⟨_, rfl⟩
  have HI := Lib.hid h
  have HN := Lib.hid hn
  clear h
  have vs : (∃ s, sumV zs = .tuple #[.int .i64 s, .bool true]) ∨ sumV zs = .tuple #[.int .i64 0, .bool false] := by
    unfold sumV
    cases sumO zs with
    | none => exact .inr rfl
    | some s => exact .inl ⟨s, rfl⟩
  obtain ⟨V, hV⟩ : ∃ V, V = sumV zs := ⟨_, rfl⟩
  rw [← hn] at hl ⊢
  rw [← hV] at vs
  have HV := Lib.hid hV
  clear hn hV
  by_cases h60 : 60 < n0
  · clear vs
    have h60' : (60 : Int) < (n0 : Int) := by omega
    go_enter Try.func8, Try.ntmps8
    go_wp2_with fail
    refine (num_lives _).mono ?_
    rintro e w' ⟨rfl, hw⟩
    go_wp2
    go_ret
    exact ⟨rfl, hw⟩
  · have h60' : ¬ (60 : Int) < (n0 : Int) := by omega
    have HL : Hid (zs.length ≤ 140737488351232) := Lib.hid (by rw [← HN.out]; omega)
    obtain ⟨G, hG⟩ : ∃ G : Int, G = (gcdL zs : Int) := ⟨_, rfl⟩
    have HG := Lib.hid hG
    clear hG
    rcases vs with ⟨s, rfl⟩ | rfl
    all_goals
      go_enter Try.func8, Try.ntmps8
      go_wp2_with fail
      rw [HN.out]
      refine (sum_any A c zs _ HL.out HI.out).mono ?_
      rintro e w1 ⟨rfl, hb1⟩
      rw [← HV.out, ← HN.out]
      have HB1 := Lib.hid hb1
      clear hb1
      go_wp2_with fail
      rw [HN.out]
      refine (rsum_any A c zs _ HL.out (HI.out.below HB1.out)).mono ?_
      rintro e w' ⟨rfl, rfl⟩
      rw [← HV.out, ← HN.out]
      go_wp2_with fail
      rw [HN.out]
      refine (gcd_any A c zs _ HL.out (HI.out.below HB1.out)).mono ?_
      rintro e w' ⟨rfl, m, rfl⟩
      rw [← HG.out, ← HN.out]
      go_wp2_with fail
      rw [HN.out]
      refine (rgcd_any A c zs _ HL.out (HI.out.below (below_drewN HB1.out m))).mono ?_
      rintro e w' ⟨rfl, rfl⟩
      rw [← HG.out, ← HN.out]
      go_wp2_with fail
      refine (num_lives _).mono ?_
      rintro e w' ⟨rfl, hw⟩
      have HW := Lib.hid hw
      clear hw
      go_wp2
      go_ret
      exact ⟨rfl, below_on (below_drewN HB1.out m) HW.out⟩
end Go.Proofs.Yticloblhdjnjkaa
