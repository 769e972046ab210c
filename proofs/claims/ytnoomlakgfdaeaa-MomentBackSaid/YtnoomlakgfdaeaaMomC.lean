/- Contract of moment.text; Long, Basic. -/
import Derived.Test.YtnoomlakgfdaeaaMomB
namespace Go.Proofs.Ytnoomlakgfdaeaa
open Go.RowKit

theorem mkept {w1 w2 : World} {cs : Array Value} {t : TypeId} (hb : Below (w1.alloc (.cells cs t)).heap.size (w1.alloc (.cells cs t)) w2) (j : Nat) {v : Value} (hj : cs[j]? = some v) : w2.cell? ⟨w1.heap.size, j, none⟩ = some v := by
  rw [hb.cell (p := ⟨w1.heap.size, j, none⟩) (by simp), World.cell?_alloc_at _ _ _ _ rfl]
  simpa using hj

theorem cell_al {w : World} {p : Addr} {v : Value} (h : w.cell? p = some v) (o : Obj) : (w.alloc o).cell? p = some v :=
  (((Below.refl w.heap.size w).alloc (Nat.le_refl _) o).cell (World.block_lt_of_cell? _ _ h)).trans h
theorem frz_al {w : World} {p : Addr} (h : w.frozen? p = false) (hl : p.block < w.heap.size) (o : Obj) : (w.alloc o).frozen? p = false :=
  (((Below.refl w.heap.size w).alloc (Nat.le_refl _) o).frozen hl).trans h
theorem text_no (t : Int) (sv : Value) (s0 s1 s2 s3 s4 s5 : ByteArray) (hsv : sv = .agg #[.string s0, .string s1, .string s2, .string s3, .string s4, .string s5]) (w : World) (h : inW t = false) :
    Calls Try.prog 79 #[.int .i64 t, sv] w (Kept (.string ByteArray.empty) w) := by
  subst hsv
  have H := Lib.hid h
  clear h
  go_enter Try.func79, Try.ntmps79
  go_wp2_with fail
  refine (stamp_no _ _ H.out).mono ?_
  rintro e w1 ⟨rfl, hb⟩
  unfold stZ stA
  have HB := Lib.hid (bel_one hb)
  clear hb
  go_wp2
  go_ret
  exact ⟨rfl, HB.out.alloc HB.out.size _⟩

/-- what holds at a round's head -/
structure TX (w wr : World) (G L O : Nat) (sg : Nat → ByteArray) (ns : Nat → Int) (o : ByteArray) : Prop where
  bel : Below w.heap.size w wr
  gs : ∀ j, j < 6 → wr.cell? ⟨G, j, none⟩ = some (.string (sg j))
  ls : ∀ j, j < 5 → wr.cell? ⟨L, j, none⟩ = some (.int .i64 (ns j))
  oc : wr.cell? ⟨O, 0, none⟩ = some (.string o)
  of : wr.frozen? ⟨O, 0, none⟩ = false
theorem TX.step {w wr w' : World} {G L O : Nat} {sg : Nat → ByteArray} {ns : Nat → Int} {o o' : ByteArray} (h : TX w wr G L O sg ns o) (hG : G ≠ O) (hL : L ≠ O) (hO : w.heap.size ≤ O) (hs : Same O wr w') (hc : w'.cell? ⟨O, 0, none⟩ = some (.string o')) (hf : w'.frozen? ⟨O, 0, none⟩ = false) :
    TX w w' G L O sg ns o' := by
  refine ⟨hs.bel _ _ hO h.bel.size h.bel, fun j hj => ?_, fun j hj => ?_, hc, hf⟩
  · have := h.gs j hj
    rw [hs.cell _ (World.block_lt_of_cell? _ _ this) hG]
    exact this
  · have := h.ls j hj
    rw [hs.cell _ (World.block_lt_of_cell? _ _ this) hL]
    exact this

/-- the text, round by round -/
def acc (y : Int) (sg : Nat → ByteArray) (ns : Nat → Int) : Nat → ByteArray
  | 0 => ByteArray.empty ++ (D4 y ++ sg 0)
  | k + 1 => acc y sg ns k ++ (D2 (ns k) ++ sg (k + 1))

theorem ba_size (a b : ByteArray) : (a ++ b).size = a.size + b.size := by simp
theorem acc_size (y : Int) (sg : Nat → ByteArray) (ns : Nat → Int) (h : ∀ j, j < 6 → (sg j).size ≤ 4) (k : Nat) (hk : k ≤ 5) : (acc y sg ns k).size ≤ 8 + 6 * k := by
  induction k with
  | zero =>
    have := h 0 (by omega)
    simp only [acc, ba_size, D4_size]
    simp
    omega
  | succ k ih =>
    have := h (k + 1) (by omega)
    have := ih (by omega)
    simp only [acc, ba_size, D2_size]
    omega

/-- the signs, the numbers, one by one -/
def six (s0 s1 s2 s3 s4 s5 : ByteArray) : Nat → ByteArray
  | 0 => s0
  | 1 => s1
  | 2 => s2
  | 3 => s3
  | 4 => s4
  | _ => s5
def five (a b c d e : Int) : Nat → Int
  | 0 => a
  | 1 => b
  | 2 => c
  | 3 => d
  | _ => e
/-- an instant's text -/
def txt (t : Int) (s0 s1 s2 s3 s4 s5 : ByteArray) : ByteArray :=
  acc (dY (t / 86400)) (six s0 s1 s2 s3 s4 s5) (five (dM (t / 86400)) (dD (t / 86400)) (t % 86400 / 3600) (t % 86400 / 60 % 60) (t % 86400 % 60)) 5

theorem year_bd (n : Int) (h0 : 0 ≤ n) (h1 : n ≤ 146096) : 1970 ≤ dY n ∧ dY n ≤ 2369 := by
  obtain ⟨⟨m1, m2, d1, d2⟩, h⟩ := date_ok n
  have c := cum_mono (dY n) (dM n) 13 m1 (by omega) (by omega)
  rw [cum_all] at c
  have b := (cum_bd (dY n) (dM n)).1
  have s := eY_succ (dY n)
  unfold num at h
  have e1 : eY 1969 = 719162 := by decide
  have e2 : eY 2369 = 865259 := by decide
  constructor <;> apply Classical.byContradiction <;> intro hn
  · have := eY_mono (a := dY n) (b := 1969) (by omega)
    omega
  · have := eY_mono (a := 2369) (b := dY n - 1) (by omega)
    omega

set_option maxRecDepth 100000 in
set_option maxHeartbeats 2000000 in
theorem text_yes (t : Int) (sv : Value) (s0 s1 s2 s3 s4 s5 : ByteArray) (hsv : sv = .agg #[.string s0, .string s1, .string s2, .string s3, .string s4, .string s5]) (w : World) (h : inW t = true)
    (z0 : s0.size ≤ 4) (z1 : s1.size ≤ 4) (z2 : s2.size ≤ 4) (z3 : s3.size ≤ 4) (z4 : s4.size ≤ 4) (z5 : s5.size ≤ 4) :
    Calls Try.prog 79 #[.int .i64 t, sv] w (Kept (.string (txt t s0 s1 s2 s3 s4 s5)) w) := by
  subst hsv
  have hmf : ∀ (fn : Fn) (first cap : Array Value) (w : World), (Instr.makeFunc fn first cap).run Try.prog w = .ok (.func fn first cap) w := fun _ _ _ _ => rfl
  obtain ⟨h0, h1⟩ := of_decide_eq_true h
  have yb := year_bd (t / 86400) (by omega) (by omega)
  obtain ⟨x1, x2, m1, m2, d1, d2, x3⟩ := near_bd (t / 86400) (by omega) (by omega)
  clear x1 x2 x3
  unfold txt
  have hst : stV t = stA (dY (t / 86400)) (dM (t / 86400)) (dD (t / 86400)) (t % 86400 / 3600) (t % 86400 / 60 % 60) (t % 86400 % 60) := rfl
  obtain ⟨y, hy⟩ : ∃ y, y = dY (t / 86400) := ⟨_, rfl⟩
  obtain ⟨m, hm⟩ : ∃ m, m = dM (t / 86400) := ⟨_, rfl⟩
  obtain ⟨d, hd⟩ : ∃ d, d = dD (t / 86400) := ⟨_, rfl⟩
  obtain ⟨a, ha⟩ : ∃ a, a = t % 86400 / 3600 := ⟨_, rfl⟩
  obtain ⟨b, hb⟩ : ∃ b, b = t % 86400 / 60 % 60 := ⟨_, rfl⟩
  obtain ⟨c, hc⟩ : ∃ c, c = t % 86400 % 60 := ⟨_, rfl⟩
  have a1 : 0 ≤ a ∧ a ≤ 23 := by omega
  have b1 : 0 ≤ b ∧ b ≤ 59 := by omega
  have c1 : 0 ≤ c ∧ c ≤ 59 := by omega
  rw [← hy, ← hm, ← hd, ← ha, ← hb, ← hc] at hst ⊢
  rw [← hy] at yb
  rw [← hm] at m1 m2
  rw [← hd] at d1 d2
  have HST := Lib.hid hst
  have H := Lib.hid h
  clear h hst hy hm hd ha hb hc
  obtain ⟨ns, hns⟩ : ∃ ns, ns = five m d a b c := ⟨_, rfl⟩
  obtain ⟨sg, hsg⟩ : ∃ sg, sg = six s0 s1 s2 s3 s4 s5 := ⟨_, rfl⟩
  have zs : ∀ j, j < 6 → (sg j).size ≤ 4 := fun j hj => by
    rw [hsg]
    match j, hj with
    | 0, _ => exact z0
    | 1, _ => exact z1
    | 2, _ => exact z2
    | 3, _ => exact z3
    | 4, _ => exact z4
    | 5, _ => exact z5
  have nb : ∀ j, j < 5 → 0 ≤ ns j ∧ ns j ≤ 99 := fun j hj => by
    rw [hns]
    match j, hj with
    | 0, _ => exact ⟨by show 0 ≤ m; omega, by show m ≤ 99; omega⟩
    | 1, _ => exact ⟨by show 0 ≤ d; omega, by show d ≤ 99; omega⟩
    | 2, _ => exact ⟨by show 0 ≤ a; omega, by show a ≤ 99; omega⟩
    | 3, _ => exact ⟨by show 0 ≤ b; omega, by show b ≤ 99; omega⟩
    | 4, _ => exact ⟨by show 0 ≤ c; omega, by show c ≤ 99; omega⟩
  rw [← hns, ← hsg]
  have HZ := Lib.hid zs
  have HN := Lib.hid nb
  have HNS := Lib.hid hns
  have HSG := Lib.hid hsg
  clear zs nb hns hsg
  go_enter Try.func79, Try.ntmps79
  go_wp2_with fail
  refine (stamp_yes _ _ H.out).mono ?_
  rintro e w1 ⟨rfl, hb⟩
  rw [HST.out]
  unfold stA
  have g0 := mkept hb 0 rfl
  have hz : w.heap.size < w1.heap.size := by have := hb.size; simp at this; omega
  have HB1 := Lib.hid hb
  clear hb
  go_wp2_with fail
  have q0 := HZ.out 0 (by omega)
  rw [HSG.out] at q0
  refine (dig_four _ _ _ ByteArray.empty _ (by omega) (by omega) q0 (by decide) (by go_simp; rfl) (by go_simp)).mono ?_
  rintro e w2 ⟨rfl, hs, hc, hf⟩
  have g : ∀ j, j < 6 → w2.cell? ⟨w.heap.size, j, none⟩ = some (.string (sg j)) := fun j hj => by
    have hw1 : w1.cell? ⟨w.heap.size, j, none⟩ = some (.string (sg j)) := by
      rw [HSG.out]
      match j, hj with
      | 0, _ => exact mkept HB1.out 0 rfl
      | 1, _ => exact mkept HB1.out 1 rfl
      | 2, _ => exact mkept HB1.out 2 rfl
      | 3, _ => exact mkept HB1.out 3 rfl
      | 4, _ => exact mkept HB1.out 4 rfl
      | 5, _ => exact mkept HB1.out 5 rfl
    rw [hs.cell _ (by simp; omega) (by simp; omega)]
    go_simp
  have t1 : w2.cell? ⟨w1.heap.size, 1, none⟩ = some (.int .i64 m) := by rw [hs.cell _ (by simp; omega) (by simp)]; go_simp
  have t2 : w2.cell? ⟨w1.heap.size, 2, none⟩ = some (.int .i64 d) := by rw [hs.cell _ (by simp; omega) (by simp)]; go_simp
  have t3 : w2.cell? ⟨w1.heap.size, 3, none⟩ = some (.int .i64 a) := by rw [hs.cell _ (by simp; omega) (by simp)]; go_simp
  have t4 : w2.cell? ⟨w1.heap.size, 4, none⟩ = some (.int .i64 b) := by rw [hs.cell _ (by simp; omega) (by simp)]; go_simp
  have t5 : w2.cell? ⟨w1.heap.size, 5, none⟩ = some (.int .i64 c) := by rw [hs.cell _ (by simp; omega) (by simp)]; go_simp
  have bel : Below w.heap.size w w2 := hs.bel _ _ (by omega) (by simp; omega) (((bel_one HB1.out).alloc (Nat.le_of_lt hz) _).alloc (by simp; omega) _)
  have hz2 : w1.heap.size + 1 + 1 ≤ w2.heap.size := by have := hs.size; simpa using this
  have HG := Lib.hid g
  have HBE := Lib.hid bel
  have HC := Lib.hid hc
  have HF := Lib.hid hf
  clear g bel hc hf hs g0
  go_wp2_with fail
  have hTX : TX w (w2.alloc (.cells #[.int .i64 m, .int .i64 d, .int .i64 a, .int .i64 b, .int .i64 c] 3)) w.heap.size w2.heap.size (w1.heap.size + 1) sg ns (acc y sg ns 0) := by
    refine ⟨HBE.out.alloc HBE.out.size _, fun j hj => ?_, fun j hj => ?_, ?_, ?_⟩
    · exact cell_al (HG.out j hj) _
    · rw [HNS.out]
      match j, hj with
      | 0, _ => go_simp; rfl
      | 1, _ => go_simp; rfl
      | 2, _ => go_simp; rfl
      | 3, _ => go_simp; rfl
      | 4, _ => go_simp; rfl
    · have := HC.out
      rw [← HSG.out] at this
      exact cell_al this _
    · exact frz_al HF.out (World.block_lt_of_cell? _ _ HC.out) _
  have HTX := Lib.hid hTX
  clear hTX t1 t2 t3 t4 t5
  go_loopw [37] (fun i wr => ∃ k : Nat, k ≤ 5 ∧ i = .int .i64 k ∧ Hid (TX w wr w.heap.size w2.heap.size (w1.heap.size + 1) sg ns (acc y sg ns k))) (fun i _ => 5 - (intOf i).toNat)
  case atStart => exact ⟨0, by omega, rfl, HTX⟩
  case round =>
    obtain ⟨k, hk, rfl, HX⟩ := hrel
    by_cases hlt : k < 5
    · have g1 := HX.out.gs (k + 1) (by omega)
      have l1 := HX.out.ls k hlt
      have bl1 := World.block_lt_of_cell? _ _ g1
      have bl2 := World.block_lt_of_cell? _ _ l1
      obtain ⟨n1, n2⟩ := HN.out k hlt
      have zz := HZ.out (k + 1) (by omega)
      have az := acc_size y sg ns HZ.out k hk
      obtain ⟨n, hn⟩ : ∃ n, n = ns k := ⟨_, rfl⟩
      obtain ⟨sk, hsk⟩ : ∃ sk, sk = sg (k + 1) := ⟨_, rfl⟩
      rw [← hn] at l1 n1 n2
      rw [← hsk] at g1 zz
      have AS : Hid (acc y sg ns (k + 1) = acc y sg ns k ++ (D2 n ++ sk)) := Lib.hid (by rw [hn, hsk]; rfl)
      clear hn hsk
      go_wp2_with fail
      refine (dig_two _ _ _ _ _ n1 n2 zz (by omega) HX.out.oc HX.out.of).mono ?_
      rintro e w3 ⟨rfl, hs, hc, hf⟩
      have HX' := Lib.hid (HX.out.step (by omega) (by omega) (by omega) hs hc hf)
      rw [← AS.out] at HX'
      clear hs hc hf g1 l1
      go_wp2
      go_roundw
      case rel => exact ⟨k + 1, by omega, by go_num, HX'⟩
      case measure => simp [intOf]; omega
    · obtain rfl : k = 5 := by omega
      have oc := HX.out.oc
      have ol := World.block_lt_of_cell? _ _ oc
      go_wp2
      go_ret
      exact ⟨rfl, HX.out.bel⟩

def B1 (b : UInt8) : ByteArray := ⟨#[b]⟩
/-- an instant as it is read; in short -/
def lngT (t : Int) : ByteArray := txt t (B1 45) (B1 45) (B1 32) (B1 58) (B1 58) ByteArray.empty
def basT (t : Int) : ByteArray := txt t ByteArray.empty ByteArray.empty (B1 84) ByteArray.empty ByteArray.empty (B1 90)

theorem long_yes (t : Int) (w : World) (h : inW t = true) : Calls Try.prog 27 #[.int .i64 t] w (Kept (.string (lngT t)) w) := by
  have H := Lib.hid h
  clear h
  go_enter Try.func27, Try.ntmps27
  go_wp2_with fail
  refine (text_yes _ _ (B1 45) (B1 45) (B1 32) (B1 58) (B1 58) ByteArray.empty (by rfl) _ H.out (by decide) (by decide) (by decide) (by decide) (by decide) (by decide)).mono ?_
  rintro e w1 ⟨rfl, hb⟩
  have HB := Lib.hid hb
  clear hb
  go_wp2
  go_ret
  exact ⟨rfl, HB.out⟩
theorem basic_yes (t : Int) (w : World) (h : inW t = true) : Calls Try.prog 26 #[.int .i64 t] w (Kept (.string (basT t)) w) := by
  have H := Lib.hid h
  clear h
  go_enter Try.func26, Try.ntmps26
  go_wp2_with fail
  refine (text_yes _ _ ByteArray.empty ByteArray.empty (B1 84) ByteArray.empty ByteArray.empty (B1 90) (by rfl) _ H.out (by decide) (by decide) (by decide) (by decide) (by decide) (by decide)).mono ?_
  rintro e w1 ⟨rfl, hb⟩
  have HB := Lib.hid hb
  clear hb
  go_wp2
  go_ret
  exact ⟨rfl, HB.out⟩
theorem long_no (t : Int) (w : World) (h : inW t = false) : Calls Try.prog 27 #[.int .i64 t] w (Kept (.string ByteArray.empty) w) := by
  have H := Lib.hid h
  clear h
  go_enter Try.func27, Try.ntmps27
  go_wp2_with fail
  refine (text_no _ _ (B1 45) (B1 45) (B1 32) (B1 58) (B1 58) ByteArray.empty (by rfl) _ H.out).mono ?_
  rintro e w1 ⟨rfl, hb⟩
  have HB := Lib.hid hb
  clear hb
  go_wp2
  go_ret
  exact ⟨rfl, HB.out⟩
theorem basic_no (t : Int) (w : World) (h : inW t = false) : Calls Try.prog 26 #[.int .i64 t] w (Kept (.string ByteArray.empty) w) := by
  have H := Lib.hid h
  clear h
  go_enter Try.func26, Try.ntmps26
  go_wp2_with fail
  refine (text_no _ _ ByteArray.empty ByteArray.empty (B1 84) ByteArray.empty ByteArray.empty (B1 90) (by rfl) _ H.out).mono ?_
  rintro e w1 ⟨rfl, hb⟩
  have HB := Lib.hid hb
  clear hb
  go_wp2
  go_ret
  exact ⟨rfl, HB.out⟩

theorem moment_lives (w : World) : Calls Try.prog 19 #[] w (Kept (.bool true) w) := by
  have h1 : basT 86399 = ⟨#[49, 57, 55, 48, 48, 49, 48, 49, 84, 50, 51, 53, 57, 53, 57, 90]⟩ := by kernel_rfl
  have h2 : lngT 86400 = ⟨#[49, 57, 55, 48, 45, 48, 49, 45, 48, 50, 32, 48, 48, 58, 48, 48, 58, 48, 48]⟩ := by kernel_rfl
  have H1 := Lib.hid h1
  have H2 := Lib.hid h2
  clear h1 h2
  go_enter Try.func19, Try.ntmps19
  go_wp2_with fail
  refine (basic_yes _ _ (by decide)).mono ?_
  rintro e w1 ⟨rfl, hb⟩
  rw [H1.out]
  have HB1 := Lib.hid hb
  clear hb
  go_wp2_with fail
  refine (long_yes _ _ (by decide)).mono ?_
  rintro e w2 ⟨rfl, hb⟩
  rw [H2.out]
  have HB2 := Lib.hid (below_on HB1.out hb)
  clear hb
  go_wp2
  go_ret
  exact ⟨rfl, HB2.out⟩
end Go.Proofs.Ytnoomlakgfdaeaa
