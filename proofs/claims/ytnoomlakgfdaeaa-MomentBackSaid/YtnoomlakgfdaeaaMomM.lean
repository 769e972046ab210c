/- Contract of moment.Read. -/
import Derived.Test.YtnoomlakgfdaeaaMomK
import Derived.Deep.RegionHeld3
namespace Go.Proofs.Ytnoomlakgfdaeaa
open Go.RowKit

theorem ext_dig {s : ByteArray} {a b : Nat} (hab : a ≤ b) (hb : b ≤ s.size) (h15 : b ≤ 15) (h8 : b ≤ 8 ∨ 9 ≤ a) (hall : ∀ j, j < 15 → okS s j) : ∀ j, (h : j < (s.extract a b).size) → isD (s.extract a b)[j] := by
  intro j hj
  have hj' : a + j < b := by
    rw [ByteArray.size_extract] at hj
    omega
  have h := hall (a + j) (by omega) (by omega)
  rw [ByteArray.getElem_extract]
  rcases h with ⟨h1, _⟩ | ⟨_, h1⟩
  · omega
  · exact h1
theorem ext_size {s : ByteArray} {a b : Nat} (hb : b ≤ s.size) : (s.extract a b).size = b - a := by
  rw [ByteArray.size_extract]
  omega
theorem ret_3 {a b c a' b' c' : Int} (h1 : a = a') (h2 : b = b') (h3 : c = c') : Ending.returned (.tuple #[.int .i64 a, .int .i64 b, .int .i64 c]) = .returned (.tuple #[.int .i64 a', .int .i64 b', .int .i64 c']) := by rw [h1, h2, h3]

/-- whether, and which, instant a text's parts are -/
def rdB (s : ByteArray) : Bool := ofB (prt s 0 4) (prt s 4 6) (prt s 6 8) (prt s 9 11) (prt s 11 13) (prt s 13 15)
def rdI (s : ByteArray) : Int := ofI (prt s 0 4) (prt s 4 6) (prt s 6 8) (prt s 9 11) (prt s 11 13) (prt s 13 15)
/-- what is told of a text whose stem is right -/
def RdT (s : ByteArray) (T : Int × Int × Int) : Prop := (rdB s = false ∧ T = (0, 0, 4)) ∨ (rdB s = true ∧ s.size = 15 ∧ T = (0, 15, 7)) ∨ (rdB s = true ∧ (∃ h : 15 < s.size, s[15].toNat ≠ 90) ∧ T = (0, 15, 7)) ∨
  (rdB s = true ∧ 16 < s.size ∧ (∃ h : 15 < s.size, s[15].toNat = 90) ∧ T = (0, 16, 7)) ∨ (rdB s = true ∧ s.size = 16 ∧ (∃ h : 15 < s.size, s[15].toNat = 90) ∧ T = (rdI s, 16, 0))
theorem rdT_ex (s : ByteArray) (h : 15 ≤ s.size) : ∃ T, RdT s T := by
  unfold RdT
  cases hb : rdB s
  · exact ⟨_, .inl ⟨rfl, rfl⟩⟩
  · by_cases h1 : s.size = 15
    · exact ⟨_, .inr (.inl ⟨rfl, h1, rfl⟩)⟩
    · have h2 : 15 < s.size := by omega
      by_cases h3 : s[15].toNat = 90
      · by_cases h4 : s.size = 16
        · exact ⟨_, .inr (.inr (.inr (.inr ⟨rfl, h4, ⟨h2, h3⟩, rfl⟩)))⟩
        · exact ⟨_, .inr (.inr (.inr (.inl ⟨rfl, by omega, ⟨h2, h3⟩, rfl⟩)))⟩
      · exact ⟨_, .inr (.inr (.inl ⟨rfl, ⟨h2, h3⟩, rfl⟩))⟩

set_option maxHeartbeats 2000000 in
theorem read_bad (s : ByteArray) (w : World) (m : Nat) (hm : m ≤ s.size) (h15 : m ≤ 15) (hall : ∀ j, j < m → okS s j) (R : Int × Int)
    (hR : (m < 15 ∧ (∃ h : m < s.size, ¬ okC m s[m]) ∧ R = ((m : Int), 3)) ∨ (m = s.size ∧ m < 15 ∧ R = ((m : Int), 2))) :
    Calls Try.prog 25 #[.string s] w fun e w' => e = .returned (.tuple #[.int .i64 0, .int .i64 R.1, .int .i64 R.2]) ∧ w = w' := by
  have hw := wrong_gen s w m hm h15 hall R (by rcases hR with h | h; exact .inl h; exact .inr (.inl h))
  have hne : (R.2 != 0) = true := by
    rcases hR with ⟨_, _, h⟩ | ⟨_, _, h⟩
    · rw [h]; rfl
    · rw [h]; rfl
  obtain ⟨R1, R2⟩ := R
  dsimp only at hw hne ⊢
  have HW := Lib.hid hw
  clear hw hall hR
  go_enter Try.func25, Try.ntmps25
  go_wp2_with fail
  refine HW.out.mono ?_
  rintro e w' ⟨rfl, rfl⟩
  go_wp2
  go_ret3
  exact ⟨rfl, rfl⟩

set_option maxRecDepth 100000 in
set_option maxHeartbeats 8000000 in
theorem read_ok (s : ByteArray) (w : World) (h15 : 15 ≤ s.size) (hall : ∀ j, j < 15 → okS s j) (T : Int × Int × Int) (hT : RdT s T) :
    Calls Try.prog 25 #[.string s] w (Kept (.tuple #[.int .i64 T.1, .int .i64 T.2.1, .int .i64 T.2.2]) w) := by
  have hw := wrong_gen s w 15 (by omega) (by omega) hall (0, 0) (.inr (.inr ⟨rfl, rfl⟩))
  dsimp only at hw
  obtain ⟨y, hy⟩ : ∃ x, x = prt s 0 4 := ⟨_, rfl⟩
  obtain ⟨m, hm⟩ : ∃ x, x = prt s 4 6 := ⟨_, rfl⟩
  obtain ⟨d, hd⟩ : ∃ x, x = prt s 6 8 := ⟨_, rfl⟩
  obtain ⟨h, hh⟩ : ∃ x, x = prt s 9 11 := ⟨_, rfl⟩
  obtain ⟨mi, hmi⟩ : ∃ x, x = prt s 11 13 := ⟨_, rfl⟩
  obtain ⟨sc, hsc⟩ : ∃ x, x = prt s 13 15 := ⟨_, rfl⟩
  have hB : rdB s = ofB y m d h mi sc := by unfold rdB; rw [hy, hm, hd, hh, hmi, hsc]
  have hI : rdI s = ofI y m d h mi sc := by unfold rdI; rw [hy, hm, hd, hh, hmi, hsc]
  unfold RdT at hT
  rw [hB, hI] at hT
  have cy : ∀ W, Calls Try.prog 78 #[.string (s.extract 0 4)] W (Kept (.int .i64 y) W) := fun W => (wnumber_any _ W (by rw [ext_size (by omega)]; decide) (ext_dig (by omega) (by omega) (by omega) (by omega) hall)).mono fun _ _ ⟨he, hw⟩ => ⟨by rw [he, hy]; rfl, hw⟩
  have cm : ∀ W, Calls Try.prog 78 #[.string (s.extract 4 6)] W (Kept (.int .i64 m) W) := fun W => (wnumber_any _ W (by rw [ext_size (by omega)]; decide) (ext_dig (by omega) (by omega) (by omega) (by omega) hall)).mono fun _ _ ⟨he, hw⟩ => ⟨by rw [he, hm]; rfl, hw⟩
  have cd : ∀ W, Calls Try.prog 78 #[.string (s.extract 6 8)] W (Kept (.int .i64 d) W) := fun W => (wnumber_any _ W (by rw [ext_size (by omega)]; decide) (ext_dig (by omega) (by omega) (by omega) (by omega) hall)).mono fun _ _ ⟨he, hw⟩ => ⟨by rw [he, hd]; rfl, hw⟩
  have ch : ∀ W, Calls Try.prog 78 #[.string (s.extract 9 11)] W (Kept (.int .i64 h) W) := fun W => (wnumber_any _ W (by rw [ext_size (by omega)]; decide) (ext_dig (by omega) (by omega) (by omega) (by omega) hall)).mono fun _ _ ⟨he, hw⟩ => ⟨by rw [he, hh]; rfl, hw⟩
  have cmi : ∀ W, Calls Try.prog 78 #[.string (s.extract 11 13)] W (Kept (.int .i64 mi) W) := fun W => (wnumber_any _ W (by rw [ext_size (by omega)]; decide) (ext_dig (by omega) (by omega) (by omega) (by omega) hall)).mono fun _ _ ⟨he, hw⟩ => ⟨by rw [he, hmi]; rfl, hw⟩
  have csc : ∀ W, Calls Try.prog 78 #[.string (s.extract 13 15)] W (Kept (.int .i64 sc) W) := fun W => (wnumber_any _ W (by rw [ext_size (by omega)]; decide) (ext_dig (by omega) (by omega) (by omega) (by omega) hall)).mono fun _ _ ⟨he, hw⟩ => ⟨by rw [he, hsc]; rfl, hw⟩
  obtain ⟨I, hII⟩ : ∃ x, x = ofI y m d h mi sc := ⟨_, rfl⟩
  rw [← hII] at hT
  have Cy := Lib.hid cy
  have Cm := Lib.hid cm
  have Cd := Lib.hid cd
  have Ch := Lib.hid ch
  have Cmi := Lib.hid cmi
  have Csc := Lib.hid csc
  have hv : ∀ b, ofB y m d h mi sc = b → ofV y m d h mi sc = if b then .tuple #[.int .i64 I, .bool true] else .tuple #[.int .i64 0, .bool false] := fun b hb => by unfold ofV; rw [hb, hII]
  have HV := Lib.hid hv
  have HW := Lib.hid hw
  clear hw hall cy cm cd ch cmi csc hv hII hy hm hd hh hmi hsc hB hI
  rcases hT with ⟨hb, hT⟩ | ⟨hb, t1, hT⟩ | ⟨hb, ⟨t1, t2⟩, hT⟩ | ⟨hb, t3, ⟨t1, t2⟩, hT⟩ | ⟨hb, t3, ⟨t1, t2⟩, hT⟩
  all_goals
    have HVV := Lib.hid (HV.out _ hb)
    have HT := Lib.hid hT
    try (have e1 : ((s[15].toNat : Int) != 90) = true := by rw [bne_iff_ne]; omega)
    try (have e2 : ((s[15].toNat : Int) != 90) = false := by rw [t2]; rfl)
    clear hb hT
    try clear t2
    have z4 : (4 : Int) ≤ (s.size : Int) := by omega
    have z6 : (6 : Int) ≤ (s.size : Int) := by omega
    have z8 : (8 : Int) ≤ (s.size : Int) := by omega
    have z11 : (11 : Int) ≤ (s.size : Int) := by omega
    have z13 : (13 : Int) ≤ (s.size : Int) := by omega
    have z15 : (15 : Int) ≤ (s.size : Int) := by omega
    go_enter Try.func25, Try.ntmps25
    go_wp2_with fail
    refine HW.out.mono ?_
    rintro e w' ⟨rfl, rfl⟩
    go_wp2_with fail
    go_region_held3 (fun w' => Below w.heap.size w w')
      (first | exact below_draws (Below.refl _ _) 1 | exact below_on (by assumption) hb2)
      (first
        | (go_at_call 78; first
            | ((with_reducible refine (Cy.out _).mono ?_); rintro e w2 ⟨rfl, hb2⟩)
            | ((with_reducible refine (Cm.out _).mono ?_); rintro e w2 ⟨rfl, hb2⟩)
            | ((with_reducible refine (Cd.out _).mono ?_); rintro e w2 ⟨rfl, hb2⟩)
            | ((with_reducible refine (Ch.out _).mono ?_); rintro e w2 ⟨rfl, hb2⟩)
            | ((with_reducible refine (Cmi.out _).mono ?_); rintro e w2 ⟨rfl, hb2⟩)
            | ((with_reducible refine (Csc.out _).mono ?_); rintro e w2 ⟨rfl, hb2⟩))
        | (go_at_call 24; refine (mof_any _ _ _ _ _ _ _).mono ?_; rintro e w2 ⟨rfl, hb2⟩; rw [HVV.out]))
    rename_i hh
    have HF := Lib.hid hh
    clear hh
    go_wp2
    go_ret3
    exact ⟨ret_3 (by rw [HT.out]) (by rw [HT.out]) (by rw [HT.out]), HF.out⟩
end Go.Proofs.Ytnoomlakgfdaeaa
