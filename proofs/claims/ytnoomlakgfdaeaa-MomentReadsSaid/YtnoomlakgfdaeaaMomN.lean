/- Contract of the reference's Read; the walk of ferialaw08.MomentReads. -/
import Derived.Test.YtnoomlakgfdaeaaMomM
namespace Go.Proofs.Ytnoomlakgfdaeaa
open Go.RowKit

theorem ofI_nn {y m d h mi s : Int} (hB : ofB y m d h mi s = true) : 0 ≤ ofI y m d h mi s := by
  unfold ofB at hB
  simp only [Bool.and_eq_true] at hB
  obtain ⟨_, _, q3⟩ := hB
  obtain ⟨q4, _, q6, _⟩ := of_decide_eq_true q3
  unfold ofI
  omega
theorem ok_ways2 {k : Nat} {c : Int} (h : (k = 8 ∧ c = 84) ∨ (k ≠ 8 ∧ 48 ≤ c ∧ c ≤ 57)) : (((k : Int) == 8) = true ∧ (c != 84) = false ∧ ((k : Int) != 8) = false ∧ decide (48 ≤ c) = true ∧ decide (c ≤ 57) = false) ∨ (((k : Int) == 8) = false ∧ ((k : Int) != 8) = true ∧ decide (48 ≤ c) = true ∧ decide (c ≤ 57) = true) := by
  rcases h with ⟨h1, h2⟩ | ⟨h1, h2, h3⟩
  · subst h1 h2
    exact .inl ⟨rfl, rfl, rfl, rfl, rfl⟩
  · exact .inr ⟨beq_eq_false_iff_ne.2 (by omega), by rw [bne_iff_ne]; omega, decide_eq_true h2, decide_eq_true h3⟩
theorem no_ways2 {k : Nat} {c : Int} (h : ¬ ((k = 8 ∧ c = 84) ∨ (k ≠ 8 ∧ 48 ≤ c ∧ c ≤ 57))) :
    (((k : Int) == 8) = true ∧ (c != 84) = true ∧ decide (48 ≤ c) = false) ∨ (((k : Int) == 8) = true ∧ (c != 84) = true ∧ decide (48 ≤ c) = true ∧ decide (c ≤ 57) = false) ∨ (((k : Int) == 8) = true ∧ (c != 84) = true ∧ decide (48 ≤ c) = true ∧ decide (c ≤ 57) = true) ∨
    (((k : Int) == 8) = false ∧ ((k : Int) != 8) = true ∧ decide (48 ≤ c) = false) ∨ (((k : Int) == 8) = false ∧ ((k : Int) != 8) = true ∧ decide (48 ≤ c) = true ∧ decide (c ≤ 57) = false) := by
  by_cases h1 : k = 8
  · have h2 : (c != 84) = true := by
      rw [bne_iff_ne]
      exact fun e => h (.inl ⟨h1, e⟩)
    have e8 : ((k : Int) == 8) = true := beq_iff_eq.2 (by omega)
    by_cases a : 48 ≤ c
    · by_cases b : c ≤ 57
      · exact .inr (.inr (.inl ⟨e8, h2, decide_eq_true a, decide_eq_true b⟩))
      · exact .inr (.inl ⟨e8, h2, decide_eq_true a, decide_eq_false b⟩)
    · exact .inl ⟨e8, h2, decide_eq_false a⟩
  · have e8 : ((k : Int) == 8) = false := beq_eq_false_iff_ne.2 (by omega)
    have n8 : ((k : Int) != 8) = true := by rw [bne_iff_ne]; omega
    by_cases a : 48 ≤ c
    · exact .inr (.inr (.inr (.inr ⟨e8, n8, decide_eq_true a, decide_eq_false (fun b => h (.inr ⟨h1, a, b⟩))⟩)))
    · exact .inr (.inr (.inr (.inl ⟨e8, n8, decide_eq_false a⟩)))

set_option maxHeartbeats 4000000 in
theorem rread_bad (s : ByteArray) (w : World) (m : Nat) (hm : m ≤ s.size) (h15 : m ≤ 15) (hall : ∀ j, j < m → okS s j) (R : Int × Int)
    (hR : (m < 15 ∧ (∃ h : m < s.size, ¬ okC m s[m]) ∧ R = ((m : Int), 3)) ∨ (m = s.size ∧ m < 15 ∧ R = ((m : Int), 2))) :
    Calls Try.prog 74 #[.string s] w fun e w' => e = .returned (.tuple #[.int .i64 0, .int .i64 R.1, .int .i64 R.2]) ∧ w = w' := by
  have HA := Lib.hid hall
  have HR := Lib.hid hR
  clear hall hR
  go_enter Try.func74, Try.ntmps74
  go_wp2_with fail
  go_loop [5] (fun i => ∃ k : Nat, k ≤ m ∧ i = .int .i64 k) (fun i => 16 - (intOf i).toNat)
  case atStart => exact ⟨0, Nat.zero_le _, rfl⟩
  case round =>
    obtain ⟨k, hk, rfl⟩ := hrel
    by_cases hlt : k < m
    · have hks : k < s.size := by omega
      have hok := okC_int.1 (HA.out k hlt hks)
      rcases ok_ways2 hok with ⟨o1, o2, o3, o4, o5⟩ | ⟨o1, o2, o3, o4⟩
      all_goals
        clear hok
        go_wp2
        go_round
        case rel => exact ⟨k + 1, by omega, by go_num⟩
        case measure => simp [intOf]; omega
    · obtain rfl : k = m := by omega
      rcases HR.out with ⟨r1, ⟨r2, r3⟩, r4⟩ | ⟨r1, r2, r4⟩
      · have hno := no_ways2 (fun h => r3 (okC_int.2 h))
        have HR4 := Lib.hid r4
        clear r3 r4
        rcases hno with ⟨o1, o2, o3⟩ | ⟨o1, o2, o3, o4⟩ | ⟨o1, o2, o3, o4⟩ | ⟨o1, o2, o3⟩ | ⟨o1, o2, o3, o4⟩
        all_goals
          go_wp2
          go_ret3
          exact ⟨ret_3 rfl (by rw [HR4.out]) (by rw [HR4.out]), rfl⟩
      · have HR4 := Lib.hid r4
        clear r4
        go_wp2
        go_ret3
        exact ⟨ret_3 rfl (by rw [HR4.out]; show (s.size : Int) = k; omega) (by rw [HR4.out]), rfl⟩

set_option maxRecDepth 100000 in
set_option maxHeartbeats 8000000 in
theorem rread_ok (s : ByteArray) (w : World) (h15 : 15 ≤ s.size) (hall : ∀ j, j < 15 → okS s j) (T : Int × Int × Int) (hT : RdT s T) :
    Calls Try.prog 74 #[.string s] w (Kept (.tuple #[.int .i64 T.1, .int .i64 T.2.1, .int .i64 T.2.2]) w) := by
  obtain ⟨y, hy⟩ : ∃ x, x = prt s 0 4 := ⟨_, rfl⟩
  obtain ⟨m, hm⟩ : ∃ x, x = prt s 4 6 := ⟨_, rfl⟩
  obtain ⟨d, hd⟩ : ∃ x, x = prt s 6 8 := ⟨_, rfl⟩
  obtain ⟨h, hh⟩ : ∃ x, x = prt s 9 11 := ⟨_, rfl⟩
  obtain ⟨mi, hmi⟩ : ∃ x, x = prt s 11 13 := ⟨_, rfl⟩
  obtain ⟨sc, hsc⟩ : ∃ x, x = prt s 13 15 := ⟨_, rfl⟩
  have hB : rdB s = ofB y m d h mi sc := by unfold rdB; rw [hy, hm, hd, hh, hmi, hsc]
  have hI : rdI s = ofI y m d h mi sc := by unfold rdI; rw [hy, hm, hd, hh, hmi, hsc]
  unfold RdT at hT
  rw [hB, hI] at hT
  have cy : ∀ W, Calls Try.prog 92 #[.string (s.extract 0 4)] W fun e w' => e = .returned (.int .i64 y) ∧ W = w' := fun W => (rnumber8_any _ W (by rw [ext_size (by omega)]; decide) (ext_dig (by omega) (by omega) (by omega) (by omega) hall)).mono fun _ _ ⟨he, hw⟩ => ⟨by rw [he, hy]; rfl, hw⟩
  have cm : ∀ W, Calls Try.prog 92 #[.string (s.extract 4 6)] W fun e w' => e = .returned (.int .i64 m) ∧ W = w' := fun W => (rnumber8_any _ W (by rw [ext_size (by omega)]; decide) (ext_dig (by omega) (by omega) (by omega) (by omega) hall)).mono fun _ _ ⟨he, hw⟩ => ⟨by rw [he, hm]; rfl, hw⟩
  have cd : ∀ W, Calls Try.prog 92 #[.string (s.extract 6 8)] W fun e w' => e = .returned (.int .i64 d) ∧ W = w' := fun W => (rnumber8_any _ W (by rw [ext_size (by omega)]; decide) (ext_dig (by omega) (by omega) (by omega) (by omega) hall)).mono fun _ _ ⟨he, hw⟩ => ⟨by rw [he, hd]; rfl, hw⟩
  have ch : ∀ W, Calls Try.prog 92 #[.string (s.extract 9 11)] W fun e w' => e = .returned (.int .i64 h) ∧ W = w' := fun W => (rnumber8_any _ W (by rw [ext_size (by omega)]; decide) (ext_dig (by omega) (by omega) (by omega) (by omega) hall)).mono fun _ _ ⟨he, hw⟩ => ⟨by rw [he, hh]; rfl, hw⟩
  have cmi : ∀ W, Calls Try.prog 92 #[.string (s.extract 11 13)] W fun e w' => e = .returned (.int .i64 mi) ∧ W = w' := fun W => (rnumber8_any _ W (by rw [ext_size (by omega)]; decide) (ext_dig (by omega) (by omega) (by omega) (by omega) hall)).mono fun _ _ ⟨he, hw⟩ => ⟨by rw [he, hmi]; rfl, hw⟩
  have csc : ∀ W, Calls Try.prog 92 #[.string (s.extract 13 15)] W fun e w' => e = .returned (.int .i64 sc) ∧ W = w' := fun W => (rnumber8_any _ W (by rw [ext_size (by omega)]; decide) (ext_dig (by omega) (by omega) (by omega) (by omega) hall)).mono fun _ _ ⟨he, hw⟩ => ⟨by rw [he, hsc]; rfl, hw⟩
  obtain ⟨I, hII⟩ : ∃ x, x = ofI y m d h mi sc := ⟨_, rfl⟩
  rw [← hII] at hT
  have Cy := Lib.hid cy
  have Cm := Lib.hid cm
  have Cd := Lib.hid cd
  have Ch := Lib.hid ch
  have Cmi := Lib.hid cmi
  have Csc := Lib.hid csc
  have hv : ∀ b, ofB y m d h mi sc = b → (if ofB y m d h mi sc then ofI y m d h mi sc else -1) = if b then I else -1 := fun b hb => by rw [hb, hII]
  have hI0 : ofB y m d h mi sc = true → decide (I < 0) = false := fun hb => decide_eq_false (by rw [hII]; have := ofI_nn hb; omega)
  have HV := Lib.hid hv
  have HA := Lib.hid hall
  have HI0 := Lib.hid hI0
  clear hall cy cm cd ch cmi csc hv hII hy hm hd hh hmi hsc hB hI hI0
  rcases hT with ⟨hb, hT⟩ | ⟨hb, t1, hT⟩ | ⟨hb, ⟨t1, t2⟩, hT⟩ | ⟨hb, t3, ⟨t1, t2⟩, hT⟩ | ⟨hb, t3, ⟨t1, t2⟩, hT⟩
  all_goals
    have HVV := Lib.hid (HV.out _ hb)
    have HT := Lib.hid hT
    try (have e0 := HI0.out hb)
    try (have e1 : ((s[15].toNat : Int) != 90) = true := by rw [bne_iff_ne]; omega)
    try (have e2 : ((s[15].toNat : Int) != 90) = false := by rw [t2]; rfl)
    try (have e3 : ((s.size : Int) == 15) = true := beq_iff_eq.2 (by omega))
    try (have e3 : ((s.size : Int) == 15) = false := beq_eq_false_iff_ne.2 (by omega))
    clear hb hT
    try clear t2
    have z4 : (4 : Int) ≤ (s.size : Int) := by omega
    have z6 : (6 : Int) ≤ (s.size : Int) := by omega
    have z8 : (8 : Int) ≤ (s.size : Int) := by omega
    have z11 : (11 : Int) ≤ (s.size : Int) := by omega
    have z13 : (13 : Int) ≤ (s.size : Int) := by omega
    have z15 : (15 : Int) ≤ (s.size : Int) := by omega
    go_enter Try.func74, Try.ntmps74
    go_wp2_with fail
    go_loop [5] (fun i => ∃ k : Nat, k ≤ 15 ∧ i = .int .i64 k) (fun i => 16 - (intOf i).toNat)
    case atStart => exact ⟨0, Nat.zero_le _, rfl⟩
    case round =>
      obtain ⟨k, hk, rfl⟩ := hrel
      by_cases hlt : k < 15
      · have hks : k < s.size := by omega
        have hok := okC_int.1 (HA.out k hlt hks)
        rcases ok_ways2 hok with ⟨o1, o2, o3, o4, o5⟩ | ⟨o1, o2, o3, o4⟩
        all_goals
          clear hok
          go_wp2
          go_round
          case rel => exact ⟨k + 1, by omega, by go_num⟩
          case measure => simp [intOf]; omega
      · obtain rfl : k = 15 := by omega
        go_wp2_with fail
        go_region_held3 (fun w' => Below w.heap.size w w')
          (first | exact below_draws (Below.refl _ _) 1 | exact below_on (by assumption) hb2)
          (first
            | (go_at_call 92; first
                | ((with_reducible refine (Cy.out _).mono ?_); rintro e w2 ⟨rfl, rfl⟩)
                | ((with_reducible refine (Cm.out _).mono ?_); rintro e w2 ⟨rfl, rfl⟩)
                | ((with_reducible refine (Cd.out _).mono ?_); rintro e w2 ⟨rfl, rfl⟩)
                | ((with_reducible refine (Ch.out _).mono ?_); rintro e w2 ⟨rfl, rfl⟩)
                | ((with_reducible refine (Cmi.out _).mono ?_); rintro e w2 ⟨rfl, rfl⟩)
                | ((with_reducible refine (Csc.out _).mono ?_); rintro e w2 ⟨rfl, rfl⟩))
            | (go_at_call 71; refine (rof_any _ _ _ _ _ _ _).mono ?_; rintro e w2 ⟨rfl, hb2⟩; rw [HVV.out]))
        rename_i hh
        have HF := Lib.hid hh
        clear hh
        go_wp2
        go_ret3
        exact ⟨ret_3 (by rw [HT.out]) (by rw [HT.out]) (by rw [HT.out]), HF.out⟩

set_option maxHeartbeats 4000000 in
theorem reads_long (s : ByteArray) (w : World) (hz : 100 < s.size) : Calls Try.prog 18 #[.string s] w (Kept (.bool true) w) := by
  go_enter Try.func18, Try.ntmps18
  go_wp2_with fail
  refine (moment_lives _).mono ?_
  rintro e w5 ⟨rfl, hb⟩
  have HB5 := Lib.hid hb
  clear hb
  go_wp2
  go_ret
  exact ⟨rfl, HB5.out⟩
set_option maxHeartbeats 4000000 in
theorem reads_same (s : ByteArray) (w : World) (hz : s.size ≤ 100) (a b c : Int) (h1 : ∀ W, Calls Try.prog 25 #[.string s] W (Kept (.tuple #[.int .i64 a, .int .i64 b, .int .i64 c]) W))
    (h2 : ∀ W, Calls Try.prog 74 #[.string s] W (Kept (.tuple #[.int .i64 a, .int .i64 b, .int .i64 c]) W)) : Calls Try.prog 18 #[.string s] w (Kept (.bool true) w) := by
  have H1 := Lib.hid h1
  have H2 := Lib.hid h2
  clear h1 h2
  go_enter Try.func18, Try.ntmps18
  go_wp2_with fail
  refine (H1.out _).mono ?_
  rintro e w1 ⟨rfl, hb⟩
  have HB1 := Lib.hid hb
  clear hb
  go_wp2_with fail
  refine (H2.out _).mono ?_
  rintro e w2 ⟨rfl, hb⟩
  have HB2 := Lib.hid (below_on HB1.out hb)
  clear hb
  go_wp2_with fail
  refine (moment_lives _).mono ?_
  rintro e w5 ⟨rfl, hb⟩
  have HB5 := Lib.hid (below_on HB2.out hb)
  clear hb
  go_wp2
  go_ret
  exact ⟨rfl, HB5.out⟩

/-- every text is one of these -/
theorem stem_parts (s : ByteArray) : (∃ m R, m ≤ s.size ∧ m ≤ 15 ∧ (∀ j, j < m → okS s j) ∧ ((m < 15 ∧ (∃ h : m < s.size, ¬ okC m s[m]) ∧ R = ((m : Int), (3 : Int))) ∨ (m = s.size ∧ m < 15 ∧ R = ((m : Int), 2)))) ∨ (15 ≤ s.size ∧ ∀ j, j < 15 → okS s j) := by
  rcases stem_ways s with ⟨k, hk, hno, hall⟩ | ⟨hs, hall⟩ | ⟨hs, hall⟩
  · obtain ⟨h, hn⟩ := hno
    exact .inl ⟨k, ((k : Int), 3), by omega, by omega, hall, .inl ⟨hk, ⟨h, hn⟩, rfl⟩⟩
  · exact .inl ⟨s.size, ((s.size : Int), 2), by omega, by omega, fun j hj => hall j (by omega), .inr ⟨rfl, hs, rfl⟩⟩
  · exact .inr ⟨hs, hall⟩

theorem MomentReads_walk (s : ByteArray) (w : World) (hs : s.size ≤ 9223372036854775807) : Calls Try.prog 18 #[.string s] w (Kept (.bool true) w) := by
  by_cases hz : 100 < s.size
  · exact reads_long s w hz
  · rcases stem_parts s with ⟨m, R, h1, h2, h3, h4⟩ | ⟨h1, h2⟩
    · exact reads_same s w (by omega) 0 R.1 R.2 (fun W => (read_bad s W m h1 h2 h3 R h4).mono fun _ _ ⟨he, hw⟩ => ⟨he, hw ▸ Below.refl _ _⟩) (fun W => (rread_bad s W m h1 h2 h3 R h4).mono fun _ _ ⟨he, hw⟩ => ⟨he, hw ▸ Below.refl _ _⟩)
    · obtain ⟨T, hT⟩ := rdT_ex s h1
      exact reads_same s w (by omega) T.1 T.2.1 T.2.2 (fun W => read_ok s W h1 h2 T hT) (fun W => rread_ok s W h1 h2 T hT)
end Go.Proofs.Ytnoomlakgfdaeaa
