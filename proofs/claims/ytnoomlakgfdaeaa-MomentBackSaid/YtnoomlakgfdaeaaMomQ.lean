/- The walk of ferialaw08.MomentBack. -/
import Derived.Test.YtnoomlakgfdaeaaMomO
namespace Go.Proofs.Ytnoomlakgfdaeaa
open Go.RowKit

set_option maxHeartbeats 4000000 in
theorem back_long (t : Int) (s : ByteArray) (w : World) (hz : 100 < s.size) : Calls Try.prog 3 #[.int .i64 t, .string s] w (Kept (.bool true) w) := by
  go_enter Try.func3, Try.ntmps3
  go_wp2_with fail
  refine (moment_lives _).mono ?_
  rintro e w5 ⟨rfl, hb⟩
  have HB5 := Lib.hid hb
  clear hb
  go_wp2
  go_ret
  exact ⟨rfl, HB5.out⟩

set_option maxRecDepth 100000 in
set_option maxHeartbeats 8000000 in
theorem back_11 (t : Int) (s : ByteArray) (w : World) (hz : s.size ≤ 100) (hi : inW t = true) (a b : Int) (h1 : ∀ W, Calls Try.prog 25 #[.string s] W (Kept (.tuple #[.int .i64 a, .int .i64 b, .int .i64 0]) W))
    (h2 : ∀ W, Calls Try.prog 26 #[.int .i64 a] W (Kept (.string s) W)) : Calls Try.prog 3 #[.int .i64 t, .string s] w (Kept (.bool true) w) := by
  have H1 := Lib.hid h1
  have H2 := Lib.hid h2
  clear h2
  clear h1
  have ho := of_in hi
  have hz19 := lng_size t
  have hj := jo_in hi
  have hjt : t / 86400 * 86400 + t % 86400 = t := by omega
  have hbr := bas_reads t hi
  have hrb := fun W => read_ok (basT t) W (by rw [bas_size]; decide) hbr.1 _ hbr.2
  have hst : stV t = stA (dY (t / 86400)) (dM (t / 86400)) (dD (t / 86400)) (t % 86400 / 3600) (t % 86400 / 60 % 60) (t % 86400 % 60) := rfl
  have hov : ofV (dY (t / 86400)) (dM (t / 86400)) (dD (t / 86400)) (t % 86400 / 3600) (t % 86400 / 60 % 60) (t % 86400 % 60) = .tuple #[.int .i64 t, .bool true] := by unfold ofV; rw [if_pos ho.1, ho.2]
  obtain ⟨x0, hx0⟩ : ∃ x, x = dY (t / 86400) := ⟨_, rfl⟩
  obtain ⟨x1, hx1⟩ : ∃ x, x = dM (t / 86400) := ⟨_, rfl⟩
  obtain ⟨x2, hx2⟩ : ∃ x, x = dD (t / 86400) := ⟨_, rfl⟩
  obtain ⟨x3, hx3⟩ : ∃ x, x = t % 86400 / 3600 := ⟨_, rfl⟩
  obtain ⟨x4, hx4⟩ : ∃ x, x = t % 86400 / 60 % 60 := ⟨_, rfl⟩
  obtain ⟨x5, hx5⟩ : ∃ x, x = t % 86400 % 60 := ⟨_, rfl⟩
  rw [← hx0, ← hx1, ← hx2, ← hx3, ← hx4, ← hx5] at hst hov
  obtain ⟨lt, hlt⟩ : ∃ x, x = lngT t := ⟨_, rfl⟩
  obtain ⟨bt', hbt⟩ : ∃ x, x = basT t := ⟨_, rfl⟩
  rw [← hlt] at hz19
  rw [← hbt] at hrb
  dsimp only at hrb
  obtain ⟨dd, hdd⟩ : ∃ x, x = t / 86400 := ⟨_, rfl⟩
  obtain ⟨ss, hss⟩ : ∃ x, x = t % 86400 := ⟨_, rfl⟩
  rw [← hdd, ← hss] at hj hjt
  have HST := Lib.hid hst
  have HOV := Lib.hid hov
  have HLT := Lib.hid hlt
  have HBT := Lib.hid hbt
  have HRB := Lib.hid hrb
  have HJ := Lib.hid hj
  have HJT := Lib.hid hjt
  have HDD := Lib.hid hdd
  have HSS := Lib.hid hss
  have HZ : Hid (lt.size = 19) := Lib.hid hz19
  clear ho hz19 hj hjt hbr hrb hst hov hx0 hx1 hx2 hx3 hx4 hx5 hlt hbt hdd hss
  have HI := Lib.hid hi
  clear hi
  go_enter Try.func3, Try.ntmps3
  go_wp2_with fail
  refine (min_any _ _).mono ?_
  rintro e w' ⟨rfl, rfl⟩
  rw [HI.out]
  go_wp2_with fail
  refine (split_yes _ _ HI.out).mono ?_
  rintro e w' ⟨rfl, rfl⟩
  rw [← HDD.out, ← HSS.out]
  go_wp2_with fail
  refine (join_yes _ _ _ HJ.out).mono ?_
  rintro e w' ⟨rfl, rfl⟩
  rw [HJT.out]
  go_wp2_with fail
  refine (stamp_yes _ _ HI.out).mono ?_
  rintro e w1 ⟨rfl, hb⟩
  rw [HST.out]
  unfold stA
  have HB1 := Lib.hid hb
  clear hb
  go_wp2_with fail
  refine (mof_any _ _ _ _ _ _ _).mono ?_
  rintro e w2 ⟨rfl, hb⟩
  rw [HOV.out]
  have HB2 := Lib.hid (below_on (HB1.out.alloc HB1.out.size _) hb)
  clear hb
  go_wp2_with fail
  refine (basic_yes _ _ HI.out).mono ?_
  rintro e w3 ⟨rfl, hb⟩
  rw [← HBT.out]
  have HB3 := Lib.hid (below_on HB2.out hb)
  clear hb
  go_wp2_with fail
  refine (HRB.out _).mono ?_
  rintro e w4 ⟨rfl, hb⟩
  have HB4 := Lib.hid (below_on HB3.out hb)
  clear hb
  go_wp2_with fail
  refine (long_yes _ _ HI.out).mono ?_
  rintro e w5 ⟨rfl, hb⟩
  rw [← HLT.out]
  have HB5 := Lib.hid (below_on HB4.out hb)
  have hzz : lt.size = 19 := HZ.out
  clear hb
  go_wp2_with fail
  refine (H1.out _).mono ?_
  rintro e w6 ⟨rfl, hb⟩
  have HB6 := Lib.hid (below_on HB5.out hb)
  clear hb
  go_wp2_with fail
  refine (H2.out _).mono ?_
  rintro e w7 ⟨rfl, hb⟩
  have HB7 := Lib.hid (below_on HB6.out hb)
  clear hb
  go_wp2_with fail
  refine (moment_lives _).mono ?_
  rintro e w8 ⟨rfl, hb⟩
  have HB8 := Lib.hid (below_on HB7.out hb)
  clear hb
  go_wp2
  go_ret
  exact ⟨rfl, HB8.out⟩

set_option maxRecDepth 100000 in
set_option maxHeartbeats 8000000 in
theorem back_10 (t : Int) (s : ByteArray) (w : World) (hz : s.size ≤ 100) (hi : inW t = true) (a b c : Int) (h1 : ∀ W, Calls Try.prog 25 #[.string s] W (Kept (.tuple #[.int .i64 a, .int .i64 b, .int .i64 c]) W))
    (h2 : (c != 0) = true) : Calls Try.prog 3 #[.int .i64 t, .string s] w (Kept (.bool true) w) := by
  have H1 := Lib.hid h1
  clear h1
  have ho := of_in hi
  have hz19 := lng_size t
  have hj := jo_in hi
  have hjt : t / 86400 * 86400 + t % 86400 = t := by omega
  have hbr := bas_reads t hi
  have hrb := fun W => read_ok (basT t) W (by rw [bas_size]; decide) hbr.1 _ hbr.2
  have hst : stV t = stA (dY (t / 86400)) (dM (t / 86400)) (dD (t / 86400)) (t % 86400 / 3600) (t % 86400 / 60 % 60) (t % 86400 % 60) := rfl
  have hov : ofV (dY (t / 86400)) (dM (t / 86400)) (dD (t / 86400)) (t % 86400 / 3600) (t % 86400 / 60 % 60) (t % 86400 % 60) = .tuple #[.int .i64 t, .bool true] := by unfold ofV; rw [if_pos ho.1, ho.2]
  obtain ⟨x0, hx0⟩ : ∃ x, x = dY (t / 86400) := ⟨_, rfl⟩
  obtain ⟨x1, hx1⟩ : ∃ x, x = dM (t / 86400) := ⟨_, rfl⟩
  obtain ⟨x2, hx2⟩ : ∃ x, x = dD (t / 86400) := ⟨_, rfl⟩
  obtain ⟨x3, hx3⟩ : ∃ x, x = t % 86400 / 3600 := ⟨_, rfl⟩
  obtain ⟨x4, hx4⟩ : ∃ x, x = t % 86400 / 60 % 60 := ⟨_, rfl⟩
  obtain ⟨x5, hx5⟩ : ∃ x, x = t % 86400 % 60 := ⟨_, rfl⟩
  rw [← hx0, ← hx1, ← hx2, ← hx3, ← hx4, ← hx5] at hst hov
  obtain ⟨lt, hlt⟩ : ∃ x, x = lngT t := ⟨_, rfl⟩
  obtain ⟨bt', hbt⟩ : ∃ x, x = basT t := ⟨_, rfl⟩
  rw [← hlt] at hz19
  rw [← hbt] at hrb
  dsimp only at hrb
  obtain ⟨dd, hdd⟩ : ∃ x, x = t / 86400 := ⟨_, rfl⟩
  obtain ⟨ss, hss⟩ : ∃ x, x = t % 86400 := ⟨_, rfl⟩
  rw [← hdd, ← hss] at hj hjt
  have HST := Lib.hid hst
  have HOV := Lib.hid hov
  have HLT := Lib.hid hlt
  have HBT := Lib.hid hbt
  have HRB := Lib.hid hrb
  have HJ := Lib.hid hj
  have HJT := Lib.hid hjt
  have HDD := Lib.hid hdd
  have HSS := Lib.hid hss
  have HZ : Hid (lt.size = 19) := Lib.hid hz19
  clear ho hz19 hj hjt hbr hrb hst hov hx0 hx1 hx2 hx3 hx4 hx5 hlt hbt hdd hss
  have HI := Lib.hid hi
  clear hi
  go_enter Try.func3, Try.ntmps3
  go_wp2_with fail
  refine (min_any _ _).mono ?_
  rintro e w' ⟨rfl, rfl⟩
  rw [HI.out]
  go_wp2_with fail
  refine (split_yes _ _ HI.out).mono ?_
  rintro e w' ⟨rfl, rfl⟩
  rw [← HDD.out, ← HSS.out]
  go_wp2_with fail
  refine (join_yes _ _ _ HJ.out).mono ?_
  rintro e w' ⟨rfl, rfl⟩
  rw [HJT.out]
  go_wp2_with fail
  refine (stamp_yes _ _ HI.out).mono ?_
  rintro e w1 ⟨rfl, hb⟩
  rw [HST.out]
  unfold stA
  have HB1 := Lib.hid hb
  clear hb
  go_wp2_with fail
  refine (mof_any _ _ _ _ _ _ _).mono ?_
  rintro e w2 ⟨rfl, hb⟩
  rw [HOV.out]
  have HB2 := Lib.hid (below_on (HB1.out.alloc HB1.out.size _) hb)
  clear hb
  go_wp2_with fail
  refine (basic_yes _ _ HI.out).mono ?_
  rintro e w3 ⟨rfl, hb⟩
  rw [← HBT.out]
  have HB3 := Lib.hid (below_on HB2.out hb)
  clear hb
  go_wp2_with fail
  refine (HRB.out _).mono ?_
  rintro e w4 ⟨rfl, hb⟩
  have HB4 := Lib.hid (below_on HB3.out hb)
  clear hb
  go_wp2_with fail
  refine (long_yes _ _ HI.out).mono ?_
  rintro e w5 ⟨rfl, hb⟩
  rw [← HLT.out]
  have HB5 := Lib.hid (below_on HB4.out hb)
  have hzz : lt.size = 19 := HZ.out
  clear hb
  go_wp2_with fail
  refine (H1.out _).mono ?_
  rintro e w6 ⟨rfl, hb⟩
  have HB6 := Lib.hid (below_on HB5.out hb)
  clear hb
  go_wp2_with fail
  refine (moment_lives _).mono ?_
  rintro e w8 ⟨rfl, hb⟩
  have HB8 := Lib.hid (below_on HB6.out hb)
  clear hb
  go_wp2
  go_ret
  exact ⟨rfl, HB8.out⟩

set_option maxRecDepth 100000 in
set_option maxHeartbeats 8000000 in
theorem back_01 (t : Int) (s : ByteArray) (w : World) (hz : s.size ≤ 100) (hi : inW t = false) (a b : Int) (h1 : ∀ W, Calls Try.prog 25 #[.string s] W (Kept (.tuple #[.int .i64 a, .int .i64 b, .int .i64 0]) W))
    (h2 : ∀ W, Calls Try.prog 26 #[.int .i64 a] W (Kept (.string s) W)) : Calls Try.prog 3 #[.int .i64 t, .string s] w (Kept (.bool true) w) := by
  have H1 := Lib.hid h1
  have H2 := Lib.hid h2
  clear h2
  clear h1
  have HI := Lib.hid hi
  clear hi
  go_enter Try.func3, Try.ntmps3
  go_wp2_with fail
  refine (min_any _ _).mono ?_
  rintro e w' ⟨rfl, rfl⟩
  rw [HI.out]
  go_wp2_with fail
  refine (H1.out _).mono ?_
  rintro e w6 ⟨rfl, hb⟩
  have HB6 := Lib.hid hb
  clear hb
  go_wp2_with fail
  refine (H2.out _).mono ?_
  rintro e w7 ⟨rfl, hb⟩
  have HB7 := Lib.hid (below_on HB6.out hb)
  clear hb
  go_wp2_with fail
  refine (moment_lives _).mono ?_
  rintro e w8 ⟨rfl, hb⟩
  have HB8 := Lib.hid (below_on HB7.out hb)
  clear hb
  go_wp2
  go_ret
  exact ⟨rfl, HB8.out⟩

set_option maxRecDepth 100000 in
set_option maxHeartbeats 8000000 in
theorem back_00 (t : Int) (s : ByteArray) (w : World) (hz : s.size ≤ 100) (hi : inW t = false) (a b c : Int) (h1 : ∀ W, Calls Try.prog 25 #[.string s] W (Kept (.tuple #[.int .i64 a, .int .i64 b, .int .i64 c]) W))
    (h2 : (c != 0) = true) : Calls Try.prog 3 #[.int .i64 t, .string s] w (Kept (.bool true) w) := by
  have H1 := Lib.hid h1
  clear h1
  have HI := Lib.hid hi
  clear hi
  go_enter Try.func3, Try.ntmps3
  go_wp2_with fail
  refine (min_any _ _).mono ?_
  rintro e w' ⟨rfl, rfl⟩
  rw [HI.out]
  go_wp2_with fail
  refine (H1.out _).mono ?_
  rintro e w6 ⟨rfl, hb⟩
  have HB6 := Lib.hid hb
  clear hb
  go_wp2_with fail
  refine (moment_lives _).mono ?_
  rintro e w8 ⟨rfl, hb⟩
  have HB8 := Lib.hid (below_on HB6.out hb)
  clear hb
  go_wp2
  go_ret
  exact ⟨rfl, HB8.out⟩

theorem stem_parts2 (s : ByteArray) : (∃ m R, m ≤ s.size ∧ m ≤ 15 ∧ (∀ j, j < m → okS s j) ∧ ((m < 15 ∧ (∃ h : m < s.size, ¬ okC m s[m]) ∧ R = ((m : Int), (3 : Int))) ∨ (m = s.size ∧ m < 15 ∧ R = ((m : Int), 2)))) ∨ (15 ≤ s.size ∧ ∀ j, j < 15 → okS s j) := by
  rcases stem_ways s with ⟨k, hk, hno, hall⟩ | ⟨hs, hall⟩ | ⟨hs, hall⟩
  · obtain ⟨h, hn⟩ := hno
    exact .inl ⟨k, ((k : Int), 3), by omega, by omega, hall, .inl ⟨hk, ⟨h, hn⟩, rfl⟩⟩
  · exact .inl ⟨s.size, ((s.size : Int), 2), by omega, by omega, fun j hj => hall j (by omega), .inr ⟨rfl, hs, rfl⟩⟩
  · exact .inr ⟨hs, hall⟩

theorem back_no (t : Int) (s : ByteArray) (w : World) (hz : s.size ≤ 100) (a b c : Int) (h1 : ∀ W, Calls Try.prog 25 #[.string s] W (Kept (.tuple #[.int .i64 a, .int .i64 b, .int .i64 c]) W)) (h2 : (c != 0) = true) :
    Calls Try.prog 3 #[.int .i64 t, .string s] w (Kept (.bool true) w) := by
  cases hi : inW t
  · exact back_00 t s w hz hi a b c h1 h2
  · exact back_10 t s w hz hi a b c h1 h2

theorem MomentBack_walk (t : Int) (s : ByteArray) (w : World) (ht : (Lit.int .i64 t).wf = true) (hs : s.size ≤ 9223372036854775807) : Calls Try.prog 3 #[.int .i64 t, .string s] w (Kept (.bool true) w) := by
  by_cases hz : 100 < s.size
  · exact back_long t s w hz
  · rcases stem_parts2 s with ⟨m, R, h1, h2, h3, h4⟩ | ⟨h1, h2⟩
    · refine back_no t s w (by omega) 0 R.1 R.2 (fun W => (read_bad s W m h1 h2 h3 R h4).mono fun _ _ ⟨he, hw⟩ => ⟨he, hw ▸ Below.refl _ _⟩) ?_
      rcases h4 with ⟨_, _, e⟩ | ⟨_, _, e⟩ <;> (rw [e]; rfl)
    · obtain ⟨T, hT⟩ := rdT_ex s h1
      have hr := fun W => read_ok s W h1 h2 T hT
      rcases hT with ⟨hb, hT⟩ | ⟨hb, t1, hT⟩ | ⟨hb, ⟨t1, t2⟩, hT⟩ | ⟨hb, t3, ⟨t1, t2⟩, hT⟩ | ⟨hb, t3, t4, hT⟩
      iterate 4
        · exact back_no t s w (by omega) T.1 T.2.1 T.2.2 hr (by rw [hT]; rfl)
      · have key := reads_bas s h2 t3 t4 hb
        rw [hT] at hr
        have hB : ∀ W, Calls Try.prog 26 #[.int .i64 (rdI s)] W (Kept (.string s) W) := fun W => by
          have := basic_yes (rdI s) W key.1
          rw [key.2] at this
          exact this
        cases hi : inW t
        · exact back_01 t s w (by omega) hi _ _ hr hB
        · exact back_11 t s w (by omega) hi _ _ hr hB
end Go.Proofs.Ytnoomlakgfdaeaa
