/- Contracts: the reference's Long, Basic. -/
import Derived.Test.YtnoomlakgfdaeaaMomF
import Derived.Test.YtnoomlakgfdaeaaMomL
namespace Go.Proofs.Ytnoomlakgfdaeaa
open Go.RowKit

theorem ba_ext {a b : ByteArray} (h : a.toList = b.toList) : a = b := by
  rw [ByteArray.toList_eq, ByteArray.toList_eq] at h
  exact ByteArray.ext (Array.toList_inj.1 h)
theorem lngT_eq (t : Int) : D4 (dY (t / 86400)) ++ ⟨#[45]⟩ ++ D2 (dM (t / 86400)) ++ ⟨#[45]⟩ ++ D2 (dD (t / 86400)) ++ ⟨#[32]⟩ ++ D2 (t % 86400 / 3600) ++ ⟨#[58]⟩ ++ D2 (t % 86400 / 60 % 60) ++ ⟨#[58]⟩ ++ D2 (t % 86400 % 60) = lngT t := by
  apply ba_ext
  rw [lng_list, ByteArray.toList_eq]
  simp only [ByteArray.data_append, Array.toList_append, D2_list, D4_list]
  simp
theorem basT_eq (t : Int) : D4 (dY (t / 86400)) ++ D2 (dM (t / 86400)) ++ D2 (dD (t / 86400)) ++ ⟨#[84]⟩ ++ D2 (t % 86400 / 3600) ++ D2 (t % 86400 / 60 % 60) ++ D2 (t % 86400 % 60) ++ ⟨#[90]⟩ = basT t := by
  apply ba_ext
  rw [bas_list, ByteArray.toList_eq]
  simp only [ByteArray.data_append, Array.toList_append, D2_list, D4_list]
  simp

set_option maxHeartbeats 4000000 in
theorem rlong_any (t : Int) (w : World) (h : inW t = true) : Calls Try.prog 69 #[.int .i64 t] w (Kept (.string (lngT t)) w) := by
  obtain ⟨h0, h1⟩ := of_decide_eq_true h
  have yb := year_bd (t / 86400) (by omega) (by omega)
  obtain ⟨x1, x2, m1, m2, d1, d2, x3⟩ := near_bd (t / 86400) (by omega) (by omega)
  clear x1 x2 x3
  have hE := lngT_eq t
  have hst : stV t = stA (dY (t / 86400)) (dM (t / 86400)) (dD (t / 86400)) (t % 86400 / 3600) (t % 86400 / 60 % 60) (t % 86400 % 60) := rfl
  obtain ⟨y, hy⟩ : ∃ y, y = dY (t / 86400) := ⟨_, rfl⟩
  obtain ⟨m, hm⟩ : ∃ m, m = dM (t / 86400) := ⟨_, rfl⟩
  obtain ⟨d, hd⟩ : ∃ d, d = dD (t / 86400) := ⟨_, rfl⟩
  obtain ⟨a, ha⟩ : ∃ a, a = t % 86400 / 3600 := ⟨_, rfl⟩
  obtain ⟨b, hb⟩ : ∃ b, b = t % 86400 / 60 % 60 := ⟨_, rfl⟩
  obtain ⟨c, hc⟩ : ∃ c, c = t % 86400 % 60 := ⟨_, rfl⟩
  have a1 : 0 ≤ a ∧ a ≤ 23 := by omega
  have b1 : 0 ≤ b ∧ b ≤ 59 := by omega
  have c1 : 0 ≤ c ∧ c ≤ 59 := by omega
  rw [← hy, ← hm, ← hd, ← ha, ← hb, ← hc] at hst hE
  rw [← hy] at yb
  rw [← hm] at m1 m2
  rw [← hd] at d1 d2
  have HST := Lib.hid hst
  have H := Lib.hid h
  obtain ⟨ty, hty⟩ : ∃ x, x = D4 y := ⟨_, rfl⟩
  obtain ⟨tm, htm⟩ : ∃ x, x = D2 m := ⟨_, rfl⟩
  obtain ⟨td, htd⟩ : ∃ x, x = D2 d := ⟨_, rfl⟩
  obtain ⟨ta, hta⟩ : ∃ x, x = D2 a := ⟨_, rfl⟩
  obtain ⟨tb, htb⟩ : ∃ x, x = D2 b := ⟨_, rfl⟩
  obtain ⟨tc, htc⟩ : ∃ x, x = D2 c := ⟨_, rfl⟩
  have zy : ty.size = 4 := by rw [hty, D4_size]
  have zm : tm.size = 2 := by rw [htm, D2_size]
  have zd : td.size = 2 := by rw [htd, D2_size]
  have za : ta.size = 2 := by rw [hta, D2_size]
  have zb : tb.size = 2 := by rw [htb, D2_size]
  have zc : tc.size = 2 := by rw [htc, D2_size]
  rw [← hty, ← htm, ← htd, ← hta, ← htb, ← htc] at hE
  have HE := Lib.hid hE
  have HTY := Lib.hid hty
  have HTM := Lib.hid htm
  have HTD := Lib.hid htd
  have HTA := Lib.hid hta
  have HTB := Lib.hid htb
  have HTC := Lib.hid htc
  clear h hst hy hm hd ha hb hc hE hty htm htd hta htb htc
  go_enter Try.func69, Try.ntmps69
  go_wp2_with fail
  refine (rstamp_any _ _ H.out).mono ?_
  rintro e w1 ⟨rfl, hb⟩
  rw [HST.out]
  unfold stA
  have hS : Below w.heap.size w (w1.alloc (.cells #[.int .i64 y, .int .i64 m, .int .i64 d, .int .i64 a, .int .i64 b, .int .i64 c] 29)).drew := (hb.alloc hb.size _).drew
  have HB := Lib.hid hS
  clear hb hS
  go_wp2_with fail
  go_region_held3 (fun w' => Below w.heap.size w w' ∧ w'.cell? ⟨w1.heap.size, 0, none⟩ = some (.int .i64 y) ∧ w'.cell? ⟨w1.heap.size, 1, none⟩ = some (.int .i64 m) ∧ w'.cell? ⟨w1.heap.size, 2, none⟩ = some (.int .i64 d) ∧ w'.cell? ⟨w1.heap.size, 3, none⟩ = some (.int .i64 a) ∧ w'.cell? ⟨w1.heap.size, 4, none⟩ = some (.int .i64 b) ∧ w'.cell? ⟨w1.heap.size, 5, none⟩ = some (.int .i64 c))
    (first | exact ⟨HB.out, by go_simp, by go_simp, by go_simp, by go_simp, by go_simp, by go_simp⟩ | exact keepS hb2 (by assumption))
    (first
      | (go_at_call 91; first
          | ((with_reducible refine (rdig_four y _ (by omega) (by omega)).mono ?_); rintro e w2 ⟨rfl, hb2⟩; rw [← HTY.out])
          | ((with_reducible refine (rdig_two m _ (by omega) (by omega)).mono ?_); rintro e w2 ⟨rfl, hb2⟩; rw [← HTM.out])
          | ((with_reducible refine (rdig_two d _ (by omega) (by omega)).mono ?_); rintro e w2 ⟨rfl, hb2⟩; rw [← HTD.out])
          | ((with_reducible refine (rdig_two a _ (by omega) (by omega)).mono ?_); rintro e w2 ⟨rfl, hb2⟩; rw [← HTA.out])
          | ((with_reducible refine (rdig_two b _ (by omega) (by omega)).mono ?_); rintro e w2 ⟨rfl, hb2⟩; rw [← HTB.out])
          | ((with_reducible refine (rdig_two c _ (by omega) (by omega)).mono ?_); rintro e w2 ⟨rfl, hb2⟩; rw [← HTC.out])))
  rename_i hh
  have HF := Lib.hid hh.1
  clear hh zy zm zd za zb zc
  go_wp2
  go_ret
  exact ⟨ret_val (congrArg Value.string HE.out), HF.out⟩

set_option maxHeartbeats 4000000 in
theorem rbasic_any (t : Int) (w : World) (h : inW t = true) : Calls Try.prog 70 #[.int .i64 t] w (Kept (.string (basT t)) w) := by
  obtain ⟨h0, h1⟩ := of_decide_eq_true h
  have yb := year_bd (t / 86400) (by omega) (by omega)
  obtain ⟨x1, x2, m1, m2, d1, d2, x3⟩ := near_bd (t / 86400) (by omega) (by omega)
  clear x1 x2 x3
  have hE := basT_eq t
  have hst : stV t = stA (dY (t / 86400)) (dM (t / 86400)) (dD (t / 86400)) (t % 86400 / 3600) (t % 86400 / 60 % 60) (t % 86400 % 60) := rfl
  obtain ⟨y, hy⟩ : ∃ y, y = dY (t / 86400) := ⟨_, rfl⟩
  obtain ⟨m, hm⟩ : ∃ m, m = dM (t / 86400) := ⟨_, rfl⟩
  obtain ⟨d, hd⟩ : ∃ d, d = dD (t / 86400) := ⟨_, rfl⟩
  obtain ⟨a, ha⟩ : ∃ a, a = t % 86400 / 3600 := ⟨_, rfl⟩
  obtain ⟨b, hb⟩ : ∃ b, b = t % 86400 / 60 % 60 := ⟨_, rfl⟩
  obtain ⟨c, hc⟩ : ∃ c, c = t % 86400 % 60 := ⟨_, rfl⟩
  have a1 : 0 ≤ a ∧ a ≤ 23 := by omega
  have b1 : 0 ≤ b ∧ b ≤ 59 := by omega
  have c1 : 0 ≤ c ∧ c ≤ 59 := by omega
  rw [← hy, ← hm, ← hd, ← ha, ← hb, ← hc] at hst hE
  rw [← hy] at yb
  rw [← hm] at m1 m2
  rw [← hd] at d1 d2
  have HST := Lib.hid hst
  have H := Lib.hid h
  obtain ⟨ty, hty⟩ : ∃ x, x = D4 y := ⟨_, rfl⟩
  obtain ⟨tm, htm⟩ : ∃ x, x = D2 m := ⟨_, rfl⟩
  obtain ⟨td, htd⟩ : ∃ x, x = D2 d := ⟨_, rfl⟩
  obtain ⟨ta, hta⟩ : ∃ x, x = D2 a := ⟨_, rfl⟩
  obtain ⟨tb, htb⟩ : ∃ x, x = D2 b := ⟨_, rfl⟩
  obtain ⟨tc, htc⟩ : ∃ x, x = D2 c := ⟨_, rfl⟩
  have zy : ty.size = 4 := by rw [hty, D4_size]
  have zm : tm.size = 2 := by rw [htm, D2_size]
  have zd : td.size = 2 := by rw [htd, D2_size]
  have za : ta.size = 2 := by rw [hta, D2_size]
  have zb : tb.size = 2 := by rw [htb, D2_size]
  have zc : tc.size = 2 := by rw [htc, D2_size]
  rw [← hty, ← htm, ← htd, ← hta, ← htb, ← htc] at hE
  have HE := Lib.hid hE
  have HTY := Lib.hid hty
  have HTM := Lib.hid htm
  have HTD := Lib.hid htd
  have HTA := Lib.hid hta
  have HTB := Lib.hid htb
  have HTC := Lib.hid htc
  clear h hst hy hm hd ha hb hc hE hty htm htd hta htb htc
  go_enter Try.func70, Try.ntmps70
  go_wp2_with fail
  refine (rstamp_any _ _ H.out).mono ?_
  rintro e w1 ⟨rfl, hb⟩
  rw [HST.out]
  unfold stA
  have hS : Below w.heap.size w (w1.alloc (.cells #[.int .i64 y, .int .i64 m, .int .i64 d, .int .i64 a, .int .i64 b, .int .i64 c] 29)).drew := (hb.alloc hb.size _).drew
  have HB := Lib.hid hS
  clear hb hS
  go_wp2_with fail
  go_region_held3 (fun w' => Below w.heap.size w w' ∧ w'.cell? ⟨w1.heap.size, 0, none⟩ = some (.int .i64 y) ∧ w'.cell? ⟨w1.heap.size, 1, none⟩ = some (.int .i64 m) ∧ w'.cell? ⟨w1.heap.size, 2, none⟩ = some (.int .i64 d) ∧ w'.cell? ⟨w1.heap.size, 3, none⟩ = some (.int .i64 a) ∧ w'.cell? ⟨w1.heap.size, 4, none⟩ = some (.int .i64 b) ∧ w'.cell? ⟨w1.heap.size, 5, none⟩ = some (.int .i64 c))
    (first | exact ⟨HB.out, by go_simp, by go_simp, by go_simp, by go_simp, by go_simp, by go_simp⟩ | exact keepS hb2 (by assumption))
    (first
      | (go_at_call 91; first
          | ((with_reducible refine (rdig_four y _ (by omega) (by omega)).mono ?_); rintro e w2 ⟨rfl, hb2⟩; rw [← HTY.out])
          | ((with_reducible refine (rdig_two m _ (by omega) (by omega)).mono ?_); rintro e w2 ⟨rfl, hb2⟩; rw [← HTM.out])
          | ((with_reducible refine (rdig_two d _ (by omega) (by omega)).mono ?_); rintro e w2 ⟨rfl, hb2⟩; rw [← HTD.out])
          | ((with_reducible refine (rdig_two a _ (by omega) (by omega)).mono ?_); rintro e w2 ⟨rfl, hb2⟩; rw [← HTA.out])
          | ((with_reducible refine (rdig_two b _ (by omega) (by omega)).mono ?_); rintro e w2 ⟨rfl, hb2⟩; rw [← HTB.out])
          | ((with_reducible refine (rdig_two c _ (by omega) (by omega)).mono ?_); rintro e w2 ⟨rfl, hb2⟩; rw [← HTC.out])))
  rename_i hh
  have HF := Lib.hid hh.1
  clear hh zy zm zd za zb zc
  go_wp2
  go_ret
  exact ⟨ret_val (congrArg Value.string HE.out), HF.out⟩

end Go.Proofs.Ytnoomlakgfdaeaa
