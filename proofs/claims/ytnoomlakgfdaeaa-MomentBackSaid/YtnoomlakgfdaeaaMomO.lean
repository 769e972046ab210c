/- Plain: there and back: an instant's stamp, its text in short. No program in sight. -/
import Derived.Test.YtnoomlakgfdaeaaMomM
namespace Go.Proofs.Ytnoomlakgfdaeaa
open Go.RowKit

theorem in_bd {t : Int} (h : inW t = true) : (0 ≤ t / 86400 ∧ t / 86400 < 146097) ∧ (0 ≤ t % 86400 ∧ t % 86400 < 86400) := by
  obtain ⟨h0, h1⟩ := of_decide_eq_true h
  omega
theorem jo_in {t : Int} (h : inW t = true) : joB (t / 86400) (t % 86400) = true := by
  have := in_bd h
  exact decide_eq_true ⟨this.1.1, this.1.2, this.2.1, this.2.2⟩
theorem of_in {t : Int} (h : inW t = true) : ofB (dY (t / 86400)) (dM (t / 86400)) (dD (t / 86400)) (t % 86400 / 3600) (t % 86400 / 60 % 60) (t % 86400 % 60) = true ∧
    ofI (dY (t / 86400)) (dM (t / 86400)) (dD (t / 86400)) (t % 86400 / 3600) (t % 86400 / 60 % 60) (t % 86400 % 60) = t := by
  have hb := in_bd h
  have hm := may_near (t / 86400) (by omega) (by omega)
  have hn := (date_ok (t / 86400)).2
  have ht : todB (t % 86400 / 3600) (t % 86400 / 60 % 60) (t % 86400 % 60) = true := decide_eq_true (by omega)
  unfold ofB ofI
  rw [hm, ht, hn]
  have e : t % 86400 / 3600 * 3600 + t % 86400 / 60 % 60 * 60 + t % 86400 % 60 = t % 86400 := by omega
  rw [e, jo_in h]
  exact ⟨rfl, by omega⟩

theorem isD_bt {x : Int} (h0 : 0 ≤ x) (h1 : x ≤ 9) : isD (bt (48 + x)) := by
  have := bt_nat (x := 48 + x) (by omega) (by omega)
  unfold isD
  omega
theorem at_list (s : ByteArray) (k : Nat) (h : k < s.size) : s.data.toList[k]? = some s[k] := by
  rw [List.getElem?_eq_getElem (by simpa using h)]
  rfl
theorem prt_of {s : ByteArray} {l : List UInt8} (hl : s.data.toList = l) (a b : Nat) : prt s a b = nm ((l.take b).drop a) := by
  unfold prt
  rw [ext_list, hl]
theorem bas_form (t : Int) : (basT t).data.toList = d4 (dY (t / 86400)) ++ (d2 (dM (t / 86400)) ++ (d2 (dD (t / 86400)) ++ (84 :: (d2 (t % 86400 / 3600) ++ (d2 (t % 86400 / 60 % 60) ++ (d2 (t % 86400 % 60) ++ [90])))))) := by
  rw [← bas_list, ByteArray.toList_eq]
theorem lng_size (t : Int) : (lngT t).size = 19 := by
  have h := lng_list t
  rw [ByteArray.toList_eq] at h
  have e : (lngT t).size = (lngT t).data.toList.length := by simp
  rw [e, h]
  rfl
theorem bas_size (t : Int) : (basT t).size = 16 := by
  have h := bas_form t
  have e : (basT t).size = (basT t).data.toList.length := by simp
  rw [e, h]
  rfl
theorem okS_of {s : ByteArray} {j : Nat} {c : UInt8} (h : s.data.toList[j]? = some c) (hc : okC j c) : okS s j := fun hj => by
  rw [at_list s j hj] at h
  injection h with h
  rw [h]
  exact hc

theorem bas_reads (t : Int) (h : inW t = true) : (∀ j, j < 15 → okS (basT t) j) ∧ RdT (basT t) (t, 16, 0) := by
  have hb := in_bd h
  have yb := year_bd (t / 86400) (by omega) (by omega)
  obtain ⟨x1, x2, m1, m2, d1, d2', x3⟩ := near_bd (t / 86400) (by omega) (by omega)
  have ho := of_in h
  have hl := bas_form t
  have hz := bas_size t
  obtain ⟨s, hs⟩ : ∃ s, s = basT t := ⟨_, rfl⟩
  rw [← hs] at hl hz ⊢
  obtain ⟨Y, hY⟩ : ∃ x, x = dY (t / 86400) := ⟨_, rfl⟩
  obtain ⟨M, hM⟩ : ∃ x, x = dM (t / 86400) := ⟨_, rfl⟩
  obtain ⟨D, hD⟩ : ∃ x, x = dD (t / 86400) := ⟨_, rfl⟩
  obtain ⟨H, hH⟩ : ∃ x, x = t % 86400 / 3600 := ⟨_, rfl⟩
  obtain ⟨Mi, hMi⟩ : ∃ x, x = t % 86400 / 60 % 60 := ⟨_, rfl⟩
  obtain ⟨S, hS⟩ : ∃ x, x = t % 86400 % 60 := ⟨_, rfl⟩
  have q1 : 0 ≤ H ∧ H ≤ 23 := by omega
  have q2 : 0 ≤ Mi ∧ Mi ≤ 59 := by omega
  have q3 : 0 ≤ S ∧ S ≤ 59 := by omega
  rw [← hY, ← hM, ← hD, ← hH, ← hMi, ← hS] at hl ho
  rw [← hY] at yb
  rw [← hM] at m1 m2
  rw [← hD] at d1 d2'
  clear hY hM hD hH hMi hS x1 x2 x3 hs
  have p0 : prt s 0 4 = Y := (prt_of hl 0 4).trans (nm_d4 (by omega) (by omega))
  have p1 : prt s 4 6 = M := (prt_of hl 4 6).trans (nm_d2 (by omega) (by omega))
  have p2 : prt s 6 8 = D := (prt_of hl 6 8).trans (nm_d2 (by omega) (by omega))
  have p3 : prt s 9 11 = H := (prt_of hl 9 11).trans (nm_d2 (by omega) (by omega))
  have p4 : prt s 11 13 = Mi := (prt_of hl 11 13).trans (nm_d2 (by omega) (by omega))
  have p5 : prt s 13 15 = S := (prt_of hl 13 15).trans (nm_d2 (by omega) (by omega))
  have hB : rdB s = true := by unfold rdB; rw [p0, p1, p2, p3, p4, p5]; exact ho.1
  have hI : rdI s = t := by unfold rdI; rw [p0, p1, p2, p3, p4, p5]; exact ho.2
  constructor
  · intro j hj
    match j, hj with
    | 0, _ => exact okS_of (by rw [hl]; rfl) (.inr ⟨by decide, isD_bt (by omega) (by omega)⟩)
    | 1, _ => exact okS_of (by rw [hl]; rfl) (.inr ⟨by decide, isD_bt (by omega) (by omega)⟩)
    | 2, _ => exact okS_of (by rw [hl]; rfl) (.inr ⟨by decide, isD_bt (by omega) (by omega)⟩)
    | 3, _ => exact okS_of (by rw [hl]; rfl) (.inr ⟨by decide, isD_bt (x := Y % 10) (by omega) (by omega)⟩)
    | 4, _ => exact okS_of (by rw [hl]; rfl) (.inr ⟨by decide, isD_bt (x := M / 10 % 10) (by omega) (by omega)⟩)
    | 5, _ => exact okS_of (by rw [hl]; rfl) (.inr ⟨by decide, isD_bt (x := M % 10) (by omega) (by omega)⟩)
    | 6, _ => exact okS_of (by rw [hl]; rfl) (.inr ⟨by decide, isD_bt (x := D / 10 % 10) (by omega) (by omega)⟩)
    | 7, _ => exact okS_of (by rw [hl]; rfl) (.inr ⟨by decide, isD_bt (x := D % 10) (by omega) (by omega)⟩)
    | 8, _ => exact okS_of (by rw [hl]; rfl) (.inl ⟨rfl, rfl⟩)
    | 9, _ => exact okS_of (by rw [hl]; rfl) (.inr ⟨by decide, isD_bt (x := H / 10 % 10) (by omega) (by omega)⟩)
    | 10, _ => exact okS_of (by rw [hl]; rfl) (.inr ⟨by decide, isD_bt (x := H % 10) (by omega) (by omega)⟩)
    | 11, _ => exact okS_of (by rw [hl]; rfl) (.inr ⟨by decide, isD_bt (x := Mi / 10 % 10) (by omega) (by omega)⟩)
    | 12, _ => exact okS_of (by rw [hl]; rfl) (.inr ⟨by decide, isD_bt (x := Mi % 10) (by omega) (by omega)⟩)
    | 13, _ => exact okS_of (by rw [hl]; rfl) (.inr ⟨by decide, isD_bt (x := S / 10 % 10) (by omega) (by omega)⟩)
    | 14, _ => exact okS_of (by rw [hl]; rfl) (.inr ⟨by decide, isD_bt (x := S % 10) (by omega) (by omega)⟩)
  · refine .inr (.inr (.inr (.inr ⟨hB, hz, ⟨by omega, ?_⟩, by rw [hI]⟩)))
    have := at_list s 15 (by omega)
    rw [hl] at this
    have h15 : some (90 : UInt8) = some s[15] := this
    injection h15 with h15
    rw [← h15]
    rfl

theorem reads_bas (s : ByteArray) (hall : ∀ j, j < 15 → okS s j) (hz : s.size = 16) (h90 : ∃ h : 15 < s.size, s[15].toNat = 90) (hB : rdB s = true) : inW (rdI s) = true ∧ basT (rdI s) = s := by
  obtain ⟨c0, c1, c2, c3, c4, c5, c6, c7, c8, c9, c10, c11, c12, c13, c14, c15, hl⟩ := sixteen s.data.toList (by simpa using hz)
  have ok : ∀ j c, s.data.toList[j]? = some c → j < 15 → okC j c := fun j c h hj => by
    have hs : j < s.size := by omega
    rw [at_list s j hs] at h
    injection h with h
    rw [← h]
    exact hall j hj hs
  have dg : ∀ j c, s.data.toList[j]? = some c → j < 15 → j ≠ 8 → isD c := fun j c h hj h8 => by
    rcases ok j c h hj with ⟨e, _⟩ | ⟨_, e⟩
    · exact absurd e h8
    · exact e
  have k0 := dg 0 c0 (by rw [hl]; rfl) (by omega) (by omega)
  have k1 := dg 1 c1 (by rw [hl]; rfl) (by omega) (by omega)
  have k2 := dg 2 c2 (by rw [hl]; rfl) (by omega) (by omega)
  have k3 := dg 3 c3 (by rw [hl]; rfl) (by omega) (by omega)
  have k4 := dg 4 c4 (by rw [hl]; rfl) (by omega) (by omega)
  have k5 := dg 5 c5 (by rw [hl]; rfl) (by omega) (by omega)
  have k6 := dg 6 c6 (by rw [hl]; rfl) (by omega) (by omega)
  have k7 := dg 7 c7 (by rw [hl]; rfl) (by omega) (by omega)
  have k9 := dg 9 c9 (by rw [hl]; rfl) (by omega) (by omega)
  have k10 := dg 10 c10 (by rw [hl]; rfl) (by omega) (by omega)
  have k11 := dg 11 c11 (by rw [hl]; rfl) (by omega) (by omega)
  have k12 := dg 12 c12 (by rw [hl]; rfl) (by omega) (by omega)
  have k13 := dg 13 c13 (by rw [hl]; rfl) (by omega) (by omega)
  have k14 := dg 14 c14 (by rw [hl]; rfl) (by omega) (by omega)
  have k8 : c8 = 84 := by
    rcases ok 8 c8 (by rw [hl]; rfl) (by omega) with ⟨_, e⟩ | ⟨e, _⟩
    · exact UInt8.toNat_inj.1 e
    · exact absurd rfl e
  have k15 : c15 = 90 := by
    obtain ⟨h, e⟩ := h90
    have := at_list s 15 h
    rw [hl] at this
    have h15 : some c15 = some s[15] := this
    injection h15 with h15
    rw [← h15] at e
    exact UInt8.toNat_inj.1 e
  have p0 : prt s 0 4 = nm [c0, c1, c2, c3] := prt_of hl 0 4
  have p1 : prt s 4 6 = nm [c4, c5] := prt_of hl 4 6
  have p2 : prt s 6 8 = nm [c6, c7] := prt_of hl 6 8
  have p3 : prt s 9 11 = nm [c9, c10] := prt_of hl 9 11
  have p4 : prt s 11 13 = nm [c11, c12] := prt_of hl 11 13
  have p5 : prt s 13 15 = nm [c13, c14] := prt_of hl 13 15
  unfold rdB at hB
  have hI : rdI s = ofI (prt s 0 4) (prt s 4 6) (prt s 6 8) (prt s 9 11) (prt s 11 13) (prt s 13 15) := rfl
  rw [p0, p1, p2, p3, p4, p5] at hB hI
  obtain ⟨u, hu⟩ : ∃ u, u = rdI s := ⟨_, rfl⟩
  rw [← hu] at hI ⊢
  obtain ⟨Y, hY⟩ : ∃ x, x = nm [c0, c1, c2, c3] := ⟨_, rfl⟩
  obtain ⟨M, hM⟩ : ∃ x, x = nm [c4, c5] := ⟨_, rfl⟩
  obtain ⟨D, hD⟩ : ∃ x, x = nm [c6, c7] := ⟨_, rfl⟩
  obtain ⟨H, hH⟩ : ∃ x, x = nm [c9, c10] := ⟨_, rfl⟩
  obtain ⟨Mi, hMi⟩ : ∃ x, x = nm [c11, c12] := ⟨_, rfl⟩
  obtain ⟨S, hS⟩ : ∃ x, x = nm [c13, c14] := ⟨_, rfl⟩
  rw [← hY, ← hM, ← hD, ← hH, ← hMi, ← hS] at hB hI
  unfold ofB at hB
  simp only [Bool.and_eq_true] at hB
  obtain ⟨b1, b2, b3⟩ := hB
  have b2' := of_decide_eq_true b2
  have b3' := of_decide_eq_true b3
  have dt := date_of (may_ok b1).1
  unfold ofI at hI
  obtain ⟨N, hN⟩ : ∃ N, N = num Y M D := ⟨_, rfl⟩
  rw [← hN] at dt hI b3'
  have e1 : u / 86400 = N := by omega
  have e2 : u % 86400 / 3600 = H := by omega
  have e3 : u % 86400 / 60 % 60 = Mi := by omega
  have e4 : u % 86400 % 60 = S := by omega
  refine ⟨decide_eq_true (by omega), ?_⟩
  apply ByteArray.ext
  apply Array.toList_inj.1
  rw [bas_form, e2, e3, e4, e1, ← dt.1, ← dt.2.1, ← dt.2.2, hY, hM, hD, hH, hMi, hS, d4_nm k0 k1 k2 k3, d2_nm k4 k5, d2_nm k6 k7, d2_nm k9 k10, d2_nm k11 k12, d2_nm k13 k14, hl, k8, k15]
  rfl
end Go.Proofs.Ytnoomlakgfdaeaa
