/- Contract of the iterator that week.Days makes, with the closure of ferialaw06.WeekShapes. -/
import Derived.Test.YtnoomlakgfdaeaaWeekG
namespace Go.Proofs.Ytnoomlakgfdaeaa
open Go.RowKit


/-- which day of its year a day is -/
def odn (n : Int) : Int := cum (dY n) (dM n) + dD n
theorem odn_eq (n : Int) : odn n = n + 719163 - eY (dY n - 1) := by
  have h := (date_ok n).2
  unfold num at h
  unfold odn
  omega
theorem next_state (n : Int) : (dD n < dim (dY n) (dM n) ∧ dM n ≤ 12 ∧ dY (n + 1) = dY n ∧ dM (n + 1) = dM n ∧ dD (n + 1) = dD n + 1 ∧ odn (n + 1) = odn n + 1) ∨
    (dim (dY n) (dM n) = dD n ∧ dM n < 12 ∧ dY (n + 1) = dY n ∧ dM (n + 1) = dM n + 1 ∧ dD (n + 1) = 1 ∧ odn (n + 1) = odn n + 1) ∨
    (dim (dY n) (dM n) = dD n ∧ dM n = 12 ∧ dY (n + 1) = dY n + 1 ∧ dM (n + 1) = 1 ∧ dD (n + 1) = 1 ∧ odn (n + 1) = 1) := by
  obtain ⟨⟨m1, m2, d1, d2⟩, h⟩ := date_ok n
  have o1 := odn_eq n
  have o2 := odn_eq (n + 1)
  rcases next_ways n with ⟨a1, a2, a3, a4⟩ | ⟨a1, a2, a3, a4, a5⟩ | ⟨a1, a2, a3, a4, a5⟩
  · rw [a2] at o2
    exact .inl ⟨a1, m2, a2, a3, a4, by omega⟩
  · rw [a3] at o2
    exact .inr (.inl ⟨a1.symm, a2, a3, a4, a5, by omega⟩)
  · refine .inr (.inr ⟨a1.symm, a2, a3, a4, a5, ?_⟩)
    have c1 := cum_one (dY (n + 1))
    unfold odn
    rw [a4, a5, c1]
    rfl

/-- what the iterator leaves -/
def DPost (F A T S M : Nat) (q t m : Int) (w : World) (e : Ending) (w' : World) : Prop := e = .returned (.tuple #[]) ∧ Sam3 F A S w w' ∧ ∃ a c : Int, YS w' F A T S M a t c m ∧ (m < c ∨ q < a)

set_option maxRecDepth 100000 in
set_option maxHeartbeats 4000000 in
theorem days1_none (F A T S M P Q : Nat) (f q t m : Int) (w : World) (hfq : q < f) (hp : w.cell? ⟨P, 0, none⟩ = some (.int .i64 f)) (hq : w.cell? ⟨Q, 0, none⟩ = some (.int .i64 q)) (hy : YS w F A T S M f t 0 m) :
    Calls Try.prog 88 #[.func (.func 63) #[] #[.pointer (some ⟨F, 0, none⟩), .pointer (some ⟨A, 0, none⟩), .pointer (some ⟨T, 0, none⟩), .pointer (some ⟨S, 0, none⟩), .pointer (some ⟨M, 0, none⟩)], .pointer (some ⟨P, 0, none⟩), .pointer (some ⟨Q, 0, none⟩)] w (DPost F A T S M q t m w) := by
  have HY := Lib.hid hy
  have g : decide (q < f) = true := decide_eq_true hfq
  have HF := Lib.hid hfq
  clear hy hfq
  go_enter Try.func88, Try.ntmps88
  go_wp2
  first | go_end0 | ((try simp only [Exit.inBlock, Exit.then]); refine bodyPost_ret (results_none rfl _ _ _) rfl ?_)
  exact ⟨rfl, Sam3.refl _ _ _ _, f, 0, HY.out, .inr HF.out⟩

set_option maxRecDepth 100000 in
set_option maxHeartbeats 8000000 in
theorem days1_some (F A T S M P Q : Nat) (f q t m : Int) (w : World) (hfq : f ≤ q) (f0 : 0 ≤ f) (q1 : q ≤ 146096) (qt : q ≤ t) (m0 : 0 ≤ m) (m1 : m ≤ 255) (hap : Apart F A T S M)
    (hp : w.cell? ⟨P, 0, none⟩ = some (.int .i64 f)) (hq : w.cell? ⟨Q, 0, none⟩ = some (.int .i64 q)) (p1 : P ≠ F) (p2 : P ≠ A) (p3 : P ≠ S) (k1 : Q ≠ F) (k2 : Q ≠ A) (k3 : Q ≠ S) (hy : YS w F A T S M f t 0 m) :
    Calls Try.prog 88 #[.func (.func 63) #[] #[.pointer (some ⟨F, 0, none⟩), .pointer (some ⟨A, 0, none⟩), .pointer (some ⟨T, 0, none⟩), .pointer (some ⟨S, 0, none⟩), .pointer (some ⟨M, 0, none⟩)], .pointer (some ⟨P, 0, none⟩), .pointer (some ⟨Q, 0, none⟩)] w (DPost F A T S M q t m w) := by
  have HM := Lib.hid (may_near f (by omega) (by omega))
  have HAP := Lib.hid hap
  have HY := Lib.hid hy
  have HQ := Lib.hid hq
  have HP := Lib.hid hp
  have bq := World.block_lt_of_cell? _ _ hq
  have bp := World.block_lt_of_cell? _ _ hp
  obtain ⟨y1, y2, mm1, mm2, d1, d2, d3⟩ := near_bd f (by omega) (by omega)
  clear hap hy d3 hq
  go_enter Try.func88, Try.ntmps88
  have hq := HQ.out
  go_wp2_with fail
  refine (date_yes f _ HM.out).mono ?_
  rintro e w1 ⟨rfl, hb1⟩
  have HB1 := Lib.hid hb1
  clear hb1
  go_wp2_with fail
  refine (ordinal_yes _ _ _ _ HM.out).mono ?_
  rintro e w2 ⟨rfl, hb2⟩
  have HB2 := Lib.hid (HB1.out.trans (hb2.mono HB1.out.size))
  have HS2 := Lib.hid (Sam3.of_below (F := F) (A := A) (S := S) HB2.out)
  have HY2 := Lib.hid (HY.out.below HB2.out)
  have hp2 : w2.cell? ⟨P, 0, none⟩ = some (.int .i64 f) := (HB2.out.cell (p := ⟨P, 0, none⟩) bp).trans HP.out
  clear hb2 hp hq
  go_wp2_with fail
  go_loopw [4, 5, 6, 8, 10] (fun y mo d o i wr => ∃ n : Int, f ≤ n ∧ n ≤ q + 1 ∧ n - f ≤ m ∧ y = .int .i64 (dY n) ∧ mo = .int .i64 (dM n) ∧ d = .int .i64 (dD n) ∧ o = .int .i64 (odn n) ∧ i = .int .i64 n ∧ Hid (Sam3 F A S w wr) ∧ Hid (YS wr F A T S M n t (n - f) m)) (fun _ _ _ _ i _ => (146098 - intOf i).toNat)
  case atStart => exact ⟨f, by omega, by omega, by omega, rfl, rfl, rfl, rfl, rfl, HS2, Lib.hid (by rw [Int.sub_self]; exact HY2.out)⟩
  case round =>
    obtain ⟨n, n1, n2, n3, rfl, rfl, rfl, rfl, rfl, HS, HYn⟩ := hrel
    have hqr : wr.cell? ⟨Q, 0, none⟩ = some (.int .i64 q) := (HS.out.cell ⟨Q, 0, none⟩ bq k1 k2 k3).trans HQ.out
    by_cases hle : n ≤ q
    · obtain ⟨x1, x2, a1, a2, b1, b2, b3⟩ := near_bd n (by omega) (by omega)
      have ob : 1 ≤ odn n ∧ odn n ≤ 400 := by have := (cum_bd (dY n) (dM n)); unfold odn; omega
      have ns := next_state n
      have hv : shA n (dY n) (dM n) (dD n) (odn n) = shV n := rfl
      have LN := Lib.hid (length_any (dY n) (dM n))
      obtain ⟨D, hD⟩ : ∃ D, D = dim (dY n) (dM n) := ⟨_, rfl⟩
      obtain ⟨y, hy⟩ : ∃ y, y = dY n := ⟨_, rfl⟩
      obtain ⟨mo, hmo⟩ : ∃ mo, mo = dM n := ⟨_, rfl⟩
      obtain ⟨d, hd⟩ : ∃ d, d = dD n := ⟨_, rfl⟩
      obtain ⟨o, ho⟩ : ∃ o, o = odn n := ⟨_, rfl⟩
      rw [← hD] at LN ns b3
      rw [← hy] at LN ns hv x1 x2
      rw [← hmo] at LN ns hv a1 a2
      rw [← hd] at ns hv b1 b2 b3
      rw [← ho] at ns hv ob
      rw [← hy, ← hmo, ← hd, ← ho]
      have HV := Lib.hid hv
      have HN := Lib.hid ns
      clear hv ns hD hy hmo hd ho
      go_wp2_with fail
      refine (shaped_any n y mo d o _ (by omega) (by omega) b1 b2).mono ?_
      rintro e w3 ⟨rfl, hb3⟩
      rw [HV.out]
      have HS3 := Lib.hid (HS.out.trans (.of_below hb3))
      have HY3 := Lib.hid (HYn.out.below hb3)
      clear hb3 hqr
      go_wp2_with fail
      refine (yield_any F A T S M n t (n - f) m _ (by omega) (by omega) (by omega) (by omega) (by omega) m0 m1 HAP.out HY3.out).mono ?_
      rintro e w4 ⟨rfl, hs4, hy4⟩
      have HS4 := Lib.hid (HS3.out.trans hs4)
      have HY4 := Lib.hid hy4
      clear hs4 hy4
      by_cases hc : n - f + 1 ≤ m
      · have g : decide (n - f + 1 ≤ m) = true := decide_eq_true hc
        rw [g]
        go_wp2_with fail
        refine (LN.out _).mono ?_
        rintro e w5 ⟨rfl, hb5⟩
        have HS5 := Lib.hid (HS4.out.trans (.of_below hb5))
        have HY5 := Lib.hid (show YS w5 F A T S M (n + 1) t (n + 1 - f) m from by
          have h := HY4.out.below hb5
          rw [show n - f + 1 = n + 1 - f by omega] at h
          exact h)
        clear hb5 g
        rcases HN.out with ⟨z1, z2, e1, e2, e3, e4⟩ | ⟨z1, z2, e1, e2, e3, e4⟩ | ⟨z1, z2, e1, e2, e3, e4⟩
        all_goals
          have E1 := Lib.hid e1
          have E2 := Lib.hid e2
          have E3 := Lib.hid e3
          have E4 := Lib.hid e4
          clear e1 e2 e3 e4
          go_wp2
          go_roundw
          case rel => exact ⟨n + 1, by omega, by omega, by omega, by rw [E1.out] <;> go_num, by rw [E2.out] <;> go_num, by rw [E3.out] <;> go_num, by rw [E4.out] <;> go_num, by go_num, HS5, HY5⟩
          case measure => simp [intOf]; omega
      · have g : decide (n - f + 1 ≤ m) = false := decide_eq_false hc
        rw [g]
        go_wp2
        first | go_end0 | ((try simp only [Exit.inBlock, Exit.then]); refine bodyPost_ret (results_none rfl _ _ _) rfl ?_)
        exact ⟨rfl, HS4.out, n + 1, n - f + 1, HY4.out, .inl (by omega)⟩
    · go_wp2
      first | go_end0 | ((try simp only [Exit.inBlock, Exit.then]); refine bodyPost_ret (results_none rfl _ _ _) rfl ?_)
      exact ⟨rfl, HS.out, n, n - f, HYn.out, .inr (by omega)⟩

theorem days1_any (F A T S M P Q : Nat) (f q t m : Int) (w : World) (f0 : 0 ≤ f) (q1 : q ≤ 146096) (qt : q ≤ t) (m0 : 0 ≤ m) (m1 : m ≤ 255) (hap : Apart F A T S M)
    (hp : w.cell? ⟨P, 0, none⟩ = some (.int .i64 f)) (hq : w.cell? ⟨Q, 0, none⟩ = some (.int .i64 q)) (p1 : P ≠ F) (p2 : P ≠ A) (p3 : P ≠ S) (k1 : Q ≠ F) (k2 : Q ≠ A) (k3 : Q ≠ S) (hy : YS w F A T S M f t 0 m) :
    Calls Try.prog 88 #[.func (.func 63) #[] #[.pointer (some ⟨F, 0, none⟩), .pointer (some ⟨A, 0, none⟩), .pointer (some ⟨T, 0, none⟩), .pointer (some ⟨S, 0, none⟩), .pointer (some ⟨M, 0, none⟩)], .pointer (some ⟨P, 0, none⟩), .pointer (some ⟨Q, 0, none⟩)] w (DPost F A T S M q t m w) := by
  by_cases h : f ≤ q
  · exact days1_some F A T S M P Q f q t m w h f0 q1 qt m0 m1 hap hp hq p1 p2 p3 k1 k2 k3 hy
  · exact days1_none F A T S M P Q f q t m w (by omega) hp hq hy
end Go.Proofs.Ytnoomlakgfdaeaa
