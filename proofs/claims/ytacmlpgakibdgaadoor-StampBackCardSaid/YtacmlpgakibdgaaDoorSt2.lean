/-
  Contracts: stamp.leap, month, ahead, span, Cmp, Between, Add.
-/
import Derived.Test.YtacmlpgakibdgaaDoorSt1
namespace Go.Proofs.YtacmlpgakibdgaaDoor
open Go.RowKit Go.Own Go.Own.Dig Go.Own.Alg

theorem ret_int {k : IntKind} {a b : Int} (h : a = b) : Ending.returned (.int k a) = .returned (.int k b) := by rw [h]

set_option maxHeartbeats 400000 in
theorem leap_any (y : Int) (w : World) (h1 : 0 ≤ y) (h2 : y ≤ 1000000) :
    Calls Tryd.prog 34 #[.int .i64 y] w fun e w' => e = .returned (.bool (decide (Cal.lp y = 1))) ∧ w = w' := by
  go_enter Tryd.func34, Tryd.ntmps34
  go_wp2
  all_goals
    go_ret
    refine ⟨ret_bool ?_, rfl⟩
    unfold Cal.lp
    rw [Bool.eq_iff_iff]
    simp
    try omega

set_option maxHeartbeats 400000 in
theorem month_any (y m : Int) (w : World) (h1 : 0 ≤ y) (h2 : y ≤ 1000000) (m1 : 1 ≤ m) (m2 : m ≤ 12) :
    Calls Tryd.prog 24 #[.int .i64 y, .int .i64 m] w fun e w' => e = .returned (.int .i64 (Cal.mlen y m)) ∧ w = w' := by
  have hlp := Cal.lp_01 y
  have hm : m = 1 ∨ m = 2 ∨ m = 3 ∨ m = 4 ∨ m = 5 ∨ m = 6 ∨ m = 7 ∨ m = 8 ∨ m = 9 ∨ m = 10 ∨ m = 11 ∨ m = 12 := by omega
  clear m1 m2
  rcases hm with rfl | rfl | rfl | rfl | rfl | rfl | rfl | rfl | rfl | rfl | rfl | rfl
  case inr.inl =>
    by_cases hl : Cal.lp y = 1
    · have HL := Lib.hid hl
      have hd : decide (Cal.lp y = 1) = true := decide_eq_true hl
      have HD := Lib.hid hd
      clear hl hd hlp
      go_enter Tryd.func24, Tryd.ntmps24
      go_wp2_with fail
      refine (leap_any y _ h1 h2).mono ?_
      rw [HD.out]
      rintro e w1 ⟨rfl, rfl⟩
      go_wp2
      go_ret
      exact ⟨ret_int (by simp [Cal.mlen, HL.out]), rfl⟩
    · have HL : Hid (Cal.lp y = 0) := Lib.hid (by omega)
      have hd : decide (Cal.lp y = 1) = false := decide_eq_false hl
      have HD := Lib.hid hd
      clear hl hd hlp
      go_enter Tryd.func24, Tryd.ntmps24
      go_wp2_with fail
      refine (leap_any y _ h1 h2).mono ?_
      rw [HD.out]
      rintro e w1 ⟨rfl, rfl⟩
      go_wp2
      go_ret
      exact ⟨ret_int (by simp [Cal.mlen, HL.out]), rfl⟩
  all_goals
    clear hlp
    go_enter Tryd.func24, Tryd.ntmps24
    go_wp2
    go_ret
    exact ⟨ret_int (by simp [Cal.mlen]), rfl⟩

set_option maxHeartbeats 400000 in
theorem ahead_any (y : Int) (w : World) (h1 : 1 ≤ y) (h2 : y ≤ 1000000) :
    Calls Tryd.prog 23 #[.int .i64 y] w fun e w' => e = .returned (.int .i64 (Cal.ahead y)) ∧ w = w' := by
  go_enter Tryd.func23, Tryd.ntmps23
  go_wp2
  go_ret
  exact ⟨ret_int (by unfold Cal.ahead; omega), rfl⟩

theorem spanN_a {s n : Int} (h1 : 0 < s + n.tdiv 1000000000) (h2 : n.tmod 1000000000 < 0) : spanN s n = (s + n.tdiv 1000000000 - 1, n.tmod 1000000000 + 1000000000) := by unfold spanN; rw [if_pos ⟨h1, h2⟩]
theorem spanN_b {s n : Int} (h1 : s + n.tdiv 1000000000 < 0) (h2 : 0 < n.tmod 1000000000) : spanN s n = (s + n.tdiv 1000000000 + 1, n.tmod 1000000000 - 1000000000) := by unfold spanN; rw [if_neg (by omega), if_pos ⟨h1, h2⟩]
theorem spanN_c {s n : Int} (h1 : ¬ (0 < s + n.tdiv 1000000000 ∧ n.tmod 1000000000 < 0)) (h2 : ¬ (s + n.tdiv 1000000000 < 0 ∧ 0 < n.tmod 1000000000)) : spanN s n = (s + n.tdiv 1000000000, n.tmod 1000000000) := by unfold spanN; rw [if_neg h1, if_neg h2]

set_option maxHeartbeats 800000 in
theorem span_any (s n : Int) (w : World) (h1 : -1000000000000000000 ≤ s) (h2 : s ≤ 1000000000000000000) (h3 : -1000000000000000000 ≤ n) (h4 : n ≤ 1000000000000000000) :
    Calls Tryd.prog 33 #[.int .i64 s, .int .i64 n] w fun e w' => e = .returned (.agg #[.int .i64 (spanN s n).1, .int .i64 (spanN s n).2]) ∧ w' = w.alloc (.cells #[.int .i64 (spanN s n).1, .int .i64 (spanN s n).2] 32) := by
  obtain ⟨t1, t2, t3, t4, t5⟩ := tdm n
  have q1 : -1000000000 ≤ n.tdiv 1000000000 := by omega
  have q2 : n.tdiv 1000000000 ≤ 1000000000 := by omega
  clear t1 t4 t5
  by_cases c1 : 0 < s + n.tdiv 1000000000 ∧ n.tmod 1000000000 < 0
  · obtain ⟨c1, c2⟩ := c1
    have HE := Lib.hid (spanN_a c1 c2)
    go_enter Tryd.func33, Tryd.ntmps33
    go_wp2
    rw [HE.out]
    exact bodyPost_ret (v := .agg #[.int .i64 (s + n.tdiv 1000000000 - 1), .int .i64 (n.tmod 1000000000 + 1000000000)]) (by simp [results, Tryd.results33, go_sem]) rfl ⟨rfl, rfl⟩
  by_cases c2 : s + n.tdiv 1000000000 < 0 ∧ 0 < n.tmod 1000000000
  · obtain ⟨c2, c3⟩ := c2
    have HE := Lib.hid (spanN_b c2 c3)
    clear c1
    go_enter Tryd.func33, Tryd.ntmps33
    go_wp2
    rw [HE.out]
    exact bodyPost_ret (v := .agg #[.int .i64 (s + n.tdiv 1000000000 + 1), .int .i64 (n.tmod 1000000000 - 1000000000)]) (by simp [results, Tryd.results33, go_sem]) rfl ⟨rfl, rfl⟩
  have HE := Lib.hid (spanN_c c1 c2)
  have HC1 := Lib.hid c1
  have HC2 := Lib.hid c2
  clear c1 c2
  go_enter Tryd.func33, Tryd.ntmps33
  go_wp2
  all_goals first
    | (exfalso; have k1 := HC1.out; have k2 := HC2.out; omega)
    | (rw [HE.out]; exact bodyPost_ret (v := .agg #[.int .i64 (s + n.tdiv 1000000000), .int .i64 (n.tmod 1000000000)]) (by simp [results, Tryd.results33, go_sem]) rfl ⟨rfl, rfl⟩)

end Go.Proofs.YtacmlpgakibdgaaDoor
