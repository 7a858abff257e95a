/-
  Contracts: stamp.Cmp, Between, Add.
-/
import Derived.Test.YtacmlpgakibdgaaDoorSt2
import Derived.Lib.LaidTab
namespace Go.Proofs.YtacmlpgakibdgaaDoor
open Go.RowKit Go.Own Go.Own.Dig Go.Own.Alg

/-- The variables. -/
structure EnvS (w : World) (ev : Addr) : Prop where
  value : w.cell? ⟨0, 0, none⟩ = some (.iface 105 (.pointer (some ev)))
  tab : Lib.TabIs Tryd.prog w "internal/strconv.uint64pow10" .u64 Lib.pow10Tab
  room : 5 ≤ w.heap.size

/-- A time, or the error, as it is returned. -/
def resT (ev : Addr) : Option (Int × Int) → Value
  | some (s, n) => .tuple #[.agg #[.int .i64 s, .int .i64 n], .nilIface]
  | none => .tuple #[.agg #[.int .i64 0, .int .i64 0], .iface 105 (.pointer (some ev))]

def cmpT (s n s' n' : Int) : Int := if s = s' ∧ n = n' then 0 else if s < s' ∨ s = s' ∧ n < n' then -1 else 1

set_option maxHeartbeats 800000 in
theorem cmp_any (s n s' n' : Int) (w : World) :
    Calls Tryd.prog 14 #[.agg #[.int .i64 s, .int .i64 n], .agg #[.int .i64 s', .int .i64 n']] w fun e w' => e = .returned (.int .i64 (cmpT s n s' n')) ∧ Below w.heap.size w w' := by
  go_enter Tryd.func14, Tryd.ntmps14
  go_wp2
  all_goals
    go_ret
    refine ⟨ret_int ?_, ((Below.refl _ _).alloc (Nat.le_refl _) _).alloc (by simp) _⟩
    unfold cmpT
    try simp at *
    repeat' split
    all_goals omega

set_option maxHeartbeats 800000 in
theorem between_any (s n s' n' : Int) (w : World) (ev : Addr) (he : EnvS w ev) :
    Calls Tryd.prog 17 #[.agg #[.int .i64 s, .int .i64 n], .agg #[.int .i64 s', .int .i64 n']] w fun e w' => e = .returned (resT ev (betweenT s n s' n')) ∧ Below w.heap.size w w' := by
  have hv := he.value
  have hr := he.room
  have hz : 0 < w.heap.size := by omega
  clear he
  by_cases h1 : okT s n = true
  · have H1 := Lib.hid h1
    have b1 := of_decide_eq_true h1
    clear h1
    by_cases h2 : okT s' n' = true
    · have H2 := Lib.hid h2
      have b2 := of_decide_eq_true h2
      clear h2
      obtain ⟨x1, x2, x3, x4⟩ := b1
      obtain ⟨y1, y2, y3, y4⟩ := b2
      obtain ⟨⟨p, q⟩, hpq⟩ : ∃ x, spanN (s' - s) (n' - n) = x := ⟨_, rfl⟩
      have HX : Hid (betweenT s n s' n' = some (p, q)) := Lib.hid (by unfold betweenT; rw [if_pos ⟨H1.out, H2.out⟩, hpq])
      have HS := Lib.hid hpq
      clear hpq
      go_enter Tryd.func17, Tryd.ntmps17
      go_wp2_with fail
      refine (valid_any s n _).mono ?_
      rw [H1.out]
      rintro e w1 ⟨rfl, rfl⟩
      go_wp2_with fail
      refine (valid_any s' n' _).mono ?_
      rw [H2.out]
      rintro e w1 ⟨rfl, rfl⟩
      go_wp2_with fail
      refine (span_any (s' - s) (n' - n) _ (by omega) (by omega) (by omega) (by omega)).mono ?_
      rw [HS.out]
      rintro e w1 ⟨rfl, rfl⟩
      go_wp2
      rw [HX.out]
      exact bodyPost_ret (v := .tuple #[.agg #[.int .i64 p, .int .i64 q], .nilIface]) (by simp [results, Tryd.results17, go_sem]) rfl ⟨rfl, (by repeat (first | exact Below.refl _ _ | refine Below.drew ?_ | refine Below.alloc ?_ (by simp <;> omega) _ | refine Below.setCell ?_ (by simp <;> omega) _))⟩
    · have H2 : Hid (okT s' n' = false) := Lib.hid (by simpa using h2)
      clear h2
      have HX : Hid (betweenT s n s' n' = none) := Lib.hid (by unfold betweenT; rw [if_neg (by rw [H2.out]; simp)])
      go_enter Tryd.func17, Tryd.ntmps17
      go_wp2_with fail
      refine (valid_any s n _).mono ?_
      rw [H1.out]
      rintro e w1 ⟨rfl, rfl⟩
      go_wp2_with fail
      refine (valid_any s' n' _).mono ?_
      rw [H2.out]
      rintro e w1 ⟨rfl, rfl⟩
      go_wp2_with fail
      go_region
      go_wp2
      rw [HX.out]
      exact bodyPost_ret (v := resT ev none) (by simp [results, Tryd.results17, go_sem, resT]) rfl ⟨rfl, (by repeat (first | exact Below.refl _ _ | refine Below.drew ?_ | refine Below.alloc ?_ (by simp <;> omega) _ | refine Below.setCell ?_ (by simp <;> omega) _))⟩
  · have H1 : Hid (okT s n = false) := Lib.hid (by simpa using h1)
    clear h1
    have HX : Hid (betweenT s n s' n' = none) := Lib.hid (by unfold betweenT; rw [if_neg (by rw [H1.out]; simp)])
    go_enter Tryd.func17, Tryd.ntmps17
    go_wp2_with fail
    refine (valid_any s n _).mono ?_
    rw [H1.out]
    rintro e w1 ⟨rfl, rfl⟩
    go_wp2_with fail
    go_region
    go_wp2
    rw [HX.out]
    exact bodyPost_ret (v := resT ev none) (by simp [results, Tryd.results17, go_sem, resT]) rfl ⟨rfl, (by repeat (first | exact Below.refl _ _ | refine Below.drew ?_ | refine Below.alloc ?_ (by simp <;> omega) _ | refine Below.setCell ?_ (by simp <;> omega) _))⟩
set_option maxHeartbeats 1000000 in
theorem add_lo (s n a b : Int) (w : World) (ev : Addr) (he : EnvS w ev) (h1 : okT s n = true) (h2 : okS a b = true) (hc : n + b < 0) :
    Calls Tryd.prog 9 #[.agg #[.int .i64 s, .int .i64 n], .agg #[.int .i64 a, .int .i64 b]] w fun e w' => e = .returned (resT ev (addT s n a b)) ∧ Below w.heap.size w w' := by
  have hv := he.value
  have hr := he.room
  have hz : 0 < w.heap.size := by omega
  clear he
  have hA : addN s n a b = (s + a - 1, n + b + 1000000000) := by unfold addN; rw [if_pos hc]
  have H1 := Lib.hid h1
  have H2 := Lib.hid h2
  obtain ⟨x1, x2, x3, x4⟩ := of_decide_eq_true h1
  obtain ⟨y1, y2, y3, y4, y5, y6⟩ := of_decide_eq_true h2
  clear h1 h2 y5 y6
  cases h3 : okT (s + a - 1) (n + b + 1000000000)
  · have H3 := Lib.hid h3
    have HX : Hid (addT s n a b = none) := Lib.hid (by unfold addT; rw [hA, if_neg (by rw [h3]; simp)])
    clear h3 hA
    go_enter Tryd.func9, Tryd.ntmps9
    go_wp2_with fail
    refine (valid_any s n _).mono ?_
    rw [H1.out]
    rintro e w1 ⟨rfl, rfl⟩
    go_wp2_with fail
    refine (validSpan_any a b _).mono ?_
    rw [H2.out]
    rintro e w1 ⟨rfl, rfl⟩
    go_wp2_with fail
    refine (valid_any (s + a - 1) (n + b + 1000000000) _).mono ?_
    rw [H3.out]
    rintro e w1 ⟨rfl, rfl⟩
    go_wp2_with fail
    go_region
    go_wp2
    rw [HX.out]
    exact bodyPost_ret (v := resT ev none) (by simp [results, Tryd.results9, go_sem, resT]) rfl ⟨rfl, (by repeat (first | exact Below.refl _ _ | refine Below.drew ?_ | refine Below.alloc ?_ (by simp <;> omega) _ | refine Below.setCell ?_ (by simp <;> omega) _))⟩
  · have H3 := Lib.hid h3
    have HX : Hid (addT s n a b = some (s + a - 1, n + b + 1000000000)) := Lib.hid (by unfold addT; rw [hA, if_pos ⟨H1.out, H2.out, h3⟩])
    clear h3 hA
    go_enter Tryd.func9, Tryd.ntmps9
    go_wp2_with fail
    refine (valid_any s n _).mono ?_
    rw [H1.out]
    rintro e w1 ⟨rfl, rfl⟩
    go_wp2_with fail
    refine (validSpan_any a b _).mono ?_
    rw [H2.out]
    rintro e w1 ⟨rfl, rfl⟩
    go_wp2_with fail
    refine (valid_any (s + a - 1) (n + b + 1000000000) _).mono ?_
    rw [H3.out]
    rintro e w1 ⟨rfl, rfl⟩
    go_wp2_with fail
    rw [HX.out]
    exact bodyPost_ret (v := .tuple #[.agg #[.int .i64 (s + a - 1), .int .i64 (n + b + 1000000000)], .nilIface]) (by simp [results, Tryd.results9, go_sem]) rfl ⟨rfl, (by repeat (first | exact Below.refl _ _ | refine Below.drew ?_ | refine Below.alloc ?_ (by simp <;> omega) _ | refine Below.setCell ?_ (by simp <;> omega) _))⟩

set_option maxHeartbeats 1000000 in
theorem add_hi (s n a b : Int) (w : World) (ev : Addr) (he : EnvS w ev) (h1 : okT s n = true) (h2 : okS a b = true) (hc : 1000000000 ≤ n + b) :
    Calls Tryd.prog 9 #[.agg #[.int .i64 s, .int .i64 n], .agg #[.int .i64 a, .int .i64 b]] w fun e w' => e = .returned (resT ev (addT s n a b)) ∧ Below w.heap.size w w' := by
  have hv := he.value
  have hr := he.room
  have hz : 0 < w.heap.size := by omega
  clear he
  have hA : addN s n a b = (s + a + 1, n + b - 1000000000) := by unfold addN; rw [if_neg (by omega), if_pos hc]
  have H1 := Lib.hid h1
  have H2 := Lib.hid h2
  obtain ⟨x1, x2, x3, x4⟩ := of_decide_eq_true h1
  obtain ⟨y1, y2, y3, y4, y5, y6⟩ := of_decide_eq_true h2
  clear h1 h2 y5 y6
  cases h3 : okT (s + a + 1) (n + b - 1000000000)
  · have H3 := Lib.hid h3
    have HX : Hid (addT s n a b = none) := Lib.hid (by unfold addT; rw [hA, if_neg (by rw [h3]; simp)])
    clear h3 hA
    go_enter Tryd.func9, Tryd.ntmps9
    go_wp2_with fail
    refine (valid_any s n _).mono ?_
    rw [H1.out]
    rintro e w1 ⟨rfl, rfl⟩
    go_wp2_with fail
    refine (validSpan_any a b _).mono ?_
    rw [H2.out]
    rintro e w1 ⟨rfl, rfl⟩
    go_wp2_with fail
    refine (valid_any (s + a + 1) (n + b - 1000000000) _).mono ?_
    rw [H3.out]
    rintro e w1 ⟨rfl, rfl⟩
    go_wp2_with fail
    go_region
    go_wp2
    rw [HX.out]
    exact bodyPost_ret (v := resT ev none) (by simp [results, Tryd.results9, go_sem, resT]) rfl ⟨rfl, (by repeat (first | exact Below.refl _ _ | refine Below.drew ?_ | refine Below.alloc ?_ (by simp <;> omega) _ | refine Below.setCell ?_ (by simp <;> omega) _))⟩
  · have H3 := Lib.hid h3
    have HX : Hid (addT s n a b = some (s + a + 1, n + b - 1000000000)) := Lib.hid (by unfold addT; rw [hA, if_pos ⟨H1.out, H2.out, h3⟩])
    clear h3 hA
    go_enter Tryd.func9, Tryd.ntmps9
    go_wp2_with fail
    refine (valid_any s n _).mono ?_
    rw [H1.out]
    rintro e w1 ⟨rfl, rfl⟩
    go_wp2_with fail
    refine (validSpan_any a b _).mono ?_
    rw [H2.out]
    rintro e w1 ⟨rfl, rfl⟩
    go_wp2_with fail
    refine (valid_any (s + a + 1) (n + b - 1000000000) _).mono ?_
    rw [H3.out]
    rintro e w1 ⟨rfl, rfl⟩
    go_wp2_with fail
    rw [HX.out]
    exact bodyPost_ret (v := .tuple #[.agg #[.int .i64 (s + a + 1), .int .i64 (n + b - 1000000000)], .nilIface]) (by simp [results, Tryd.results9, go_sem]) rfl ⟨rfl, (by repeat (first | exact Below.refl _ _ | refine Below.drew ?_ | refine Below.alloc ?_ (by simp <;> omega) _ | refine Below.setCell ?_ (by simp <;> omega) _))⟩

set_option maxHeartbeats 1000000 in
theorem add_mid (s n a b : Int) (w : World) (ev : Addr) (he : EnvS w ev) (h1 : okT s n = true) (h2 : okS a b = true) (hc : 0 ≤ n + b) (hc' : n + b < 1000000000) :
    Calls Tryd.prog 9 #[.agg #[.int .i64 s, .int .i64 n], .agg #[.int .i64 a, .int .i64 b]] w fun e w' => e = .returned (resT ev (addT s n a b)) ∧ Below w.heap.size w w' := by
  have hv := he.value
  have hr := he.room
  have hz : 0 < w.heap.size := by omega
  clear he
  have hA : addN s n a b = (s + a, n + b) := by unfold addN; rw [if_neg (by omega), if_neg (by omega)]
  have H1 := Lib.hid h1
  have H2 := Lib.hid h2
  obtain ⟨x1, x2, x3, x4⟩ := of_decide_eq_true h1
  obtain ⟨y1, y2, y3, y4, y5, y6⟩ := of_decide_eq_true h2
  clear h1 h2 y5 y6
  cases h3 : okT (s + a) (n + b)
  · have H3 := Lib.hid h3
    have HX : Hid (addT s n a b = none) := Lib.hid (by unfold addT; rw [hA, if_neg (by rw [h3]; simp)])
    clear h3 hA
    go_enter Tryd.func9, Tryd.ntmps9
    go_wp2_with fail
    refine (valid_any s n _).mono ?_
    rw [H1.out]
    rintro e w1 ⟨rfl, rfl⟩
    go_wp2_with fail
    refine (validSpan_any a b _).mono ?_
    rw [H2.out]
    rintro e w1 ⟨rfl, rfl⟩
    go_wp2_with fail
    refine (valid_any (s + a) (n + b) _).mono ?_
    rw [H3.out]
    rintro e w1 ⟨rfl, rfl⟩
    go_wp2_with fail
    go_region
    go_wp2
    rw [HX.out]
    exact bodyPost_ret (v := resT ev none) (by simp [results, Tryd.results9, go_sem, resT]) rfl ⟨rfl, (by repeat (first | exact Below.refl _ _ | refine Below.drew ?_ | refine Below.alloc ?_ (by simp <;> omega) _ | refine Below.setCell ?_ (by simp <;> omega) _))⟩
  · have H3 := Lib.hid h3
    have HX : Hid (addT s n a b = some (s + a, n + b)) := Lib.hid (by unfold addT; rw [hA, if_pos ⟨H1.out, H2.out, h3⟩])
    clear h3 hA
    go_enter Tryd.func9, Tryd.ntmps9
    go_wp2_with fail
    refine (valid_any s n _).mono ?_
    rw [H1.out]
    rintro e w1 ⟨rfl, rfl⟩
    go_wp2_with fail
    refine (validSpan_any a b _).mono ?_
    rw [H2.out]
    rintro e w1 ⟨rfl, rfl⟩
    go_wp2_with fail
    refine (valid_any (s + a) (n + b) _).mono ?_
    rw [H3.out]
    rintro e w1 ⟨rfl, rfl⟩
    go_wp2_with fail
    rw [HX.out]
    exact bodyPost_ret (v := .tuple #[.agg #[.int .i64 (s + a), .int .i64 (n + b)], .nilIface]) (by simp [results, Tryd.results9, go_sem]) rfl ⟨rfl, (by repeat (first | exact Below.refl _ _ | refine Below.drew ?_ | refine Below.alloc ?_ (by simp <;> omega) _ | refine Below.setCell ?_ (by simp <;> omega) _))⟩

set_option maxHeartbeats 1000000 in
theorem add_any (s n a b : Int) (w : World) (ev : Addr) (he : EnvS w ev) :
    Calls Tryd.prog 9 #[.agg #[.int .i64 s, .int .i64 n], .agg #[.int .i64 a, .int .i64 b]] w fun e w' => e = .returned (resT ev (addT s n a b)) ∧ Below w.heap.size w w' := by
  by_cases h1 : okT s n = true
  · by_cases h2 : okS a b = true
    · by_cases c1 : n + b < 0
      · exact add_lo s n a b w ev he h1 h2 c1
      · by_cases c2 : 1000000000 ≤ n + b
        · exact add_hi s n a b w ev he h1 h2 c2
        · exact add_mid s n a b w ev he h1 h2 (by omega) (by omega)
    · have hv := he.value
      have hr := he.room
      have hz : 0 < w.heap.size := by omega
      clear he
      have H1 := Lib.hid h1
      have H2 : Hid (okS a b = false) := Lib.hid (by simpa using h2)
      clear h1 h2
      have HX : Hid (addT s n a b = none) := Lib.hid (by unfold addT; rw [if_neg (by rw [H2.out]; simp)])
      go_enter Tryd.func9, Tryd.ntmps9
      go_wp2_with fail
      refine (valid_any s n _).mono ?_
      rw [H1.out]
      rintro e w1 ⟨rfl, rfl⟩
      go_wp2_with fail
      refine (validSpan_any a b _).mono ?_
      rw [H2.out]
      rintro e w1 ⟨rfl, rfl⟩
      go_wp2_with fail
      go_region
      go_wp2
      rw [HX.out]
      exact bodyPost_ret (v := resT ev none) (by simp [results, Tryd.results9, go_sem, resT]) rfl ⟨rfl, (by repeat (first | exact Below.refl _ _ | refine Below.drew ?_ | refine Below.alloc ?_ (by simp <;> omega) _ | refine Below.setCell ?_ (by simp <;> omega) _))⟩
  · have hv := he.value
    have hr := he.room
    have hz : 0 < w.heap.size := by omega
    clear he
    have H1 : Hid (okT s n = false) := Lib.hid (by simpa using h1)
    clear h1
    have HX : Hid (addT s n a b = none) := Lib.hid (by unfold addT; rw [if_neg (by rw [H1.out]; simp)])
    go_enter Tryd.func9, Tryd.ntmps9
    go_wp2_with fail
    refine (valid_any s n _).mono ?_
    rw [H1.out]
    rintro e w1 ⟨rfl, rfl⟩
    go_wp2_with fail
    go_region
    go_wp2
    rw [HX.out]
    exact bodyPost_ret (v := resT ev none) (by simp [results, Tryd.results9, go_sem, resT]) rfl ⟨rfl, (by repeat (first | exact Below.refl _ _ | refine Below.drew ?_ | refine Below.alloc ?_ (by simp <;> omega) _ | refine Below.setCell ?_ (by simp <;> omega) _))⟩
end Go.Proofs.YtacmlpgakibdgaaDoor
