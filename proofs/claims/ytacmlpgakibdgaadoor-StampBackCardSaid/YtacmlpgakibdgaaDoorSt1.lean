/-
  Contracts: stamp.Valid, ValidSpan, span, Between, Add, Neg, Cmp.
-/
import Derived.Test.YtacmlpgakibdgaaDoorProg
import Derived.Test.YtacmlpgakibdgaaDoorBase
import Derived.Test.YtacmlpgakibdgaaDoorAlg
namespace Go.Proofs.YtacmlpgakibdgaaDoor
open Go.RowKit Go.Own Go.Own.Dig Go.Own.Alg

theorem ret_bool {a b : Bool} (h : a = b) : Ending.returned (.bool a) = .returned (.bool b) := by rw [h]

set_option maxHeartbeats 400000 in
theorem valid_any (s n : Int) (w : World) :
    Calls Tryd.prog 22 #[.agg #[.int .i64 s, .int .i64 n]] w fun e w' => e = .returned (.bool (okT s n)) ∧ w' = w.alloc (.cells #[.int .i64 s, .int .i64 n] 24) := by
  go_enter Tryd.func22, Tryd.ntmps22
  go_wp2
  all_goals
    go_ret
    refine ⟨ret_bool ?_, rfl⟩
    unfold okT
    rw [Bool.eq_iff_iff]
    simp
    try omega

set_option maxHeartbeats 400000 in
theorem validSpan_any (s n : Int) (w : World) :
    Calls Tryd.prog 20 #[.agg #[.int .i64 s, .int .i64 n]] w fun e w' => e = .returned (.bool (okS s n)) ∧ w' = w.alloc (.cells #[.int .i64 s, .int .i64 n] 32) := by
  go_enter Tryd.func20, Tryd.ntmps20
  go_wp2
  all_goals
    go_ret
    refine ⟨ret_bool ?_, rfl⟩
    unfold okS
    rw [Bool.eq_iff_iff]
    simp
    try omega


set_option maxHeartbeats 400000 in
theorem neg_any (s n : Int) (w : World) (hs : -9223372036854775807 ≤ s) (hn : -9223372036854775807 ≤ n) (hs2 : s ≤ 9223372036854775807) (hn2 : n ≤ 9223372036854775807) :
    Calls Tryd.prog 18 #[.agg #[.int .i64 s, .int .i64 n]] w fun e w' => e = .returned (.agg #[.int .i64 (if okS s n then -s else 0), .int .i64 (if okS s n then -n else 0)]) ∧ Below w.heap.size w w' := by
  cases hv : okS s n
  · have HV := Lib.hid hv; clear hv
    go_enter Tryd.func18, Tryd.ntmps18
    go_wp2_with fail
    refine (validSpan_any s n _).mono ?_
    rw [HV.out]
    rintro e w1 ⟨rfl, rfl⟩
    go_wp2
    refine bodyPost_ret (v := .agg #[.int .i64 0, .int .i64 0]) (by simp [results, Tryd.results18, go_sem]) rfl ⟨rfl, ?_⟩
    exact (((Below.refl _ _).alloc (Nat.le_refl _) _).alloc (by simp) _).alloc (by simp; omega) _
  · have HV := Lib.hid hv; clear hv
    go_enter Tryd.func18, Tryd.ntmps18
    go_wp2_with fail
    refine (validSpan_any s n _).mono ?_
    rw [HV.out]
    rintro e w1 ⟨rfl, rfl⟩
    go_wp2
    refine bodyPost_ret (v := .agg #[.int .i64 (-s), .int .i64 (-n)]) (by simp [results, Tryd.results18, go_sem]) rfl ⟨rfl, ?_⟩
    exact (((Below.refl _ _).alloc (Nat.le_refl _) _).alloc (by simp) _).alloc (by simp; omega) _
end Go.Proofs.YtacmlpgakibdgaaDoor
