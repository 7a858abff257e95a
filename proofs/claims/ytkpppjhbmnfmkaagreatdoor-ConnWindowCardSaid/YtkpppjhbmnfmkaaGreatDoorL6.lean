/-
  Contracts: conn.New where it refuses; the walk of ConnStarts.
-/
import Derived.Test.YtkpppjhbmnfmkaaGreatDoorJu
import Derived.LaidEql
import Derived.BigQuiet
set_option linter.unusedSimpArgs false
set_option linter.unusedVariables false
namespace Go.Proofs.YtkpppjhbmnfmkaaGreatDoor
open Go.RowKit Go.Own Go.Own.Im Go.Own.Cx Go.Own.Fr Go.Own.Hd
/-- What the walk reads of package-level variables. -/
structure EnvS (w : World) (a1 a2 : Addr) : Prop where
  wd : EnvW w
  role : w.cell? ⟨1, 0, none⟩ = some (.iface 327 (.pointer (some a1)))
  num : w.cell? ⟨2, 0, none⟩ = some (.iface 327 (.pointer (some a2)))
theorem EnvS.below {w w' : World} {a1 a2 : Addr} (h : EnvS w a1 a2) (hb : Below w.heap.size w w') : EnvS w' a1 a2 :=
  ⟨h.wd.below hb, (hb.cell (p := ⟨1, 0, none⟩) (Nat.lt_of_lt_of_le (by decide : 1 < 20) h.wd.room)).trans h.role, (hb.cell (p := ⟨2, 0, none⟩) (Nat.lt_of_lt_of_le (by decide : 2 < 20) h.wd.room)).trans h.num⟩
theorem eql_same (a : Addr) (w : World) : (binOp .eql 28 (.iface 327 (.pointer (some a))) (.iface 327 (.pointer (some a)))).run Tryz.prog w = .ok (.bool true) w := by
  obtain ⟨i, hi, hcmp⟩ := Option.map_eq_some_iff.1 (show (Tryz.prog.info? 327).map (·.comparable) = some true by kernel_rfl)
  obtain ⟨j, hj, hjs⟩ := Option.map_eq_some_iff.1 (show (Tryz.prog.info? 329).map (·.size) = some 1 by kernel_rfl)
  exact run_eql_iface_ptr_same (P := Tryz.prog) w a Tryz.underlying28 Tryz.underlying327 hi hcmp hj
set_option maxHeartbeats 4000000 in
set_option maxRecDepth 100000 in
/-- A role that there is not. -/
theorem new_role (w : World) (side cw cs : Int) {a1 a2 : Addr} (hE : EnvS w a1 a2) (h1 : side ≠ 1) (h2 : side ≠ 2) :
    Calls Tryz.prog 9 #[.int .i64 side, .agg #[.int .i64 cw, .int .i64 cs]] w fun e w' => e = .returned (.tuple #[.pointer none, .iface 327 (.pointer (some a1))]) ∧ Below w.heap.size w w' := by
  have k1 : (side != 1) = true := by simpa using h1
  have k2 : (side != 2) = true := by simpa using h2
  have HB0 := Lib.hid ((Below.refl w.heap.size w).alloc (Nat.le_refl _) (.cells #[.int .i64 cw, .int .i64 cs] 32))
  have he0 := (hE.below HB0.out).role
  clear h1 h2
  go_enter Tryz.func9, Tryz.ntmps9
  go_upto_region 1 with fail
  generalize w.alloc (.cells #[.int .i64 cw, .int .i64 cs] 32) = W0 at *
  go_wp2_with fail
  go_quiet (fail)
  go_wp2
  go_ret2
  exact ⟨rfl, below_drewN HB0.out _⟩
/-- May a config not be? -/
def badC (cw cs : Int) : Prop := cw < 0 ∨ 2147483647 < cw ∨ cs < 0 ∨ 100 < cs
set_option maxHeartbeats 8000000 in
set_option maxRecDepth 100000 in
/-- A config that may not be. -/
theorem new_number (w : World) (side cw cs : Int) {a1 a2 : Addr} (hE : EnvS w a1 a2) (hs : side = 1 ∨ side = 2) (hb : badC cw cs) :
    Calls Tryz.prog 9 #[.int .i64 side, .agg #[.int .i64 cw, .int .i64 cs]] w fun e w' => e = .returned (.tuple #[.pointer none, .iface 327 (.pointer (some a2))]) ∧ Below w.heap.size w w' := by
  have HB0 := Lib.hid ((Below.refl w.heap.size w).alloc (Nat.le_refl _) (.cells #[.int .i64 cw, .int .i64 cs] 32))
  have HX := Lib.hid (Blk.new w 32 #[.int .i64 cw, .int .i64 cs])
  have he0 := (hE.below HB0.out).num
  have k : (cw < 0) = True ∨ ((cw < 0) = False ∧ (2147483647 < cw) = True) ∨ ((cw < 0) = False ∧ (2147483647 < cw) = False ∧ (cs < 0) = True) ∨ ((cw < 0) = False ∧ (2147483647 < cw) = False ∧ (cs < 0) = False ∧ (100 < cs) = True) := by
    unfold badC at hb
    simp only [eq_iff_iff, iff_true, iff_false]
    omega
  clear hb
  rcases hs with rfl | rfl <;> rcases k with k1 | ⟨k1, k2⟩ | ⟨k1, k2, k3⟩ | ⟨k1, k2, k3, k4⟩
  all_goals
    go_enter Tryz.func9, Tryz.ntmps9
    go_upto_region 1 with fail
    generalize w.alloc (.cells #[.int .i64 cw, .int .i64 cs] 32) = W0 at *
    have x0 : W0.cell? ⟨w.heap.size, 0, none⟩ = some (.int .i64 cw) := HX.out.cell 0
    have x1 : W0.cell? ⟨w.heap.size, 1, none⟩ = some (.int .i64 cs) := HX.out.cell 1
    go_wp2_with fail
    go_quiet (fail)
    go_wp2
    go_ret2
    exact ⟨rfl, below_drewN HB0.out _⟩
end Go.Proofs.YtkpppjhbmnfmkaaGreatDoor
