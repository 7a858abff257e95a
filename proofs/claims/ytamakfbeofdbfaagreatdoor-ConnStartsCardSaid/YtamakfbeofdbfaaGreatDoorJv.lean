/-
  Contracts: conn.New where it refuses; the walk of ConnStarts.
  The walk of ConnStarts.
-/
import Derived.Test.YtamakfbeofdbfaaGreatDoorJu
import Derived.LaidEql
import Derived.BigQuiet
set_option linter.unusedSimpArgs false
set_option linter.unusedVariables false
section
namespace Go.Proofs.YtamakfbeofdbfaaGreatDoor
open Go.RowKit Go.Own Go.Own.Im Go.Own.Cx Go.Own.Fr Go.Own.Hd
/-- What the walk reads of package-level variables. -/
structure EnvS (w : World) (a1 a2 : Addr) : Prop where
  wd : EnvW w
  role : w.cell? ⟨0, 0, none⟩ = some (.iface 278 (.pointer (some a1)))
  num : w.cell? ⟨1, 0, none⟩ = some (.iface 278 (.pointer (some a2)))
theorem EnvS.below {w w' : World} {a1 a2 : Addr} (h : EnvS w a1 a2) (hb : Below w.heap.size w w') : EnvS w' a1 a2 :=
  ⟨h.wd.below hb, (hb.cell (p := ⟨0, 0, none⟩) (Nat.lt_of_lt_of_le (by decide : 0 < 20) h.wd.room)).trans h.role, (hb.cell (p := ⟨1, 0, none⟩) (Nat.lt_of_lt_of_le (by decide : 1 < 20) h.wd.room)).trans h.num⟩
theorem eql_same (a : Addr) (w : World) : (binOp .eql 27 (.iface 278 (.pointer (some a))) (.iface 278 (.pointer (some a)))).run Tryz.prog w = .ok (.bool true) w := by
  obtain ⟨i, hi, hcmp⟩ := Option.map_eq_some_iff.1 (show (Tryz.prog.info? 278).map (·.comparable) = some true by kernel_rfl)
  obtain ⟨j, hj, hjs⟩ := Option.map_eq_some_iff.1 (show (Tryz.prog.info? 280).map (·.size) = some 1 by kernel_rfl)
  exact run_eql_iface_ptr_same (P := Tryz.prog) w a Tryz.underlying27 Tryz.underlying278 hi hcmp hj
set_option maxHeartbeats 4000000 in
set_option maxRecDepth 100000 in
/-- A role that there is not. -/
theorem new_role (w : World) (side cw cs : Int) {a1 a2 : Addr} (hE : EnvS w a1 a2) (h1 : side ≠ 1) (h2 : side ≠ 2) :
    Calls Tryz.prog 5 #[.int .i64 side, .agg #[.int .i64 cw, .int .i64 cs]] w fun e w' => e = .returned (.tuple #[.pointer none, .iface 278 (.pointer (some a1))]) ∧ Below w.heap.size w w' := by
  have k1 : (side != 1) = true := by simpa using h1
  have k2 : (side != 2) = true := by simpa using h2
  have HB0 := Lib.hid ((Below.refl w.heap.size w).alloc (Nat.le_refl _) (.cells #[.int .i64 cw, .int .i64 cs] 23))
  have he0 := (hE.below HB0.out).role
  clear h1 h2
  go_enter Tryz.func5, Tryz.ntmps5
  go_upto_region 1 with fail
  generalize w.alloc (.cells #[.int .i64 cw, .int .i64 cs] 23) = W0 at *
  go_wp2_with fail
  go_quiet (fail)
  go_wp2
  go_ret2
  exact ⟨rfl, below_drewN HB0.out _⟩
/-- May a config not be? -/
def badC (cw cs : Int) : Prop := cw < 0 ∨ 2147483647 < cw ∨ cs < 0 ∨ 100 < cs
set_option maxHeartbeats 8000000 in
set_option maxRecDepth 100000 in
/-- A config that may not be. -/
theorem new_number (w : World) (side cw cs : Int) {a1 a2 : Addr} (hE : EnvS w a1 a2) (hs : side = 1 ∨ side = 2) (hb : badC cw cs) :
    Calls Tryz.prog 5 #[.int .i64 side, .agg #[.int .i64 cw, .int .i64 cs]] w fun e w' => e = .returned (.tuple #[.pointer none, .iface 278 (.pointer (some a2))]) ∧ Below w.heap.size w w' := by
  have HB0 := Lib.hid ((Below.refl w.heap.size w).alloc (Nat.le_refl _) (.cells #[.int .i64 cw, .int .i64 cs] 23))
  have HX := Lib.hid (Blk.new w 23 #[.int .i64 cw, .int .i64 cs])
  have he0 := (hE.below HB0.out).num
  have k : (cw < 0) = True ∨ ((cw < 0) = False ∧ (2147483647 < cw) = True) ∨ ((cw < 0) = False ∧ (2147483647 < cw) = False ∧ (cs < 0) = True) ∨ ((cw < 0) = False ∧ (2147483647 < cw) = False ∧ (cs < 0) = False ∧ (100 < cs) = True) := by
    unfold badC at hb
    simp only [eq_iff_iff, iff_true, iff_false]
    omega
  clear hb
  rcases hs with rfl | rfl <;> rcases k with k1 | ⟨k1, k2⟩ | ⟨k1, k2, k3⟩ | ⟨k1, k2, k3, k4⟩
  all_goals
    go_enter Tryz.func5, Tryz.ntmps5
    go_upto_region 1 with fail
    generalize w.alloc (.cells #[.int .i64 cw, .int .i64 cs] 23) = W0 at *
    have x0 : W0.cell? ⟨w.heap.size, 0, none⟩ = some (.int .i64 cw) := HX.out.cell 0
    have x1 : W0.cell? ⟨w.heap.size, 1, none⟩ = some (.int .i64 cs) := HX.out.cell 1
    go_wp2_with fail
    go_quiet (fail)
    go_wp2
    go_ret2
    exact ⟨rfl, below_drewN HB0.out _⟩
end Go.Proofs.YtamakfbeofdbfaaGreatDoor
end

section
namespace Go.Proofs.YtamakfbeofdbfaaGreatDoor
open Go.RowKit Go.Own Go.Own.Im Go.Own.Cx Go.Own.Fr Go.Own.Hd
theorem wf_one : (Lit.int .i64 (1 : Int)).wf = true := by decide
set_option maxHeartbeats 16000000 in
set_option maxRecDepth 100000 in
/-- A role that there is not. -/
theorem starts_role (w : World) (side cw cs : Int) {a1 a2 : Addr} (hE : EnvS w a1 a2) (h1 : side ≠ 1) (h2 : side ≠ 2) :
    Calls Tryz.prog 3 #[.int .i64 side, .agg #[.int .i64 cw, .int .i64 cs]] w fun e w' => e = .returned (.bool true) ∧ Below w.heap.size w w' := by
  have HE := Lib.hid hE
  have k1 : (side != 1) = true := by simpa using h1
  have k2 : (side != 2) = true := by simpa using h2
  have HX := Lib.hid (Blk.new w 23 #[.int .i64 cw, .int .i64 cs])
  have HB0 := Lib.hid ((Below.refl w.heap.size w).alloc (Nat.le_refl _) (.cells #[.int .i64 cw, .int .i64 cs] 23))
  have hee := eql_same a1
  clear hE
  go_enter Tryz.func3, Tryz.ntmps3
  go_upto_region 1 with fail
  generalize w.alloc (.cells #[.int .i64 cw, .int .i64 cs] 23) = W0 at *
  go_wp2_with fail
  refine (first_any W0 (HE.out.below HB0.out).wd).mono ?_
  rintro e w1 ⟨rfl, hb1⟩
  have HB1 := Lib.hid (HB0.out.trans (hb1.mono HB0.out.size))
  have HX1 := Lib.hid (HX.out.below hb1 HX.out.lt)
  clear hb1
  have x0 : w1.cell? ⟨w.heap.size, 0, none⟩ = some (.int .i64 cw) := HX1.out.cell 0
  have x1 : w1.cell? ⟨w.heap.size, 1, none⟩ = some (.int .i64 cs) := HX1.out.cell 1
  go_wp2_with fail
  refine (new_role w1 side cw cs (HE.out.below HB1.out) h1 h2).mono ?_
  rintro e w2 ⟨rfl, hb2⟩
  have HB2 := Lib.hid (HB1.out.trans (hb2.mono HB1.out.size))
  have g0 := (HE.out.below HB2.out).role
  clear x0 x1 hb2 h1 h2
  go_wp2
  go_ret
  exact ⟨rfl, HB2.out⟩
set_option maxHeartbeats 16000000 in
set_option maxRecDepth 100000 in
/-- A config that may not be. -/
theorem starts_number (w : World) (side cw cs : Int) {a1 a2 : Addr} (hE : EnvS w a1 a2) (hs : side = 1 ∨ side = 2) (hbad : badC cw cs) :
    Calls Tryz.prog 3 #[.int .i64 side, .agg #[.int .i64 cw, .int .i64 cs]] w fun e w' => e = .returned (.bool true) ∧ Below w.heap.size w w' := by
  have HE := Lib.hid hE
  have HX := Lib.hid (Blk.new w 23 #[.int .i64 cw, .int .i64 cs])
  have HB0 := Lib.hid ((Below.refl w.heap.size w).alloc (Nat.le_refl _) (.cells #[.int .i64 cw, .int .i64 cs] 23))
  have hee := eql_same a2
  have HNw := Lib.hid (fun W (he : EnvS W a1 a2) => new_number W side cw cs he hs hbad)
  have k : (cw < 0) = True ∨ ((cw < 0) = False ∧ (2147483647 < cw) = True) ∨ ((cw < 0) = False ∧ (2147483647 < cw) = False ∧ (cs < 0) = True) ∨ ((cw < 0) = False ∧ (2147483647 < cw) = False ∧ (cs < 0) = False ∧ (100 < cs) = True) := by
    unfold badC at hbad
    simp only [eq_iff_iff, iff_true, iff_false]
    omega
  clear hE hbad
  rcases hs with rfl | rfl <;> rcases k with k1 | ⟨k1, k2⟩ | ⟨k1, k2, k3⟩ | ⟨k1, k2, k3, k4⟩
  all_goals
    go_enter Tryz.func3, Tryz.ntmps3
    go_upto_region 1 with fail
    generalize w.alloc (.cells #[.int .i64 cw, .int .i64 cs] 23) = W0 at *
    go_wp2_with fail
    refine (first_any W0 (HE.out.below HB0.out).wd).mono ?_
    rintro e w1 ⟨rfl, hb1⟩
    have HB1 := Lib.hid (HB0.out.trans (hb1.mono HB0.out.size))
    have HX1 := Lib.hid (HX.out.below hb1 HX.out.lt)
    clear hb1
    have x0 : w1.cell? ⟨w.heap.size, 0, none⟩ = some (.int .i64 cw) := HX1.out.cell 0
    have x1 : w1.cell? ⟨w.heap.size, 1, none⟩ = some (.int .i64 cs) := HX1.out.cell 1
    go_wp2_with fail
    refine (HNw.out w1 (HE.out.below HB1.out)).mono ?_
    rintro e w2 ⟨rfl, hb2⟩
    have HB2 := Lib.hid (HB1.out.trans (hb2.mono HB1.out.size))
    have g1 := (HE.out.below HB2.out).num
    have HX2 := Lib.hid (HX1.out.below hb2 HX1.out.lt)
    clear x0 x1 hb2
    have x0 : w2.cell? ⟨w.heap.size, 0, none⟩ = some (.int .i64 cw) := HX2.out.cell 0
    have x1 : w2.cell? ⟨w.heap.size, 1, none⟩ = some (.int .i64 cs) := HX2.out.cell 1
    go_wp2
    go_ret
    exact ⟨rfl, HB2.out⟩
set_option maxHeartbeats 16000000 in
set_option maxRecDepth 100000 in
/-- An end begins. -/
theorem starts1_ok (w : World) (cw cs : Nat) {a1 a2 : Addr} (hE : EnvS w a1 a2) (hw : cw ≤ 2147483647) (hs : cs ≤ 100) :
    Calls Tryz.prog 3 #[.int .i64 1, .agg #[.int .i64 (cw : Nat), .int .i64 (cs : Nat)]] w fun e w' => e = .returned (.bool true) ∧ Below w.heap.size w w' := by
  have HE := Lib.hid hE
  have HX := Lib.hid (Blk.new w 23 #[.int .i64 (cw : Nat), .int .i64 (cs : Nat)])
  have HB0 := Lib.hid ((Below.refl w.heap.size w).alloc (Nat.le_refl _) (.cells #[.int .i64 (cw : Nat), .int .i64 (cs : Nat)] 23))
  have HH := Lib.hid (show cw ≤ 2147483647 ∧ cs ≤ 100 from ⟨hw, hs⟩)
  have k1 : ((2147483647 : Int) < (cw : Int)) = False := by simp; omega
  have k2 : ((100 : Int) < (cs : Int)) = False := by simp; omega
  have k0 : ((cw : Int) < 0) = False := by simp
  have k3 : ((cs : Int) < 0) = False := by simp
  clear hE hw hs
  go_enter Tryz.func3, Tryz.ntmps3
  go_upto_region 1 with fail
  generalize w.alloc (.cells #[.int .i64 (cw : Nat), .int .i64 (cs : Nat)] 23) = W0 at *
  go_wp2_with fail
  refine (first_any W0 (HE.out.below HB0.out).wd).mono ?_
  rintro e w1 ⟨rfl, hb1⟩
  have HB1 := Lib.hid (HB0.out.trans (hb1.mono HB0.out.size))
  have HX1 := Lib.hid (HX.out.below hb1 HX.out.lt)
  clear hb1
  have x0 : w1.cell? ⟨w.heap.size, 0, none⟩ = some (.int .i64 (cw : Nat)) := HX1.out.cell 0
  have x1 : w1.cell? ⟨w.heap.size, 1, none⟩ = some (.int .i64 (cs : Nat)) := HX1.out.cell 1
  go_wp2_with fail
  refine (new1_any w1 cw cs HH.out.1 HH.out.2).mono ?_
  rintro e w2 ⟨b, ow2, L2, rfl, hc2, hb2, ho2⟩
  have HB2 := Lib.hid (HB1.out.trans (hb2.mono HB1.out.size))
  have HC2 := Lib.hid hc2
  have HO2 := Lib.hid (show ∀ g, g < w.heap.size → ow2 g = .no from fun g hg => ho2 g (Nat.lt_of_lt_of_le hg HB1.out.size))
  have HX2 := Lib.hid (HX1.out.below hb2 HX1.out.lt)
  have HXo := Lib.hid (ho2 _ HX1.out.lt)
  clear x0 x1 hb2 hc2 ho2
  have x0 : w2.cell? ⟨w.heap.size, 0, none⟩ = some (.int .i64 (cw : Nat)) := HX2.out.cell 0
  have x1 : w2.cell? ⟨w.heap.size, 1, none⟩ = some (.int .i64 (cs : Nat)) := HX2.out.cell 1
  go_wp2_with fail
  refine (output_still w2 ow2 b _ L2 HC2.out List.Pairwise.nil (Nat.zero_le _) (fun s hs => by cases hs) (.inr fun s hs => by cases hs)).mono ?_
  rintro e w3 ⟨A3, c3, ow3, L3, rfl, hle3, hr3, ht3, hc3, hf3⟩
  have HR3 := Lib.hid hr3
  have HC3 := Lib.hid hc3
  have HF3 := Lib.hid hf3
  have HX3 := Lib.hid (hf3.blk HX2.out HXo.out)
  clear x0 x1 hle3 hr3 ht3 hc3 hf3
  have x0 : w3.cell? ⟨w.heap.size, 0, none⟩ = some (.int .i64 (cw : Nat)) := HX3.out.cell 0
  have x1 : w3.cell? ⟨w.heap.size, 1, none⟩ = some (.int .i64 (cs : Nat)) := HX3.out.cell 1
  go_wp2_with fail
  refine (begins1_any w3 cw cs HH.out.1 HH.out.2).mono ?_
  rintro e w4 ⟨A4, n4, c4, rfl, hr4, hb4⟩
  have HR4 := Lib.hid hr4
  have HR3a := Lib.hid (HR3.out.below hb4)
  have HC4 := Lib.hid (HC3.out.below hb4)
  have HF4 := Lib.hid (HF3.out.trans (Fr.below hb4 ow3))
  clear x0 x1 hr4 hb4 HC3 HF3 HR3
  go_wp2_with fail
  refine (sameBytes_any A3 A4 _ n4 c3 c4 _ _ w4 _ _ HR3a.out HR4.out).mono ?_
  rintro e w5 ⟨rfl, hw⟩
  subst w5
  rw [show decide ((newM 1 cw cs).out = (newM 1 cw cs).out) = true from decide_eq_true rfl]
  clear HR3a HR4
  go_wp2_with fail
  refine (output_still w4 ow3 b _ L3 HC4.out List.Pairwise.nil (Nat.zero_le _) (fun s hs => by cases hs) (.inr fun s hs => by cases hs)).mono ?_
  rintro e w6 ⟨A6, c6, ow6, L6, rfl, hle6, hr6, ht6, hc6, hf6⟩
  rw [show ({ newM 1 cw cs with out := [] } : Cv).out.length = 0 from rfl]
  have HC6 := Lib.hid hc6
  have HF6 := Lib.hid (HF4.out.trans hf6)
  clear hle6 hr6 ht6 hc6 hf6 HC4 HF4
  go_wp2_with fail
  refine (streams_any w6 ow6 b _ L6 HC6.out List.Pairwise.nil (Nat.zero_le _)).mono ?_
  rintro e w7 ⟨A7, c7, rfl, _, hb7⟩
  rw [show ({ ({ newM 1 cw cs with out := [] } : Cv) with out := [] } : Cv).strs.length = 0 from rfl]
  have HC7 := Lib.hid (HC6.out.below hb7)
  have HF7 := Lib.hid (HF6.out.trans (Fr.below hb7 ow6))
  clear hb7 HC6 HF6
  go_wp2_with fail
  refine (held_any w7 ow6 b _ L6 1 HC7.out wf_one).mono ?_
  rintro e w8 ⟨rfl, hw⟩
  subst w8
  rw [show strAt ({ ({ newM 1 cw cs with out := [] } : Cv) with out := [] } : Cv) 1 = none from rfl]
  go_wp2_with fail
  refine (waiting_any w7 ow6 b _ L6 1 HC7.out wf_one).mono ?_
  rintro e w8 ⟨rfl, hw⟩
  subst w8
  rw [show strAt ({ ({ newM 1 cw cs with out := [] } : Cv) with out := [] } : Cv) 1 = none from rfl]
  go_wp2
  go_ret
  exact ⟨rfl, HF7.out.toBelow HB2.out HO2.out⟩
set_option maxHeartbeats 16000000 in
set_option maxRecDepth 100000 in
/-- An end begins. -/
theorem starts2_ok (w : World) (cw cs : Nat) {a1 a2 : Addr} (hE : EnvS w a1 a2) (hw : cw ≤ 2147483647) (hs : cs ≤ 100) :
    Calls Tryz.prog 3 #[.int .i64 2, .agg #[.int .i64 (cw : Nat), .int .i64 (cs : Nat)]] w fun e w' => e = .returned (.bool true) ∧ Below w.heap.size w w' := by
  have HE := Lib.hid hE
  have HX := Lib.hid (Blk.new w 23 #[.int .i64 (cw : Nat), .int .i64 (cs : Nat)])
  have HB0 := Lib.hid ((Below.refl w.heap.size w).alloc (Nat.le_refl _) (.cells #[.int .i64 (cw : Nat), .int .i64 (cs : Nat)] 23))
  have HH := Lib.hid (show cw ≤ 2147483647 ∧ cs ≤ 100 from ⟨hw, hs⟩)
  have k1 : ((2147483647 : Int) < (cw : Int)) = False := by simp; omega
  have k2 : ((100 : Int) < (cs : Int)) = False := by simp; omega
  have k0 : ((cw : Int) < 0) = False := by simp
  have k3 : ((cs : Int) < 0) = False := by simp
  clear hE hw hs
  go_enter Tryz.func3, Tryz.ntmps3
  go_upto_region 1 with fail
  generalize w.alloc (.cells #[.int .i64 (cw : Nat), .int .i64 (cs : Nat)] 23) = W0 at *
  go_wp2_with fail
  refine (first_any W0 (HE.out.below HB0.out).wd).mono ?_
  rintro e w1 ⟨rfl, hb1⟩
  have HB1 := Lib.hid (HB0.out.trans (hb1.mono HB0.out.size))
  have HX1 := Lib.hid (HX.out.below hb1 HX.out.lt)
  clear hb1
  have x0 : w1.cell? ⟨w.heap.size, 0, none⟩ = some (.int .i64 (cw : Nat)) := HX1.out.cell 0
  have x1 : w1.cell? ⟨w.heap.size, 1, none⟩ = some (.int .i64 (cs : Nat)) := HX1.out.cell 1
  go_wp2_with fail
  refine (new2_any w1 cw cs HH.out.1 HH.out.2).mono ?_
  rintro e w2 ⟨b, ow2, L2, rfl, hc2, hb2, ho2⟩
  have HB2 := Lib.hid (HB1.out.trans (hb2.mono HB1.out.size))
  have HC2 := Lib.hid hc2
  have HO2 := Lib.hid (show ∀ g, g < w.heap.size → ow2 g = .no from fun g hg => ho2 g (Nat.lt_of_lt_of_le hg HB1.out.size))
  have HX2 := Lib.hid (HX1.out.below hb2 HX1.out.lt)
  have HXo := Lib.hid (ho2 _ HX1.out.lt)
  clear x0 x1 hb2 hc2 ho2
  have x0 : w2.cell? ⟨w.heap.size, 0, none⟩ = some (.int .i64 (cw : Nat)) := HX2.out.cell 0
  have x1 : w2.cell? ⟨w.heap.size, 1, none⟩ = some (.int .i64 (cs : Nat)) := HX2.out.cell 1
  go_wp2_with fail
  refine (output_still w2 ow2 b _ L2 HC2.out List.Pairwise.nil (Nat.zero_le _) (fun s hs => by cases hs) (.inr fun s hs => by cases hs)).mono ?_
  rintro e w3 ⟨A3, c3, ow3, L3, rfl, hle3, hr3, ht3, hc3, hf3⟩
  have HR3 := Lib.hid hr3
  have HC3 := Lib.hid hc3
  have HF3 := Lib.hid hf3
  have HX3 := Lib.hid (hf3.blk HX2.out HXo.out)
  clear x0 x1 hle3 hr3 ht3 hc3 hf3
  have x0 : w3.cell? ⟨w.heap.size, 0, none⟩ = some (.int .i64 (cw : Nat)) := HX3.out.cell 0
  have x1 : w3.cell? ⟨w.heap.size, 1, none⟩ = some (.int .i64 (cs : Nat)) := HX3.out.cell 1
  go_wp2_with fail
  refine (begins2_any w3 cw cs HH.out.1 HH.out.2).mono ?_
  rintro e w4 ⟨A4, n4, c4, rfl, hr4, hb4⟩
  have HR4 := Lib.hid hr4
  have HR3a := Lib.hid (HR3.out.below hb4)
  have HC4 := Lib.hid (HC3.out.below hb4)
  have HF4 := Lib.hid (HF3.out.trans (Fr.below hb4 ow3))
  clear x0 x1 hr4 hb4 HC3 HF3 HR3
  go_wp2_with fail
  refine (sameBytes_any A3 A4 _ n4 c3 c4 _ _ w4 _ _ HR3a.out HR4.out).mono ?_
  rintro e w5 ⟨rfl, hw⟩
  subst w5
  rw [show decide ((newM 2 cw cs).out = (newM 2 cw cs).out) = true from decide_eq_true rfl]
  clear HR3a HR4
  go_wp2_with fail
  refine (output_still w4 ow3 b _ L3 HC4.out List.Pairwise.nil (Nat.zero_le _) (fun s hs => by cases hs) (.inr fun s hs => by cases hs)).mono ?_
  rintro e w6 ⟨A6, c6, ow6, L6, rfl, hle6, hr6, ht6, hc6, hf6⟩
  rw [show ({ newM 2 cw cs with out := [] } : Cv).out.length = 0 from rfl]
  have HC6 := Lib.hid hc6
  have HF6 := Lib.hid (HF4.out.trans hf6)
  clear hle6 hr6 ht6 hc6 hf6 HC4 HF4
  go_wp2_with fail
  refine (streams_any w6 ow6 b _ L6 HC6.out List.Pairwise.nil (Nat.zero_le _)).mono ?_
  rintro e w7 ⟨A7, c7, rfl, _, hb7⟩
  rw [show ({ ({ newM 2 cw cs with out := [] } : Cv) with out := [] } : Cv).strs.length = 0 from rfl]
  have HC7 := Lib.hid (HC6.out.below hb7)
  have HF7 := Lib.hid (HF6.out.trans (Fr.below hb7 ow6))
  clear hb7 HC6 HF6
  go_wp2_with fail
  refine (held_any w7 ow6 b _ L6 1 HC7.out wf_one).mono ?_
  rintro e w8 ⟨rfl, hw⟩
  subst w8
  rw [show strAt ({ ({ newM 2 cw cs with out := [] } : Cv) with out := [] } : Cv) 1 = none from rfl]
  go_wp2_with fail
  refine (waiting_any w7 ow6 b _ L6 1 HC7.out wf_one).mono ?_
  rintro e w8 ⟨rfl, hw⟩
  subst w8
  rw [show strAt ({ ({ newM 2 cw cs with out := [] } : Cv) with out := [] } : Cv) 1 = none from rfl]
  go_wp2
  go_ret
  exact ⟨rfl, HF7.out.toBelow HB2.out HO2.out⟩
/-- The walk of ConnStarts. -/
theorem connStarts_any (w : World) (side cw cs : Int) {a1 a2 : Addr} (hE : EnvS w a1 a2) :
    Calls Tryz.prog 3 #[.int .i64 side, .agg #[.int .i64 cw, .int .i64 cs]] w fun e w' => e = .returned (.bool true) ∧ Below w.heap.size w w' := by
  by_cases h1 : side = 1 ∨ side = 2
  · by_cases hb : badC cw cs
    · exact starts_number w side cw cs hE h1 hb
    · unfold badC at hb
      obtain ⟨m, rfl⟩ := Int.eq_ofNat_of_zero_le (show 0 ≤ cw by omega)
      obtain ⟨k, rfl⟩ := Int.eq_ofNat_of_zero_le (show 0 ≤ cs by omega)
      rcases h1 with rfl | rfl
      · exact starts1_ok w m k hE (by omega) (by omega)
      · exact starts2_ok w m k hE (by omega) (by omega)
  · exact starts_role w side cw cs hE (fun e => h1 (.inl e)) (fun e => h1 (.inr e))
end Go.Proofs.YtamakfbeofdbfaaGreatDoor
end
