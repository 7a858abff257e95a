/-
  ChainWraps: interceptors around a function answer what the document says, and ask it as often.
-/
import Derived.Test.YthokfopeddaiiaaGreatDoorFst
import Derived.Test.YthokfopeddaiiaaGreatDoorSays
import Derived.BigQuiet
import Derived.Deep.QuietTactic
namespace Go.Proofs.YthokfopeddaiiaaGreatDoor
open Go.RowKit Go.Own Go.Own.Fn Go.Shelf
set_option maxHeartbeats 4000000 in
set_option maxRecDepth 100000 in
theorem chainWraps_any (A : Option Addr) (n c : Nat) (l : List (Int × Int)) (x : Int) (w : World) (hc : n ≤ c) (hm : c ≤ 9223372036854775807) (hl : On w A n l) (he : EnvC w) :
    Calls Tryz.prog 6 #[.slice A n c, .int .i64 x] w fun e w' => e = .returned (.bool true) ∧ Below w.heap.size w w' := by
  have HF := Lib.hid (first_any w he)
  have HL := Lib.hid hl
  have HM := Lib.hid (And.intro hc hm)
  clear he hl hc hm
  go_enter Tryz.func6, Tryz.ntmps6
  go_wp2_with fail
  refine HF.out.mono ?_
  rintro e w1 ⟨rfl, g1⟩
  have HB1 := Lib.hid g1
  have HL1 := Lib.hid (HL.out.below g1)
  clear g1 HF HL
  go_wp2_with fail
  refine (few_any A n c l w1 (by have := HM.out; omega) HL1.out).mono ?_
  rintro e w1' ⟨r, rfl, hr, hw⟩
  subst hw
  rcases r with _ | _
  · clear hr
    go_wp2
    go_ret
    exact ⟨rfl, HB1.out⟩
  have hn := hr rfl
  clear hr
  have HN := Lib.hid hn
  clear hn
  go_wp2_with fail
  have hb2 : Below w1'.heap.size w1' ((w1'.alloc (.cells #[.int .i64 0] 50)).alloc (.cells #[.int .i64 0] 50)) := ((Below.refl _ _).alloc (Nat.le_refl _) _).alloc (by simp) _
  have hc1 : Blk ((w1'.alloc (.cells #[.int .i64 0] 50)).alloc (.cells #[.int .i64 0] 50)) w1'.heap.size 50 #[.int .i64 0] := (Blk.new _ _ _).alloc _
  have hc2 : Blk ((w1'.alloc (.cells #[.int .i64 0] 50)).alloc (.cells #[.int .i64 0] 50)) (w1'.heap.size + 1) 50 #[.int .i64 0] := by
    have := Blk.new (w1'.alloc (.cells #[.int .i64 0] 50)) 50 #[.int .i64 0]
    simpa using this
  have HB2 := Lib.hid hb2
  have HC1 := Lib.hid hc1
  have HC2 := Lib.hid hc2
  clear hb2 hc1 hc2
  generalize (w1'.alloc _).alloc _ = W2 at HB2 HC1 HC2 ⊢
  have hrow : ∀ g, (cnt w1'.heap.size).row = some g → g = w1'.heap.size := fun g h => (Option.some.inj h).symm
  have HRow := Lib.hid hrow
  clear hrow
  refine (lists_any (cnt w1'.heap.size) (cnt_steady _) (fun g => g = w1'.heap.size) A n c l W2 (by have := HN.out; omega) (fun g h => h ▸ HC1.out.lt) HRow.out (HL1.out.below HB2.out)).mono ?_
  rintro e w3 ⟨A3, c3, rfl, hc3, har, g3⟩
  have HAr := Lib.hid har
  have HB3 := Lib.hid g3
  clear har g3 hc3
  go_wp2_with fail
  refine (wrap_i (cnt w1'.heap.size) (fun _ => intL) 0 (fun g => g = w1'.heap.size) _ askF A3 n c3 (l.map oneF) w3 HRow.out (fun g h => h ▸ Nat.lt_of_lt_of_le HC1.out.lt HB3.out.size) (by have := HN.out; omega) (ask_fnc _ _ _) HAr.out).mono ?_
  rintro e w4 ⟨r, rfl, g1, g2⟩
  have HB4 := Lib.hid (HB3.out.trans (g2.mono HB3.out.size))
  obtain ⟨K3, f3, c4, rfl, hE3, hcc⟩ := g1
  have hE3 : ∀ args w, (callFunc K3 args).run Tryz.prog w = .ok (.enter K3 args) w := hE3
  have hq := fun W => eq_nf W (.func K3) f3 c4
  have C5 := Lib.hid (hcc w4 0 (.int .i64 x) x (Kx.refl _ _) (HC1.out.below HB4.out HC1.out.lt) rfl)
  clear g2 hcc
  go_wp2_with fail
  refine C5.out.mono ?_
  rintro e w5 ⟨yv, rfl, k1, k2, k3⟩
  obtain rfl : yv = .int .i64 (saysF l x 0).1 := k1
  have k2 : Blk w5 w1'.heap.size 50 #[.int .i64 (saysF l x 0).2] := k2
  have n12 : some (w1'.heap.size + 1) ≠ some w1'.heap.size := by simp
  have hb5 : Below w1'.heap.size w1' w5 := (HB2.out.trans (HB4.out.mono HB2.out.size)).trans ⟨k3.os, k3.tape, k3.output, k3.size, fun i hi => k3.block i (by have := HB2.out.size; have := HB4.out.size; omega) (fun e => by have := Option.some.inj e; omega)⟩
  have hd5 := (HC2.out.below HB4.out HC2.out.lt).grown k3 n12
  have HB5 := Lib.hid hb5
  have HK2 := Lib.hid k2
  have CS := Lib.hid (says_any (w1'.heap.size + 1) l A n c x 0 w5 HM.out.1 (by have := HN.out; omega) (HL1.out.below hb5) (fun ad h0 e => by
    obtain ⟨ad', e', h1, _⟩ := HL1.out.2 h0
    obtain rfl := Option.some.inj (e.symm.trans e')
    omega) hd5)
  clear k2 k3 hb5 hd5 C5 HAr hq
  go_wp2_with fail
  refine CS.out.mono ?_
  rintro e w6 ⟨rfl, k4, k5⟩
  have k6 : Blk w6 w1'.heap.size 50 #[.int .i64 (saysF l x 0).2] := HK2.out.grown k5 (fun e => n12 e.symm)
  have q1 : w6.cell? ⟨w1'.heap.size, 0, none⟩ = some (.int .i64 (saysF l x 0).2) := k6.cell 0
  have q2 : w6.cell? ⟨w1'.heap.size + 1, 0, none⟩ = some (.int .i64 (saysF l x 0).2) := k4.cell 0
  have hb6 : Below w1'.heap.size w1' w6 := HB5.out.trans ⟨k5.os, k5.tape, k5.output, k5.size, fun i hi => k5.block i (by have := HB5.out.size; omega) (fun e => by have := Option.some.inj e; omega)⟩
  have HB6 := Lib.hid (HB1.out.trans (hb6.mono HB1.out.size))
  obtain ⟨y, hy⟩ : ∃ y, (saysF l x 0).1 = y := ⟨_, rfl⟩
  obtain ⟨m, hm⟩ : ∃ m, (saysF l x 0).2 = m := ⟨_, rfl⟩
  rw [hm] at q1 q2
  rw [hy]
  clear k4 k5 k6 hb6 hm hy CS HK2
  go_wp2_with fail
  go_quiet (fail)
  all_goals
    go_wp2
    go_ret
    exact ⟨rfl, below_drewN HB6.out _⟩
end Go.Proofs.YthokfopeddaiiaaGreatDoor
