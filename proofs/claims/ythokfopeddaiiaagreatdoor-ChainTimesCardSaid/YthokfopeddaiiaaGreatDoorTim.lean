/-
  ChainTimes: a function that is asked again and again.
-/
import Derived.Test.YthokfopeddaiiaaGreatDoorFst
import Derived.BigQuiet
import Derived.Deep.QuietTactic
namespace Go.Proofs.YthokfopeddaiiaaGreatDoor
open Go.RowKit Go.Own Go.Own.Fn Go.Shelf
theorem ask_small (j : Int) (h0 : 0 ≤ j) (h1 : j ≤ 1000) : askF 0 j = (j + 1, j + 1) := by
  have e : wrap64 (j + 1) = j + 1 := by unfold wrap64; omega
  have e0 : wrap64 (0 * 7) = 0 := by simp [wrap64]
  unfold askF
  rw [e, e0, Int.zero_add, e]
theorem times_count (stop : Int) (k : Nat) : ∀ j : Int, 1 ≤ j → j + k ≤ 500 → timesF (fun y => decide (y < stop)) askF 0 k (j, j) = (max j (min stop (j + k)), max j (min stop (j + k))) := by
  induction k with
  | zero =>
    intro j hj hk
    have : max j (min stop (j + ((0 : Nat) : Int))) = j := by omega
    rw [this]; rfl
  | succ k ih =>
    intro j hj hk
    by_cases h : j < stop
    · simp only [timesF, h, decide_true, if_true]
      rw [ask_small j (by omega) (by omega), ih (j + 1) (by omega) (by omega)]
      have : max (j + 1) (min stop (j + 1 + (k : Int))) = max j (min stop (j + ((k + 1 : Nat) : Int))) := by omega
      rw [this]
    · simp only [timesF, h, decide_false]
      have : max j (min stop (j + ((k + 1 : Nat) : Int))) = j := by omega
      rw [this]; rfl
theorem less_pur (b : Nat) (v : Int) (ex : Nat → Prop) (hx : ¬ ex b) (w : World) (hb : Blk w b 3 #[.int .i64 v]) : Pur Tryz.prog ex (.func (.func 22) #[] #[.pointer (some ⟨b, 0, none⟩)]) (fun y => .bool (decide (y < v))) w := by
  refine ⟨22, #[.pointer (some ⟨b, 0, none⟩)], rfl, enters_of Tryz.func22 (by kernel_rfl) rfl, fun w1 x hw => ?_⟩
  show Calls Tryz.prog 22 #[.int .i64 x, .pointer (some ⟨b, 0, none⟩)] w1 _
  have c0 : w1.cell? ⟨b, 0, none⟩ = some (.int .i64 v) := (Blk.kx hb hw hx).cell 0
  clear hb hw
  go_enter Tryz.func22, Tryz.ntmps22
  go_wp2
  go_ret
  exact ⟨rfl, Below.refl _ _⟩
set_option maxHeartbeats 4000000 in
set_option maxRecDepth 100000 in
theorem chainTimes_any (n stop : Int) (w : World) (he : EnvC w) : Calls Tryz.prog 5 #[.int .i64 n, .int .i64 stop] w fun e w' => e = .returned (.bool true) ∧ Below w.heap.size w w' := by
  have hb0 : Below w.heap.size w (w.alloc (.cells #[.int .i64 stop] 3)) := (Below.refl _ _).alloc (Nat.le_refl _) _
  have HF := Lib.hid (first_any _ (he.below hb0))
  have HS := Lib.hid (Blk.new w 3 #[.int .i64 stop])
  have HB0 := Lib.hid hb0
  clear he hb0
  go_enter Tryz.func5, Tryz.ntmps5
  go_wp2_with fail
  refine HF.out.mono ?_
  rintro e w1 ⟨rfl, g1⟩
  have HS1 := Lib.hid (HS.out.below g1 HS.out.lt)
  have HB1 := Lib.hid (HB0.out.trans (g1.mono HB0.out.size))
  have c0 : w1.cell? ⟨w.heap.size, 0, none⟩ = some (.int .i64 stop) := HS1.out.cell 0
  have c1 := HS1.out.frozen 0
  have c2 := HS1.out.lt
  clear g1 HF HS HB0
  go_wp2_with fail
  obtain ⟨st, hst⟩ : ∃ st, bits BinOp.and IntKind.i64 stop 255 = st := ⟨_, rfl⟩
  rw [hst]
  have hbs : Below w.heap.size w ((w1.setCell ⟨w.heap.size, 0, none⟩ (.int .i64 st)).alloc (.cells #[.int .i64 0] 50)) := (HB1.out.setCell (Nat.le_refl _) _).alloc (by have := HB1.out.size; simpa using this) _
  have hs2 := (HS1.out.put 0 (.int .i64 st)).alloc (.cells #[.int .i64 0] 50)
  have hc2 : Blk ((w1.setCell ⟨w.heap.size, 0, none⟩ (.int .i64 st)).alloc (.cells #[.int .i64 0] 50)) w1.heap.size 50 #[.int .i64 0] := by
    have := Blk.new (w1.setCell ⟨w.heap.size, 0, none⟩ (.int .i64 st)) 50 #[.int .i64 0]
    simpa using this
  have HB2 := Lib.hid hbs
  have HS2 := Lib.hid hs2
  have HC2 := Lib.hid hc2
  clear hbs hs2 hc2 HB1 HS1 c0 c1 hst
  generalize (w1.setCell _ _).alloc _ = W2 at HB2 HS2 HC2 ⊢
  have hex : ∀ g, g = w1.heap.size → g < W2.heap.size := fun g h => h ▸ HC2.out.lt
  have hrow : ∀ g, (cnt w1.heap.size).row = some g → g = w1.heap.size := fun g h => (Option.some.inj h).symm
  have HX := Lib.hid hex
  have HRow := Lib.hid hrow
  have C1 := Lib.hid (times_i (cnt w1.heap.size) (cnt_steady _) (fun g => g = w1.heap.size) hrow n _ (fun y => decide (y < st)) W2 hex (less_pur w.heap.size st (fun g => g = w1.heap.size) (by omega) W2 HS2.out))
  clear hex hrow
  refine C1.out.mono ?_
  rintro e w3 ⟨r, rfl, g1, g2⟩
  have HR := Lib.hid (And.intro g1 g2)
  obtain ⟨K, f, c, rfl, _⟩ := g1
  clear g2 C1
  go_wp2_with fail
  have hb4 : Below w3.heap.size w3 (w3.alloc (.cells #[.func (.func K) f c] 54)) := (Below.refl _ _).alloc (Nat.le_refl _) _
  have hnew := Blk.new w3 54 #[.func (.func K) f c]
  have C3 := Lib.hid (wrap_i (cnt w1.heap.size) (fun _ => intL) 0 (fun g => g = w1.heap.size) _ askF (some ⟨w3.heap.size, 0, none⟩) 1 1 [fun F x s => timesF (fun y => decide (y < st)) F x ((min n 100).toNat - 1) (F x s)] (w3.alloc (.cells #[.func (.func K) f c] 54)) HRow.out (fun g h => Nat.lt_of_lt_of_le (HX.out g h) (Nat.le_trans HR.out.2.size hb4.size)) (by omega) (ask_fnc _ _ _)
    ⟨rfl, fun j B hB => by
      rcases j with _ | j
      · simp at hB; subst hB
        exact ⟨_, _, rfl, by simp, hnew.cell 0, HR.out.1.kx (Kx.below hb4)⟩
      · simp at hB⟩)
  have HB4 := Lib.hid (HR.out.2.trans (hb4.mono HR.out.2.size))
  clear hb4 hnew HR
  refine C3.out.mono ?_
  rintro e w5 ⟨r3, rfl, g1, g2⟩
  have HB5 := Lib.hid (HB4.out.trans (g2.mono HB4.out.size))
  obtain ⟨K3, f3, c3, rfl, hE3, hc3⟩ := g1
  have hE3 : ∀ args w, (callFunc K3 args).run Tryz.prog w = .ok (.enter K3 args) w := hE3
  have hq := fun W => eq_nf W (.func K3) f3 c3
  have HC5 := Lib.hid (HC2.out.below HB5.out HC2.out.lt)
  have C5 := Lib.hid (hc3 w5 0 (.int .i64 0) 0 (Kx.refl _ _) HC5.out rfl)
  clear g2 C3 HB4 hc3
  go_wp2_with fail
  refine C5.out.mono ?_
  rintro e w6 ⟨yv, rfl, k1, k2, k3⟩
  have hv : wrapS [fun F x s => timesF (fun y => decide (y < st)) F x ((min n 100).toNat - 1) (F x s)] askF 0 0 = (max 1 (min st (1 + (((min n 100).toNat - 1 : Nat) : Int))), max 1 (min st (1 + (((min n 100).toNat - 1 : Nat) : Int)))) := by
    show timesF _ askF 0 _ (askF 0 0) = _
    rw [ask_small 0 (by omega) (by omega)]
    exact times_count st _ 1 (by omega) (by omega)
  rw [hv] at k1 k2
  obtain rfl : yv = .int .i64 (max 1 (min st (1 + (((min n 100).toNat - 1 : Nat) : Int)))) := k1
  obtain ⟨m, hm⟩ : ∃ m, max 1 (min st (1 + (((min n 100).toNat - 1 : Nat) : Int))) = m := ⟨_, rfl⟩
  rw [hm] at k2 ⊢
  have k2 : Blk w6 w1.heap.size 50 #[.int .i64 m] := k2
  have hb6 : Below w.heap.size w w6 := (HB2.out.trans (HB5.out.mono HB2.out.size)).trans ⟨k3.os, k3.tape, k3.output, k3.size, fun i hi => k3.block i (by have := HB2.out.size; have := HB5.out.size; omega) (fun e => by have := Option.some.inj e; omega)⟩
  have hs6 : w6.cell? ⟨w.heap.size, 0, none⟩ = some (.int .i64 st) := ((HS2.out.below HB5.out HS2.out.lt).grown k3 (fun e => by have := Option.some.inj e; omega)).cell 0
  have hc6 : w6.cell? ⟨w1.heap.size, 0, none⟩ = some (.int .i64 m) := k2.cell 0
  have HB6 := Lib.hid hb6
  have hmq : (m == max 1 (min st (max 1 (min n 100)))) = true := by
    rw [beq_iff_eq, ← hm]
    omega
  clear k2 k3 hb6 hv hm HC5 C5 HS2 HC2 HB2 HB5 HX HRow hq
  go_wp2_with fail
  go_quiet (fail)
  all_goals
    go_wp2
    go_ret
    exact ⟨rfl, below_drewN HB6.out _⟩
end Go.Proofs.YthokfopeddaiiaaGreatDoor
