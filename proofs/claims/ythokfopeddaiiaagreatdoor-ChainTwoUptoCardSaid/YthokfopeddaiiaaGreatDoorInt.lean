/-
  Contracts: functions around functions of numbers: chain.Before, After, When, Times.
-/
import Derived.Test.YthokfopeddaiiaaGreatDoorProg
import Derived.Test.YthokfopeddaiiaaGreatDoorFn
import Derived.WalkKit
import Derived.Lib.Hide
import Derived.LoopTactic
import Derived.Outline
import Derived.Deep.QuietTactic
import Derived.BigQuiet
import Derived.Laws.EntriesVeiled
import Derived.Deep.RegionWith
namespace Go.Proofs.YthokfopeddaiiaaGreatDoor
open Go.RowKit Go.Own Go.Own.Fn Go.Shelf
variable {σ : Type}
theorem before1_i (S : Stt σ) (hS : Steady S) (ex : Nat → Prop) (b : Nat) (gv : Value) (f : Int → Int) (w0 : World) (hb : Blk w0 b 51 #[gv]) (hx : ¬ ex b) (hg : Pur Tryz.prog ex gv (fun x => .int .i64 (f x)) w0) :
    Arnd Tryz.prog S intL intL ex (.func (.func 48) #[] #[.pointer (some ⟨b, 0, none⟩)]) (fun F x s => F (f x) s) w0 := by
  refine ⟨48, #[], #[.pointer (some ⟨b, 0, none⟩)], rfl, enters_of Tryz.func48 (by kernel_rfl) rfl, fun w s xv x nv F exF hrF hw hF hs hxv => ?_⟩
  obtain rfl : xv = .int .i64 x := hxv
  show Calls Tryz.prog 48 #[.int .i64 x, nv, .pointer (some ⟨b, 0, none⟩)] w _
  have c6 : w.cell? ⟨b, 0, none⟩ = some gv := (Blk.kx hb hw hx).cell 0
  have HF := Lib.hid hF
  obtain ⟨K, first, cap, rfl, hE, hc⟩ := hF
  obtain ⟨K2, cap2, rfl, hE2, hc2⟩ := hg
  have H1 := Lib.hid (hc2 w x hw)
  have H2 := Lib.hid hc
  have HS := Lib.hid hs
  have hE : ∀ args w, (callFunc K args).run Tryz.prog w = .ok (.enter K args) w := hE
  have hE2 : ∀ args w, (callFunc K2 args).run Tryz.prog w = .ok (.enter K2 args) w := hE2
  clear hc hc2 hs hw hb hx
  go_enter Tryz.func48, Tryz.ntmps48
  go_wp2_with fail
  refine H1.out.mono ?_
  rintro e w1 ⟨rfl, hb1⟩
  have HB := Lib.hid hb1
  clear hb1
  go_wp2_with fail
  refine (H2.out w1 s (.int .i64 (f x)) (f x) (Kx.below HB.out) (hS _ _ _ HB.out HS.out) rfl).mono ?_
  rintro e w2 ⟨yv, rfl, h1, h2, h3⟩
  have HR := Lib.hid (And.intro h1 (And.intro h2 (grown_trans (grown_of_below HB.out _) h3)))
  clear h1 h2 h3
  go_wp2
  go_ret
  exact ⟨yv, rfl, HR.out⟩
theorem after1_i (S : Stt σ) (hS : Steady S) (ex : Nat → Prop) (hrow : ∀ g, S.row = some g → ex g) (b : Nat) (gv : Value) (f : Int → Int) (w0 : World) (hb : Blk w0 b 51 #[gv]) (hx : ¬ ex b) (hg : Pur Tryz.prog ex gv (fun x => .int .i64 (f x)) w0) :
    Arnd Tryz.prog S intL intL ex (.func (.func 49) #[] #[.pointer (some ⟨b, 0, none⟩)]) (fun F x s => (f (F x s).1, (F x s).2)) w0 := by
  refine ⟨49, #[], #[.pointer (some ⟨b, 0, none⟩)], rfl, enters_of Tryz.func49 (by kernel_rfl) rfl, fun w s xv x nv F exF hrF hw hF hs hxv => ?_⟩
  obtain rfl : xv = .int .i64 x := hxv
  show Calls Tryz.prog 49 #[.int .i64 x, nv, .pointer (some ⟨b, 0, none⟩)] w _
  have HK := Lib.hid hw
  have HBb := Lib.hid (Blk.kx hb hw hx)
  have c6 : w.cell? ⟨b, 0, none⟩ = some gv := HBb.out.cell 0
  have hrow' : some b ≠ S.row := fun e => hx (hrow _ e.symm)
  obtain ⟨K, first, cap, rfl, hE, hc⟩ := hF
  obtain ⟨K2, cap2, rfl, hE2, hc2⟩ := hg
  have H1 := Lib.hid hc2
  have HD : Hid (Below w.heap.size w w.drew) := Lib.hid (Below.refl _ _).drew
  have H2 := Lib.hid (hc w.drew s (.int .i64 x) x (Kx.below HD.out) (hS _ _ _ HD.out hs) rfl)
  have hE : ∀ args w, (callFunc K args).run Tryz.prog w = .ok (.enter K args) w := hE
  have hE2 : ∀ args w, (callFunc K2 args).run Tryz.prog w = .ok (.enter K2 args) w := hE2
  clear hc hc2 hs hw hb hx
  go_enter Tryz.func49, Tryz.ntmps49
  go_wp2_with fail
  go_region_with (first | (refine H2.out.mono ?_; rintro e w2 ⟨yv, rfl, h1, h2, h3⟩; obtain rfl : yv = .int .i64 (F x s).1 := h1; have c7 := (HBb.out.grown (grown_trans (grown_of_below HD.out _) h3) hrow').cell 0; have HR := Lib.hid (And.intro h2 (grown_trans (grown_of_below HD.out _) h3)); clear h2 h3) | (refine (H1.out _ _ (by exact HK.out.trans (Kx.grown HR.out.2 hrow))).mono ?_; rintro e w3 ⟨rfl, hb1⟩; have HB := Lib.hid hb1; clear hb1))
  all_goals
    go_wp2
    go_ret
    exact ⟨_, rfl, rfl, hS _ _ _ HB.out HR.out.1, grown_trans HR.out.2 (grown_of_below HB.out _)⟩
theorem when1_i (S : Stt σ) (hS : Steady S) (ex : Nat → Prop) (b b2 : Nat) (gv av : Value) (f : Int → Bool) (A : (Int → σ → Int × σ) → Int → σ → Int × σ) (w0 : World) (hb : Blk w0 b 56 #[gv]) (hx : ¬ ex b) (hb2 : Blk w0 b2 54 #[av]) (hx2 : ¬ ex b2)
    (hg : Pur Tryz.prog ex gv (fun x => .bool (f x)) w0) (hA : Arnd Tryz.prog S intL intL ex av A w0) :
    Arnd Tryz.prog S intL intL ex (.func (.func 103) #[] #[.pointer (some ⟨b, 0, none⟩), .pointer (some ⟨b2, 0, none⟩)]) (fun F x s => if f x then A F x s else F x s) w0 := by
  refine ⟨103, #[], #[.pointer (some ⟨b, 0, none⟩), .pointer (some ⟨b2, 0, none⟩)], rfl, enters_of Tryz.func103 (by kernel_rfl) rfl, fun w s xv x nv F exF hrF hw hF hs hxv => ?_⟩
  obtain rfl : xv = .int .i64 x := hxv
  show Calls Tryz.prog 103 #[.int .i64 x, nv, .pointer (some ⟨b, 0, none⟩), .pointer (some ⟨b2, 0, none⟩)] w _
  have c6 : w.cell? ⟨b, 0, none⟩ = some gv := (Blk.kx hb hw hx).cell 0
  have HB2 := Lib.hid (Blk.kx hb2 hw hx2)
  have HF := Lib.hid hF
  have HK := Lib.hid hw
  have HS := Lib.hid hs
  obtain ⟨K, first, cap, rfl, hE, hc⟩ := hF
  obtain ⟨K2, cap2, rfl, hE2, hc2⟩ := hg
  obtain ⟨K3, first3, cap3, rfl, hE3, hc3⟩ := hA
  have H1 := Lib.hid (hc2 w x hw)
  have H2 := Lib.hid hc
  have H3 := Lib.hid hc3
  have hE : ∀ args w, (callFunc K args).run Tryz.prog w = .ok (.enter K args) w := hE
  have hE2 : ∀ args w, (callFunc K2 args).run Tryz.prog w = .ok (.enter K2 args) w := hE2
  have hE3 : ∀ args w, (callFunc K3 args).run Tryz.prog w = .ok (.enter K3 args) w := hE3
  clear hc hc2 hc3 hs hw hb hx hb2 hx2
  go_enter Tryz.func103, Tryz.ntmps103
  go_wp2_with fail
  refine H1.out.mono ?_
  rintro e w1 ⟨rfl, hb1⟩
  have c7 : w1.cell? ⟨b2, 0, none⟩ = some (.func (.func K3) first3 cap3) := (HB2.out.below hb1 HB2.out.lt).cell 0
  have HB := Lib.hid hb1
  clear hb1 c6
  rcases hf : f x with _ | _
  · go_wp2_with fail
    refine (H2.out w1 s (.int .i64 x) x (Kx.below HB.out) (hS _ _ _ HB.out HS.out) rfl).mono ?_
    rintro e w2 ⟨yv, rfl, h1, h2, h3⟩
    have HR := Lib.hid (And.intro h1 (And.intro h2 (grown_trans (grown_of_below HB.out _) h3)))
    clear h1 h2 h3
    go_wp2
    all_goals
      go_ret
      exact ⟨yv, rfl, by simpa [hf] using HR.out⟩
  · go_wp2_with fail
    refine (H3.out w1 s (.int .i64 x) x _ F exF hrF (HK.out.trans (Kx.below HB.out)) (HF.out.kx (Kx.below HB.out)) (hS _ _ _ HB.out HS.out) rfl).mono ?_
    rintro e w2 ⟨yv, rfl, h1, h2, h3⟩
    have HR := Lib.hid (And.intro h1 (And.intro h2 (grown_trans (grown_of_below HB.out _) h3)))
    clear h1 h2 h3
    go_wp2
    all_goals
      go_ret
      exact ⟨yv, rfl, by simpa [hf] using HR.out⟩
set_option maxHeartbeats 2000000 in
theorem times1_i (S : Stt σ) (hS : Steady S) (ex : Nat → Prop) (hrow : ∀ g, S.row = some g → ex g) (b b2 : Nat) (gv : Value) (n : Int) (f : Int → Bool) (w0 : World) (hb : Blk w0 b 3 #[.int .i64 n]) (hx : ¬ ex b) (hb2 : Blk w0 b2 56 #[gv]) (hx2 : ¬ ex b2)
    (hg : Pur Tryz.prog ex gv (fun x => .bool (f x)) w0) :
    Arnd Tryz.prog S intL intL ex (.func (.func 44) #[] #[.pointer (some ⟨b, 0, none⟩), .pointer (some ⟨b2, 0, none⟩)]) (fun F x s => timesF f F x ((min n 100).toNat - 1) (F x s)) w0 := by
  obtain ⟨M, hM⟩ : ∃ M : Nat, (min n 100).toNat - 1 = M := ⟨_, rfl⟩
  rw [hM]
  have HM := Lib.hid hM
  clear hM
  refine ⟨44, #[], #[.pointer (some ⟨b, 0, none⟩), .pointer (some ⟨b2, 0, none⟩)], rfl, enters_of Tryz.func44 (by kernel_rfl) rfl, fun w s xv x nv F exF hrF hw hF hs hxv => ?_⟩
  obtain rfl : xv = .int .i64 x := hxv
  show Calls Tryz.prog 44 #[.int .i64 x, nv, .pointer (some ⟨b, 0, none⟩), .pointer (some ⟨b2, 0, none⟩)] w _
  have HBb := Lib.hid (Blk.kx hb hw hx)
  have HB2 := Lib.hid (Blk.kx hb2 hw hx2)
  have hr1 : some b ≠ S.row := fun e => hx (hrow _ e.symm)
  have hr2 : some b2 ≠ S.row := fun e => hx2 (hrow _ e.symm)
  have HF := Lib.hid hF
  have HK := Lib.hid hw
  obtain ⟨K, first, cap, rfl, hE, hc⟩ := hF
  obtain ⟨K2, cap2, rfl, hE2, hc2⟩ := hg
  have H1 := Lib.hid hc2
  have H2 := Lib.hid hc
  have H0 := Lib.hid (hc w s (.int .i64 x) x (Kx.refl _ _) hs rfl)
  have hE : ∀ args w, (callFunc K args).run Tryz.prog w = .ok (.enter K args) w := hE
  have hE2 : ∀ args w, (callFunc K2 args).run Tryz.prog w = .ok (.enter K2 args) w := hE2
  clear hc hc2 hs hw hb hx hb2 hx2
  go_enter Tryz.func44, Tryz.ntmps44
  go_wp2_with fail
  refine H0.out.mono ?_
  rintro e w1 ⟨yv, rfl, h1, h2, h3⟩
  obtain rfl : yv = .int .i64 (F x s).1 := h1
  have HR := Lib.hid (And.intro h2 h3)
  clear h2 h3
  go_wp2_with fail
  go_loopw [7, 8] (fun y i wr => ∃ (k : Nat) (r : Int × σ), k ≤ M ∧ i = .int .i64 ((k : Int) + 1) ∧ y = .int .i64 r.1 ∧ Hid (S.St r.2 wr ∧ w.grownBy wr S.row ∧ timesF f F x (M - k) r = timesF f F x M (F x s))) (fun _ i _ => M + 1 - (intOf i).toNat)
  case atStart => exact ⟨0, F x s, Nat.zero_le _, by go_num, rfl, Lib.hid ⟨HR.out.1, HR.out.2, rfl⟩⟩
  case round =>
    obtain ⟨k, r, hk, rfl, rfl, hh⟩ := hrel
    have c1 : wr.cell? ⟨b, 0, none⟩ = some (.int .i64 n) := (HBb.out.grown hh.out.2.1 hr1).cell 0
    have c2 : wr.cell? ⟨b2, 0, none⟩ = some (.func (.func K2) #[] cap2) := (HB2.out.grown hh.out.2.1 hr2).cell 0
    by_cases hlt : k < M
    · have hl : (k : Int) + 1 < min n 100 := by have := HM.out; omega
      have hl1 : (k : Int) + 1 < n := by omega
      have hl2 : (k : Int) + 1 < 100 := by omega
      clear hl
      have HW := Lib.hid (And.intro hk hlt)
      clear hk hlt
      rcases hf : f r.1 with _ | _
      · have HF2 := Lib.hid hf
        clear hf
        go_wp2_with fail
        all_goals
          refine (H1.out wr r.1 (HK.out.trans (Kx.grown hh.out.2.1 hrow))).mono ?_
          rintro e w2 ⟨rfl, hb1⟩
          rw [HF2.out]
          have HB := Lib.hid hb1
          clear hb1
          go_wp2
          go_ret
          refine ⟨_, rfl, ?_, ?_, grown_trans hh.out.2.1 (grown_of_below HB.out _)⟩
          · rw [← hh.out.2.2]; exact congrArg _ (congrArg _ (timesF_stop f F x _ r HF2.out).symm)
          · rw [← hh.out.2.2, timesF_stop f F x _ r HF2.out]; exact hS _ _ _ HB.out hh.out.1
      · have HF2 := Lib.hid hf
        clear hf
        go_wp2_with fail
        all_goals
          refine (H1.out wr r.1 (HK.out.trans (Kx.grown hh.out.2.1 hrow))).mono ?_
          rintro e w2 ⟨rfl, hb1⟩
          rw [HF2.out]
          have HB := Lib.hid hb1
          clear hb1 c1 c2
          go_wp2_with fail
          refine (H2.out w2 r.2 (.int .i64 x) x ((Kx.grown hh.out.2.1 hrF).trans (Kx.below HB.out)) (hS _ _ _ HB.out hh.out.1) rfl).mono ?_
          rintro e w3 ⟨yv, rfl, h1, h2, h3⟩
          obtain rfl : yv = .int .i64 (F x r.2).1 := h1
          have HR2 := Lib.hid (And.intro h2 (grown_trans (grown_trans hh.out.2.1 (grown_of_below HB.out _)) h3))
          clear h2 h3
          go_wp2
          go_roundw
          case rel =>
            refine ⟨k + 1, F x r.2, HW.out.2, by go_num, rfl, Lib.hid ⟨HR2.out.1, HR2.out.2, ?_⟩⟩
            rw [← hh.out.2.2, timesF_go f F x (by have := HW.out; omega) r HF2.out]
          case measure => have := HW.out; simp [intOf]; omega
    · obtain rfl : k = M := by omega
      have hl : n ≤ (k : Int) + 1 ∨ 100 ≤ (k : Int) + 1 := by have := HM.out; omega
      have HG := Lib.hid hh.out.2.2
      have HH := Lib.hid hh.out
      clear hlt hk hh
      rcases hl with hl | hl
      all_goals
        go_wp2_with fail
        all_goals
          first
          | (exfalso; omega)
          | (go_ret
             refine ⟨_, rfl, ?_, ?_, HH.out.2.1⟩
             · rw [← HG.out, Nat.sub_self]; rfl
             · rw [← HG.out, Nat.sub_self]; exact HH.out.1)
end Go.Proofs.YthokfopeddaiiaaGreatDoor
