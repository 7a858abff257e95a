/-
  Contracts: parleylaw8.begins: what an end puts out first, as the statements lay it.
-/
import Derived.Test.YtkpppjhbmnfmkaaGreatDoorJt
import Derived.Test.YtkpppjhbmnfmkaaGreatDoorC3
import Derived.Test.YtkpppjhbmnfmkaaGreatDoorJa
import Derived.Deep.RegionLaw
import Derived.Deep.RegionHeld3
set_option linter.unusedSimpArgs false
set_option linter.unusedVariables false
namespace Go.Proofs.YtkpppjhbmnfmkaaGreatDoor
open Go.RowKit Go.Own Go.Own.Fr Go.Own.Cx
attribute [local go_sem] Oper.semAt_some
theorem step_app_any {P : Program} (w : World) {ops : Array Oper} {o : Oper} {a : Act} {K : Act → World → Prop} {Q : Exit → Act → World → Prop} {E : Prop} {t e : TypeId} (hP : ByteP P t e) (hgd : o.guard = none) (s x : Operand) (ho : o.op = .call { callee := .builtin .append, args := #[s, x], argTypes := #[t, t] })
    (base : Nat) (v : Value) (n : Nat) (xs : List UInt8) (hs : a.eval s = v) (hown : Ow w base e v n xs)
    (B : Nat) (A : Option Addr) (m c : Nat) (l : List UInt8) (hx : a.eval x = .slice A m c) (hr : Rd w B A m l) (hb : n + m ≤ 140737488355328) (hbase : base ≤ w.heap.size)
    (h : ∀ A' cap' w', Ow w' base e (.slice A' (n + m) cap') (n + m) (xs ++ l) → w.grownBy w' v.ownBlock → K (a.put o.dst (.slice A' (n + m) cap')) w') :
    if Region.wanted o (yielded ops a.tmps) = true then Oper.wp P o a w K Q else E := by
  have hw : Region.wanted o (yielded ops a.tmps) = true := by simp [Region.wanted, hgd]
  rw [if_pos hw]
  obtain ⟨v', w', hrun, r1, r2, r3⟩ := run_app_any (P := P) w hP o.type base v n xs hown B A m c l hr hb hbase
  obtain ⟨A', cap', rfl, h1, h2, _⟩ := r1.form
  unfold Oper.wp execOp
  simp only [ho, resolve, invoke, builtin, Sem.run_bind, Sem.run_pure, Result.andThen_ok, List.map_toArray, List.map_cons, List.map_nil, hs, hx, hrun]
  exact h A' cap' w' r1 r2
theorem setting_sz (k v : Nat) (w : World) (hk : k ≤ 255) (hv : v < 4294967296) : Calls Tryz.prog 31 #[.int .i64 (k : Nat), .int .i64 (v : Nat)] w fun e w' => ∃ n A c, e = .returned (.slice A n c) ∧ Ow w' w.heap.size 5 (.slice A n c) n (be k 2 ++ be v 4) ∧ n ≤ 10 ∧ Below w.heap.size w w' :=
  (lawSetting_any k v w hk hv).mono fun _ _ ⟨A, c, h1, h2, h3⟩ => ⟨6, A, c, h1, h2, by decide, h3⟩
set_option maxHeartbeats 8000000 in
set_option maxRecDepth 100000 in
theorem begins2_any (w : World) (cw cs : Nat) (hw : cw ≤ 2147483647) (hs : cs ≤ 100) :
    Calls Tryz.prog 34 #[.int .i64 2, .agg #[.int .i64 (cw : Nat), .int .i64 (cs : Nat)]] w fun e w' => ∃ A n c, e = .returned (.slice A n c) ∧ Rd w' w'.heap.size A n (newM 2 cw cs).out ∧ Below w.heap.size w w' := by
  have HX := Lib.hid (Blk.new w 32 #[.int .i64 (cw : Nat), .int .i64 (cs : Nat)])
  have HB0 := Lib.hid ((Below.refl w.heap.size w).alloc (Nat.le_refl _) (.cells #[.int .i64 (cw : Nat), .int .i64 (cs : Nat)] 32))
  have S1 := Lib.hid (fun W => setting_sz 3 cs W (by decide) (by omega))
  have S2 := Lib.hid (fun W => setting_sz 4 cw W (by decide) (by omega))
  have S3 := Lib.hid (fun W => lawSetting_any 6 16384 W (by decide) (by decide))
  have HS := Lib.hid (show cw ≤ 2147483647 ∧ cs ≤ 100 from ⟨hw, hs⟩)
  clear hw hs
  go_enter Tryz.func34, Tryz.ntmps34
  go_upto_region 1 with fail
  have HZ := Lib.hid (show (w.alloc (.cells #[.int .i64 (cw : Nat), .int .i64 (cs : Nat)] 32)).heap.size = w.heap.size + 1 by simp)
  generalize w.alloc (.cells #[.int .i64 (cw : Nat), .int .i64 (cs : Nat)] 32) = W0 at *
  have x0 : W0.cell? ⟨w.heap.size, 0, none⟩ = some (.int .i64 (cw : Nat)) := HX.out.cell 0
  have x1 : W0.cell? ⟨w.heap.size, 1, none⟩ = some (.int .i64 (cs : Nat)) := HX.out.cell 1
  have hlt0 := HX.out.lt
  have HS0 := Lib.hid (show W0.cell? ⟨w.heap.size, 0, none⟩ = some (.int .i64 (cw : Nat)) ∧ W0.cell? ⟨w.heap.size, 1, none⟩ = some (.int .i64 (cs : Nat)) from ⟨x0, x1⟩)
  have HS0d := Lib.hid (show W0.drew.cell? ⟨w.heap.size, 0, none⟩ = some (.int .i64 (cw : Nat)) ∧ W0.drew.cell? ⟨w.heap.size, 1, none⟩ = some (.int .i64 (cs : Nat)) from ⟨x0, x1⟩)
  clear x0 x1
  go_wp2_with fail
  go_region_held3 (fun W' => W'.cell? ⟨w.heap.size, 0, none⟩ = some (.int .i64 (cw : Nat)) ∧ W'.cell? ⟨w.heap.size, 1, none⟩ = some (.int .i64 (cs : Nat))) (first | with_reducible exact HS0.out | with_reducible exact HS0d.out | with_reducible exact HS1.out | with_reducible exact HS1d.out | with_reducible exact HS2.out | with_reducible exact HS2d.out | with_reducible exact HS4.out | with_reducible exact HS4d.out) (first
    | (go_at_call 31; with_reducible refine Calls.mono (S1.out _) ?_; rintro e w1 ⟨n1, A1, c1, rfl, ho1, hle1, hb1⟩
       have HB1 : Hid (Below W0.heap.size W0 w1) := by first | exact HB2.out.trans (hb1.mono HB2.out.size) | exact below_of_drew hb1
       have HO1 := Lib.hid (show Ow w1 W0.heap.size 5 (.slice A1 n1 c1) n1 (be 3 2 ++ be cs 4) from ho1.base (by first | exact HB2.out.size | exact Nat.le_refl _))
       have HR1 := Lib.hid hb1
       have HS1 := Lib.hid (show w1.cell? ⟨w.heap.size, 0, none⟩ = some (.int .i64 (cw : Nat)) ∧ w1.cell? ⟨w.heap.size, 1, none⟩ = some (.int .i64 (cs : Nat)) from ⟨(HX.out.below HB1.out HX.out.lt).cell 0, (HX.out.below HB1.out HX.out.lt).cell 1⟩)
       have HS1d := Lib.hid (show w1.drew.cell? ⟨w.heap.size, 0, none⟩ = some (.int .i64 (cw : Nat)) ∧ w1.drew.cell? ⟨w.heap.size, 1, none⟩ = some (.int .i64 (cs : Nat)) from HS1.out)
       clear ho1 hb1)
    | (go_at_call 31; with_reducible refine Calls.mono (S2.out _) ?_; rintro e w2 ⟨n2, A2, c2, rfl, ho2, hle2, hb2⟩
       have HB2 : Hid (Below W0.heap.size W0 w2) := by first | exact HB1.out.trans (hb2.mono HB1.out.size) | exact below_of_drew hb2
       have HO2 := Lib.hid (show Ow w2 W0.heap.size 5 (.slice A2 n2 c2) n2 (be 4 2 ++ be cw 4) from ho2.base (by first | exact HB1.out.size | exact Nat.le_refl _))
       have HR2 := Lib.hid hb2
       have HS2 := Lib.hid (show w2.cell? ⟨w.heap.size, 0, none⟩ = some (.int .i64 (cw : Nat)) ∧ w2.cell? ⟨w.heap.size, 1, none⟩ = some (.int .i64 (cs : Nat)) from ⟨(HX.out.below HB2.out HX.out.lt).cell 0, (HX.out.below HB2.out HX.out.lt).cell 1⟩)
       have HS2d := Lib.hid (show w2.drew.cell? ⟨w.heap.size, 0, none⟩ = some (.int .i64 (cw : Nat)) ∧ w2.drew.cell? ⟨w.heap.size, 1, none⟩ = some (.int .i64 (cs : Nat)) from HS2.out)
       clear ho2 hb2)
    | (refine step_app_any _ byteP rfl (.tmp 22) (.tmp 25) rfl W0.heap.size (.slice A1 n1 c1) n1 (be 3 2 ++ be cs 4) rfl (HO1.out.below HR2.out (fun g hg => (HO1.out.lt hg).1)) w2.heap.size A2 n2 c2 (be 4 2 ++ be cw 4) rfl HO2.out.rd (by omega) HB2.out.size ?_; intro A4 c4 w4 ho4 hg4; have HO4 := Lib.hid ho4; have HB4 : Hid (Below W0.heap.size W0 w4) := HB2.out.grown hg4 HB2.out.size (fun g hg => (HO1.out.lt hg).2)
       have HN := Lib.hid (show n1 ≤ 10 ∧ n2 ≤ 10 from ⟨hle1, hle2⟩)
       have HS4 := Lib.hid (show w4.cell? ⟨w.heap.size, 0, none⟩ = some (.int .i64 (cw : Nat)) ∧ w4.cell? ⟨w.heap.size, 1, none⟩ = some (.int .i64 (cs : Nat)) from ⟨(HX.out.below HB4.out HX.out.lt).cell 0, (HX.out.below HB4.out HX.out.lt).cell 1⟩)
       have HS4d := Lib.hid (show w4.drew.cell? ⟨w.heap.size, 0, none⟩ = some (.int .i64 (cw : Nat)) ∧ w4.drew.cell? ⟨w.heap.size, 1, none⟩ = some (.int .i64 (cs : Nat)) from HS4.out)
       clear ho4 hg4)
    | (refine step_app_any _ byteP rfl (.tmp 22) (.tmp 25) rfl W0.heap.size (.slice A1 n1 c1) n1 (be 3 2 ++ be cs 4) rfl HO1.out w1.heap.size A2 n2 c2 (be 4 2 ++ be cw 4) rfl ((HO2.out.below HR1.out (fun g hg => (HO2.out.lt hg).1)).rd) (by omega) HB1.out.size ?_; intro A4 c4 w4 ho4 hg4; have HO4 := Lib.hid ho4; have HB4 : Hid (Below W0.heap.size W0 w4) := HB1.out.grown hg4 HB1.out.size (fun g hg => (HO1.out.lt hg).2)
       have HN := Lib.hid (show n1 ≤ 10 ∧ n2 ≤ 10 from ⟨hle1, hle2⟩)
       have HS4 := Lib.hid (show w4.cell? ⟨w.heap.size, 0, none⟩ = some (.int .i64 (cw : Nat)) ∧ w4.cell? ⟨w.heap.size, 1, none⟩ = some (.int .i64 (cs : Nat)) from ⟨(HX.out.below HB4.out HX.out.lt).cell 0, (HX.out.below HB4.out HX.out.lt).cell 1⟩)
       have HS4d := Lib.hid (show w4.drew.cell? ⟨w.heap.size, 0, none⟩ = some (.int .i64 (cw : Nat)) ∧ w4.drew.cell? ⟨w.heap.size, 1, none⟩ = some (.int .i64 (cs : Nat)) from HS4.out)
       clear ho4 hg4)
    | fail)
  all_goals
    go_wp2_with fail
    with_reducible refine Calls.mono (S3.out _) ?_
    rintro e w5 ⟨A5, c5, rfl, ho5, hb5⟩
    have HB5 := Lib.hid (HB4.out.trans (hb5.mono HB4.out.size))
    have HO5 := Lib.hid ho5.rd
    have HO4a := Lib.hid (HO4.out.below hb5 (fun g hg => (HO4.out.lt hg).1))
    clear ho5 hb5
    go_wp2_with (first
      | (refine wpList_app_any _ byteP rfl (.tmp 27) (.tmp 28) rfl W0.heap.size _ (n1 + n2) _ rfl HO4a.out w5.heap.size A5 6 c5 (be 6 2 ++ be 16384 4) rfl HO5.out (by have := HN.out; omega) HB5.out.size ?_
         intro A6 c6 w6 ho6 hg6 _ _ _
         have HO6 := Lib.hid ho6
         have HB6 := Lib.hid (HB5.out.grown hg6 HB5.out.size (fun g hg => (HO4a.out.lt hg).2))
         clear ho6 hg6)
      | fail)
    have hlen := HO6.out.len
    have HFr := Lib.hid (lawFrame_any A6 (n1 + n2 + 6) c6 4 0 0 w6.heap.size _ w6 HO6.out.rd (Nat.le_refl _) (by have := HN.out; omega) (by decide) (by decide) (by decide))
    go_wp2_with fail
    refine HFr.out.mono ?_
    rintro e w7 ⟨A7, c7, rfl, ho7, hb7⟩
    have HO7 := Lib.hid ho7.rd
    have HB7 := Lib.hid (HB0.out.trans ((HB6.out.trans (hb7.mono HB6.out.size)).mono (by omega)))
    clear ho7 hb7
    go_wp2
    go_ret
    have e : (newM 2 cw cs).out = frameB 4 0 0 ((be 3 2 ++ be cs 4) ++ (be 4 2 ++ be cw 4) ++ (be 6 2 ++ be 16384 4)) := by
      show [] ++ frameB 4 0 0 (setB [(3, cs), (4, cw), (6, 16384)]) = _
      simp only [setB, List.nil_append, List.append_assoc, List.append_nil]
    rw [e]
    exact ⟨A7, _, c7, rfl, HO7.out, HB7.out⟩
set_option maxHeartbeats 8000000 in
set_option maxRecDepth 100000 in
theorem begins1_any (w : World) (cw cs : Nat) (hw : cw ≤ 2147483647) (hs : cs ≤ 100) :
    Calls Tryz.prog 34 #[.int .i64 1, .agg #[.int .i64 (cw : Nat), .int .i64 (cs : Nat)]] w fun e w' => ∃ A n c, e = .returned (.slice A n c) ∧ Rd w' w'.heap.size A n (newM 1 cw cs).out ∧ Below w.heap.size w w' := by
  have HX := Lib.hid (Blk.new w 32 #[.int .i64 (cw : Nat), .int .i64 (cs : Nat)])
  have HB0 := Lib.hid ((Below.refl w.heap.size w).alloc (Nat.le_refl _) (.cells #[.int .i64 (cw : Nat), .int .i64 (cs : Nat)] 32))
  have S1 := Lib.hid (fun W => setting_sz 2 0 W (by decide) (by decide))
  have S2 := Lib.hid (fun W => setting_sz 4 cw W (by decide) (by omega))
  have S3 := Lib.hid (fun W => lawSetting_any 6 16384 W (by decide) (by decide))
  have HS := Lib.hid (show cw ≤ 2147483647 ∧ cs ≤ 100 from ⟨hw, hs⟩)
  clear hw hs
  go_enter Tryz.func34, Tryz.ntmps34
  go_upto_region 1 with fail
  have HZ := Lib.hid (show (w.alloc (.cells #[.int .i64 (cw : Nat), .int .i64 (cs : Nat)] 32)).heap.size = w.heap.size + 1 by simp)
  generalize w.alloc (.cells #[.int .i64 (cw : Nat), .int .i64 (cs : Nat)] 32) = W0 at *
  have x0 : W0.cell? ⟨w.heap.size, 0, none⟩ = some (.int .i64 (cw : Nat)) := HX.out.cell 0
  have x1 : W0.cell? ⟨w.heap.size, 1, none⟩ = some (.int .i64 (cs : Nat)) := HX.out.cell 1
  have hlt0 := HX.out.lt
  have HS0 := Lib.hid (show W0.cell? ⟨w.heap.size, 0, none⟩ = some (.int .i64 (cw : Nat)) ∧ W0.cell? ⟨w.heap.size, 1, none⟩ = some (.int .i64 (cs : Nat)) from ⟨x0, x1⟩)
  have HS0d := Lib.hid (show W0.drew.cell? ⟨w.heap.size, 0, none⟩ = some (.int .i64 (cw : Nat)) ∧ W0.drew.cell? ⟨w.heap.size, 1, none⟩ = some (.int .i64 (cs : Nat)) from ⟨x0, x1⟩)
  clear x0 x1
  go_wp2_with fail
  go_region_held3 (fun W' => W'.cell? ⟨w.heap.size, 0, none⟩ = some (.int .i64 (cw : Nat)) ∧ W'.cell? ⟨w.heap.size, 1, none⟩ = some (.int .i64 (cs : Nat))) (first | with_reducible exact HS0.out | with_reducible exact HS0d.out | with_reducible exact HS1.out | with_reducible exact HS1d.out | with_reducible exact HS2.out | with_reducible exact HS2d.out | with_reducible exact HS4.out | with_reducible exact HS4d.out) (first
    | (go_at_call 31; with_reducible refine Calls.mono (S1.out _) ?_; rintro e w1 ⟨n1, A1, c1, rfl, ho1, hle1, hb1⟩
       have HB1 : Hid (Below W0.heap.size W0 w1) := by first | exact HB2.out.trans (hb1.mono HB2.out.size) | exact below_of_drew hb1
       have HO1 := Lib.hid (show Ow w1 W0.heap.size 5 (.slice A1 n1 c1) n1 (be 2 2 ++ be 0 4) from ho1.base (by first | exact HB2.out.size | exact Nat.le_refl _))
       have HR1 := Lib.hid hb1
       have HS1 := Lib.hid (show w1.cell? ⟨w.heap.size, 0, none⟩ = some (.int .i64 (cw : Nat)) ∧ w1.cell? ⟨w.heap.size, 1, none⟩ = some (.int .i64 (cs : Nat)) from ⟨(HX.out.below HB1.out HX.out.lt).cell 0, (HX.out.below HB1.out HX.out.lt).cell 1⟩)
       have HS1d := Lib.hid (show w1.drew.cell? ⟨w.heap.size, 0, none⟩ = some (.int .i64 (cw : Nat)) ∧ w1.drew.cell? ⟨w.heap.size, 1, none⟩ = some (.int .i64 (cs : Nat)) from HS1.out)
       clear ho1 hb1)
    | (go_at_call 31; with_reducible refine Calls.mono (S2.out _) ?_; rintro e w2 ⟨n2, A2, c2, rfl, ho2, hle2, hb2⟩
       have HB2 : Hid (Below W0.heap.size W0 w2) := by first | exact HB1.out.trans (hb2.mono HB1.out.size) | exact below_of_drew hb2
       have HO2 := Lib.hid (show Ow w2 W0.heap.size 5 (.slice A2 n2 c2) n2 (be 4 2 ++ be cw 4) from ho2.base (by first | exact HB1.out.size | exact Nat.le_refl _))
       have HR2 := Lib.hid hb2
       have HS2 := Lib.hid (show w2.cell? ⟨w.heap.size, 0, none⟩ = some (.int .i64 (cw : Nat)) ∧ w2.cell? ⟨w.heap.size, 1, none⟩ = some (.int .i64 (cs : Nat)) from ⟨(HX.out.below HB2.out HX.out.lt).cell 0, (HX.out.below HB2.out HX.out.lt).cell 1⟩)
       have HS2d := Lib.hid (show w2.drew.cell? ⟨w.heap.size, 0, none⟩ = some (.int .i64 (cw : Nat)) ∧ w2.drew.cell? ⟨w.heap.size, 1, none⟩ = some (.int .i64 (cs : Nat)) from HS2.out)
       clear ho2 hb2)
    | (refine step_app_any _ byteP rfl (.tmp 8) (.tmp 11) rfl W0.heap.size (.slice A1 n1 c1) n1 (be 2 2 ++ be 0 4) rfl (HO1.out.below HR2.out (fun g hg => (HO1.out.lt hg).1)) w2.heap.size A2 n2 c2 (be 4 2 ++ be cw 4) rfl HO2.out.rd (by omega) HB2.out.size ?_; intro A4 c4 w4 ho4 hg4; have HO4 := Lib.hid ho4; have HB4 : Hid (Below W0.heap.size W0 w4) := HB2.out.grown hg4 HB2.out.size (fun g hg => (HO1.out.lt hg).2)
       have HN := Lib.hid (show n1 ≤ 10 ∧ n2 ≤ 10 from ⟨hle1, hle2⟩)
       have HS4 := Lib.hid (show w4.cell? ⟨w.heap.size, 0, none⟩ = some (.int .i64 (cw : Nat)) ∧ w4.cell? ⟨w.heap.size, 1, none⟩ = some (.int .i64 (cs : Nat)) from ⟨(HX.out.below HB4.out HX.out.lt).cell 0, (HX.out.below HB4.out HX.out.lt).cell 1⟩)
       have HS4d := Lib.hid (show w4.drew.cell? ⟨w.heap.size, 0, none⟩ = some (.int .i64 (cw : Nat)) ∧ w4.drew.cell? ⟨w.heap.size, 1, none⟩ = some (.int .i64 (cs : Nat)) from HS4.out)
       clear ho4 hg4)
    | (refine step_app_any _ byteP rfl (.tmp 8) (.tmp 11) rfl W0.heap.size (.slice A1 n1 c1) n1 (be 2 2 ++ be 0 4) rfl HO1.out w1.heap.size A2 n2 c2 (be 4 2 ++ be cw 4) rfl ((HO2.out.below HR1.out (fun g hg => (HO2.out.lt hg).1)).rd) (by omega) HB1.out.size ?_; intro A4 c4 w4 ho4 hg4; have HO4 := Lib.hid ho4; have HB4 : Hid (Below W0.heap.size W0 w4) := HB1.out.grown hg4 HB1.out.size (fun g hg => (HO1.out.lt hg).2)
       have HN := Lib.hid (show n1 ≤ 10 ∧ n2 ≤ 10 from ⟨hle1, hle2⟩)
       have HS4 := Lib.hid (show w4.cell? ⟨w.heap.size, 0, none⟩ = some (.int .i64 (cw : Nat)) ∧ w4.cell? ⟨w.heap.size, 1, none⟩ = some (.int .i64 (cs : Nat)) from ⟨(HX.out.below HB4.out HX.out.lt).cell 0, (HX.out.below HB4.out HX.out.lt).cell 1⟩)
       have HS4d := Lib.hid (show w4.drew.cell? ⟨w.heap.size, 0, none⟩ = some (.int .i64 (cw : Nat)) ∧ w4.drew.cell? ⟨w.heap.size, 1, none⟩ = some (.int .i64 (cs : Nat)) from HS4.out)
       clear ho4 hg4)
    | fail)
  all_goals
    go_wp2_with fail
    with_reducible refine Calls.mono (S3.out _) ?_
    rintro e w5 ⟨A5, c5, rfl, ho5, hb5⟩
    have HB5 := Lib.hid (HB4.out.trans (hb5.mono HB4.out.size))
    have HO5 := Lib.hid ho5.rd
    have HO4a := Lib.hid (HO4.out.below hb5 (fun g hg => (HO4.out.lt hg).1))
    clear ho5 hb5
    go_wp2_with (first
      | (refine wpList_app_any _ byteP rfl (.tmp 13) (.tmp 14) rfl W0.heap.size _ (n1 + n2) _ rfl HO4a.out w5.heap.size A5 6 c5 (be 6 2 ++ be 16384 4) rfl HO5.out (by have := HN.out; omega) HB5.out.size ?_
         intro A6 c6 w6 ho6 hg6 _ _ _
         have HO6 := Lib.hid ho6
         have HB6 := Lib.hid (HB5.out.grown hg6 HB5.out.size (fun g hg => (HO4a.out.lt hg).2))
         clear ho6 hg6)
      | fail)
    have hlen := HO6.out.len
    have HFr := Lib.hid (fun W (hb : Below w6.heap.size w6 W) => lawFrame_any A6 (n1 + n2 + 6) c6 4 0 0 W.heap.size _ W ((HO6.out.below hb (fun g hg => (HO6.out.lt hg).1)).rd) (Nat.le_refl _) (by have := HN.out; omega) (by decide) (by decide) (by decide))
    go_wp2_with fail
    refine (prefaceR_any w6).mono ?_
    rintro e w7 ⟨rfl, hr7, hb7⟩
    have hlt7 : w6.heap.size < w7.heap.size := by
      obtain ⟨ad, e, hlt, hc⟩ := hr7.2 (by decide)
      injection e with e
      subst e
      exact (World.block_lt_of_cell? w7 _ (hc 0 (by decide)))
    have HZ7 := Lib.hid (Oz.full (own := fun g => g = w6.heap.size) hr7 hlt7 (by decide) rfl (by decide))
    have HB7 := Lib.hid hb7
    clear hr7 hb7
    go_wp2_with fail
    refine (HFr.out w7 HB7.out).mono ?_
    rintro e w8 ⟨A8, c8, rfl, ho8, hb8⟩
    have HO8 := Lib.hid ho8
    have HB8 := Lib.hid (HB7.out.trans (hb8.mono HB7.out.size))
    have HZ8 := Lib.hid (HZ7.out.keep (fun g hg ho => hb8.block g hg) hb8.size)
    clear ho8 hb8
    have hbnd : prefB.length + (9 + (n1 + n2 + 6)) ≤ 140737488355328 := by have := HN.out; have : prefB.length = 24 := rfl; omega
    go_wp2_with (first
      | (refine wpList_app_z byteP _ rfl (.tmp 16) (.tmp 18) rfl (fun g => g = w6.heap.size) (.slice (some ⟨w6.heap.size, 0, none⟩) 24 24) prefB rfl HZ8.out w8.heap.size A8 (9 + (n1 + n2 + 6)) c8 _ rfl HO8.out.rd hbnd ?_
         intro A9 c9 w9 row9 hO9 hg9 hr9
         have HO9 := Lib.hid hO9.rd
         have HB9 := Lib.hid (HB8.out.grown hg9 HB8.out.size (fun g e => Nat.le_of_eq (hr9 g e).1.symm))
         clear hO9 hg9 hr9)
      | fail)
    go_ret
    have e : (newM 1 cw cs).out = prefB ++ frameB 4 0 0 ((be 2 2 ++ be 0 4) ++ (be 4 2 ++ be cw 4) ++ (be 6 2 ++ be 16384 4)) := by
      show prefB ++ frameB 4 0 0 (setB [(2, 0), (4, cw), (6, 16384)]) = _
      simp only [setB, List.nil_append, List.append_assoc, List.append_nil]
    rw [e]
    exact ⟨A9, _, c9, rfl, HO9.out, HB0.out.trans ((HB6.out.trans (HB9.out.mono HB6.out.size)).mono (by omega))⟩
end Go.Proofs.YtkpppjhbmnfmkaaGreatDoor
