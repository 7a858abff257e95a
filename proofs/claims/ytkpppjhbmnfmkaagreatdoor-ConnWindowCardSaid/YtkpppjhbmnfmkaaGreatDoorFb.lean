/-
  Contracts: frame.Put, Get, Preface.
-/
import Derived.Test.YtkpppjhbmnfmkaaGreatDoorFa
import Derived.Deep.RegionHeld3
import Derived.Deep.DeepCutAuto
set_option linter.unusedSimpArgs false
set_option linter.unusedVariables false
namespace Go.Own
open Go.RowKit
theorem below_own {B n : Nat} {a b c : World} {e : TypeId} {v : Value} {l : List UInt8} (h : Below B a b) (hB : B ≤ a.heap.size) (ho : Ow b B e v n l) (hg : b.grownBy c v.ownBlock) : Below B a c :=
  h.grown hg (Nat.le_trans hB h.size) fun _ hv => (ho.lt hv).2
/-- append in a region that draws its order. -/
theorem step_app {P : Program} {ops : Array Oper} {o : Oper} {a : Act} {Q : Exit → Act → World → Prop} {K : Act → World → Prop} {E : Prop} {t e : TypeId} (hP : ByteP P t e) (w : World) (hgd : o.guard = none) (s x : Operand)
    (ho : o.op = .call { callee := .builtin .append, args := #[s, x], argTypes := #[t, t] }) (base : Nat) (v : Value) (n : Nat) (xs : List UInt8) (hs : a.eval s = v) (hown : Ow w base e v n xs)
    (B : Nat) (A : Option Addr) (m c : Nat) (l : List UInt8) (hx : a.eval x = .slice A m c) (hr : Rd w B A m l) (hb : n + m ≤ 140737488355328) (hbase : base ≤ w.heap.size)
    (h : ∀ A' cap' w', Ow w' base e (.slice A' (n + m) cap') (n + m) (xs ++ l) → w.grownBy w' v.ownBlock → ((Value.slice A' (n + m) cap').ownBlock = v.ownBlock ∨ (Value.slice A' (n + m) cap').ownBlock = some w.heap.size) → n + m ≤ cap' → K (a.put o.dst (.slice A' (n + m) cap')) w') :
    if Region.wanted o (yielded ops a.tmps) = true then Oper.wp P o a w K Q else E := by
  have hw : Region.wanted o (yielded ops a.tmps) = true := by simp [Region.wanted, hgd]
  rw [if_pos hw]
  obtain ⟨v', w', hrun, r1, r2, r3⟩ := run_app_any (P := P) w hP o.type base v n xs hown B A m c l hr hb hbase
  obtain ⟨A', cap', rfl, h1, h2, _⟩ := r1.form
  unfold Oper.wp execOp
  simp only [ho, resolve, invoke, builtin, Sem.run_bind, Sem.run_pure, Result.andThen_ok, List.map_toArray, List.map_cons, List.map_nil, hs, hx, hrun]
  exact h A' cap' w' r1 r2 r3 h1
/-- Bytes in a new block. -/
theorem Rd.lits (w : World) (cs : Array Value) (bs : List UInt8) (e : TypeId) (hv : cs.toList = bs.map bv) : Rd (w.alloc (.cells cs e)) (w.heap.size + 1) (some ⟨w.heap.size, 0, none⟩) bs.length bs := by
  refine ⟨rfl, fun _ => ⟨_, rfl, Nat.lt_succ_self _, fun j hj => ?_⟩⟩
  rw [Addr.add_lit, Nat.zero_add]
  have hb : Blk (w.alloc (.cells cs e)) w.heap.size e cs := Blk.new w e cs
  rw [hb.cell, ← Array.getElem?_toList, hv, List.getElem?_map, List.getElem?_eq_getElem hj]
  simp [bv, List.getD, hj]
/-- Bytes in a new block that bears a mark ('[]byte("..")'). -/
theorem Rd.marks (w : World) (cs : Array Value) (bs : List UInt8) (e : TypeId) (fr : Nat × Nat) (hv : cs.toList = bs.map bv) : Rd (w.alloc (.cells cs e fr)) (w.heap.size + 1) (some ⟨w.heap.size, 0, none⟩) bs.length bs := by
  refine ⟨rfl, fun _ => ⟨_, rfl, Nat.lt_succ_self _, fun j hj => ?_⟩⟩
  rw [Addr.add_lit, Nat.zero_add, World.cell?_alloc_mark, ← Array.getElem?_toList, hv, List.getElem?_map, List.getElem?_eq_getElem hj]
  simp [bv, List.getD, hj]
end Go.Own
namespace Go.Proofs.YtkpppjhbmnfmkaaGreatDoor
open Go.RowKit Go.Own Go.Own.Fr
attribute [local go_sem] Oper.semAt_some
theorem rd_two (w : World) (t f : Nat) (ht : t ≤ 255) (hf : f ≤ 255) : Rd (w.alloc (.cells #[.int .u8 (t : Int), .int .u8 (f : Int)] 5)) (w.heap.size + 1) (some ⟨w.heap.size, 0, none⟩) 2 [UInt8.ofNat t, UInt8.ofNat f] := by
  refine Rd.lits w _ [UInt8.ofNat t, UInt8.ofNat f] _ ?_
  simp [bv]
  omega
theorem put_size (n m : Nat) (hn : n ≤ 1000000000) (hm : m < 16777216) : wrap64 (wrap64 ((n : Int) + 9) + (m : Int)) = ((n + 9 + m : Nat) : Int) := by
  unfold wrap64
  omega
set_option maxHeartbeats 4000000 in
set_option maxRecDepth 100000 in
theorem fput_any (A A2 : Option Addr) (n c m c2 t f s : Nat) (l p : List UInt8) (w : World) (B B2 : Nat) (hr : Rd w B A n l) (hB : B ≤ w.heap.size) (hr2 : Rd w B2 A2 m p) (hB2 : B2 ≤ w.heap.size) (hn : n ≤ 1000000000) (hm : m < 16777216)
    (ht : t ≤ 255) (hf : f ≤ 255) (hs : s ≤ 2147483647) :
    Calls Tryz.prog 67 #[.slice A n c, .agg #[.int .i64 (t : Int), .int .i64 (f : Int), .int .i64 (s : Int), .slice A2 m c2]] w fun e w' => ∃ A' c', e = .returned (.tuple #[.slice A' (n + (9 + m)) c', .nilIface]) ∧
      Ow w' w.heap.size 5 (.slice A' (n + (9 + m)) c') (n + (9 + m)) (l ++ frameB t f s p) ∧ Below w.heap.size w w' := by
  have HR := Lib.hid hr
  have HR2 := Lib.hid hr2
  have hpl := hr2.1
  clear hr hr2
  go_enter Tryz.func67, Tryz.ntmps67
  go_upto_region 1 with fail
  have HX := Lib.hid (Blk.new w 24 #[.int .i64 (t : Int), .int .i64 (f : Int), .int .i64 (s : Int), .slice A2 m c2])
  have HB0 := Lib.hid ((Below.refl w.heap.size w).alloc (Nat.le_refl _) (.cells #[.int .i64 (t : Int), .int .i64 (f : Int), .int .i64 (s : Int), .slice A2 m c2] 24))
  have hz : (w.alloc (.cells #[.int .i64 (t : Int), .int .i64 (f : Int), .int .i64 (s : Int), .slice A2 m c2] 24)).heap.size = w.heap.size + 1 := by simp
  generalize w.alloc (.cells #[.int .i64 (t : Int), .int .i64 (f : Int), .int .i64 (s : Int), .slice A2 m c2] 24) = w0 at HX HB0 hz ⊢
  have HSf := Lib.hid (fun W (hW : Below w0.heap.size w0 W) => (show W.cell? ⟨w.heap.size, 0, none⟩ = some (.int .i64 (t : Int)) ∧ W.cell? ⟨w.heap.size, 1, none⟩ = some (.int .i64 (f : Int)) ∧ W.cell? ⟨w.heap.size, 2, none⟩ = some (.int .i64 (s : Int)) ∧ W.cell? ⟨w.heap.size, 3, none⟩ = some (.slice A2 m c2) from
    have h := HX.out.below hW (by omega)
    ⟨h.cell 0, h.cell 1, h.cell 2, h.cell 3⟩))
  obtain ⟨c0, c1, c2', c3⟩ := HSf.out w0 (Below.refl _ _)
  have h0 : (0 : Int) ≤ (t : Int) := by omega
  have h1 : (t : Int) ≤ 255 := by omega
  have h2 : (0 : Int) ≤ (f : Int) := by omega
  have h3 : (f : Int) ≤ 255 := by omega
  have h4 : (0 : Int) ≤ (s : Int) := by omega
  have h5 : (s : Int) ≤ 2147483647 := by omega
  have h6 : ((16777216 : Int) ≤ (m : Int)) = False := by simp; omega
  have HY1 := Lib.hid (byteOf_yes (t : Int) w0 h0 h1)
  have HY2 := Lib.hid (byteOf_yes (f : Int) w0 h2 h3)
  have HY3 := Lib.hid (fstream_yes (s : Int) w0 h4 h5)
  have HW := Lib.hid (put_size n m hn hm)
  have HN := Lib.hid hn
  have HM := Lib.hid hm
  have HS := Lib.hid hs
  have HZ := Lib.hid hz
  clear h0 h1 h2 h3 h4 h5 hn hm hs hz
  go_wp2_with fail
  refine HY1.out.mono ?_
  rintro e w' ⟨rfl, hw⟩
  subst w'
  go_wp2_with fail
  refine HY2.out.mono ?_
  rintro e w' ⟨rfl, hw⟩
  subst w'
  go_wp2_with fail
  refine HY3.out.mono ?_
  rintro e w' ⟨rfl, hw⟩
  subst w'
  go_upto_region 5 with (first
    | (at_make
       refine wpList_mk _ byteP rfl _ _ rfl w0.heap.size .i64 .i64 _ (n + 9 + m) rfl rfl ?_ ?_ (Nat.le_refl _) ?_
       · exact HW.out
       · have := HN.out; have := HM.out; omega
       intro w1 ho1 hg1
       have hb1 : Below w0.heap.size w0 w1 := (Below.refl _ _).grown hg1 (Nat.le_refl _) (by simp)
       have HR1 := Lib.hid (((HR.out.more hB).below HB0.out).below (hb1.mono (by have := HZ.out; omega))))
    | (at_builtin
       refine wpList_app_fits _ byteP rfl (.tmp 37) (.tmp 38) rfl w0.heap.size w0.heap.size 0 (n + 9 + m) [] rfl ho1 w.heap.size A n c l rfl HR1.out ?_ ?_
       · omega
       intro w2 ho2 hg2
       simp only [Nat.zero_add, List.nil_append] at ho2
       have hb2 : Below w0.heap.size w0 w2 := hb1.grown hg2 hb1.size (by simp)
       have HO2 := Lib.hid ho2
       obtain ⟨c0, c1, c2', c3⟩ := HSf.out w2 hb2
       have HB2 := Lib.hid hb2
       have HA3 := Lib.hid (number_any (.slice (some ⟨w0.heap.size, 0, none⟩) n (n + 9 + m)) n l m 3 w0.heap.size w2 ho2 hb2.size (by have := HN.out; omega) (by omega) (by have := HM.out; omega))
       clear ho1 hg1 hb1 HR1 ho2 hg2 hb2)
    | (go_at_call 108
       refine HA3.out.mono ?_
       rintro e w3 ⟨v3, rfl, ho3, hg3, hv3⟩
       obtain ⟨A3, cap3, rfl, _, _, _⟩ := ho3.form
       have hb3 := below_own HB2.out (Nat.le_refl _) HO2.out hg3
       obtain ⟨c0, c1, c2', c3⟩ := HSf.out w3 hb3
       have HO3 := Lib.hid ho3
       have HB3 := Lib.hid hb3
       clear HO2 HB2 HA3 ho3 hg3 hv3 hb3)
    | fail)
  go_upto_region 6 with (first
    | (at_builtin
       refine wpList_app_any _ byteP rfl (.tmp 45) (.tmp 52) rfl w0.heap.size _ (n + 3) (l ++ be m 3) rfl (HO3.out.alloc _) _ _ 2 2 [UInt8.ofNat t, UInt8.ofNat f] rfl (rd_two _ t f ht hf) ?_ ?_ ?_
       · have := HN.out; omega
       · have := HB3.out.size; simp; omega
       intro A4 cap4 w4 ho4 hg4 _ _ _
       have hb4 := below_own (HB3.out.alloc (HB3.out.size) _) (Nat.le_refl _) (HO3.out.alloc _) hg4
       have HB4 := Lib.hid hb4
       have HO4 := Lib.hid ho4
       obtain ⟨c0, c1, c2', c3⟩ := HSf.out w4 hb4
       clear ho4 hg4 hb4 HB3 HO3)
    | fail)
  have hl4 : n + 3 + 2 ≤ 1000000000000 := by have := HN.out; omega
  have HA5 := Lib.hid (fun (W : World) (hW : Below w4.heap.size w4 W) => number_any (.slice A4 (n + 3 + 2) cap4) (n + 3 + 2) ((l ++ be m 3) ++ [UInt8.ofNat t, UInt8.ofNat f]) s 4 w0.heap.size W (HO4.out.below hW fun g hg => (HO4.out.lt hg).1) (Nat.le_trans HB4.out.size hW.size) hl4 (by omega) (by have := HS.out; omega))
  have HS4 := Lib.hid ((HSf.out w4 HB4.out).2.2)
  have HS4d := Lib.hid ((HSf.out w4.drew ⟨HB4.out.os, HB4.out.tape, HB4.out.output, HB4.out.size, HB4.out.block⟩).2.2)
  clear c0 c1 c2' c3 hl4
  go_region_held3 (fun W' => W'.cell? ⟨w.heap.size, 2, none⟩ = some (.int .i64 (s : Int)) ∧ W'.cell? ⟨w.heap.size, 3, none⟩ = some (.slice A2 m c2)) (first | with_reducible exact HS4.out | with_reducible exact HS4d.out | with_reducible exact HS5.out | with_reducible exact HS5d.out | with_reducible exact HS6.out | with_reducible exact HS6d.out) (first
    | (go_at_call 108
       refine (HA5.out _ (below_drewN (Below.refl _ _) 1)).mono ?_
       rintro e w5 ⟨v5, rfl, ho5, hg5, hv5⟩
       obtain ⟨A5, cap5, rfl, _, _, _⟩ := ho5.form
       have hb5 := below_own (below_drewN HB4.out 1) (Nat.le_refl _) (show Ow (w4.drewN 1) w0.heap.size 5 _ _ _ from HO4.out) hg5
       have HB5 := Lib.hid hb5
       have HO5 := Lib.hid ho5
       have HS5 := Lib.hid ((HSf.out w5 hb5).2.2)
       have HS5d := Lib.hid ((HSf.out w5.drew ⟨hb5.os, hb5.tape, hb5.output, hb5.size, hb5.block⟩).2.2)
       have HR5 := Lib.hid (((HR2.out.more hB2).below HB0.out).below (hb5.mono (by have := HZ.out; omega)))
       clear ho5 hg5 hb5)
    | (refine step_app byteP _ (by rfl) (.tmp 57) (.tmp 59) (by rfl) w0.heap.size _ (n + 3 + 2 + 4) (((l ++ be m 3) ++ [UInt8.ofNat t, UInt8.ofNat f]) ++ be s 4) (by rfl) HO5.out w.heap.size A2 m c2 p (by rfl) HR5.out ?_ ?_ ?_
       · have := HN.out; have := HM.out; omega
       · exact HB5.out.size
       intro A6 cap6 w6 ho6 hg6 _ _
       have hb6 := below_own HB5.out (Nat.le_refl _) HO5.out hg6
       have HB6 := Lib.hid hb6
       have HO6 := Lib.hid ho6
       have HS6 := Lib.hid ((HSf.out w6 hb6).2.2)
       have HS6d := Lib.hid ((HSf.out w6.drew ⟨hb6.os, hb6.tape, hb6.output, hb6.size, hb6.block⟩).2.2)
       clear ho6 hg6 hb6)
    | fail)
  go_wp2
  go_ret2
  have e1 : n + 3 + 2 + 4 + m = n + (9 + m) := by omega
  have e2 : (((l ++ be m 3) ++ [UInt8.ofNat t, UInt8.ofNat f]) ++ be s 4) ++ p = l ++ frameB t f s p := by simp [frameB, hpl]
  have ho := HO6.out
  rw [e1, e2] at ho
  rw [e1]
  exact ⟨_, _, rfl, ho.base (by have := HZ.out; omega), HB0.out.trans (HB6.out.mono (by have := HZ.out; omega))⟩
end Go.Proofs.YtkpppjhbmnfmkaaGreatDoor
