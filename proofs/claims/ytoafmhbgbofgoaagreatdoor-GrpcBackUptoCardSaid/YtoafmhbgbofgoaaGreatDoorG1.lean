/-
  Contracts: grpc.Put.
-/
import Derived.Test.YtoafmhbgbofgoaaGreatDoorG0
import Derived.Test.YtoafmhbgbofgoaaGreatDoorChw
namespace Go.Own
open Go.RowKit
/-- Bytes in a new block. -/
theorem Rd.lits (w : World) (cs : Array Value) (bs : List UInt8) (e : TypeId) (hv : cs.toList = bs.map bv) : Rd (w.alloc (.cells cs e)) (w.heap.size + 1) (some ⟨w.heap.size, 0, none⟩) bs.length bs := by
  refine ⟨rfl, fun _ => ⟨_, rfl, Nat.lt_succ_self _, fun j hj => ?_⟩⟩
  rw [Addr.add_lit, Nat.zero_add]
  have hb : Blk (w.alloc (.cells cs e)) w.heap.size e cs := Blk.new w e cs
  rw [hb.cell, ← Array.getElem?_toList, hv, List.getElem?_map, List.getElem?_eq_getElem hj]
  simp [bv, List.getD, hj]
/-- Bytes in a new block that bears a mark ('[]byte("..")'). -/
theorem Rd.marks (w : World) (cs : Array Value) (bs : List UInt8) (e : TypeId) (fr : Nat × Nat) (hv : cs.toList = bs.map bv) : Rd (w.alloc (.cells cs e fr)) (w.heap.size + 1) (some ⟨w.heap.size, 0, none⟩) bs.length bs := by
  refine ⟨rfl, fun _ => ⟨_, rfl, Nat.lt_succ_self _, fun j hj => ?_⟩⟩
  rw [Addr.add_lit, Nat.zero_add, World.cell?_alloc_mark, ← Array.getElem?_toList, hv, List.getElem?_map, List.getElem?_eq_getElem hj]
  simp [bv, List.getD, hj]
end Go.Own
namespace Go.Own.Grpc
open Go.Own
theorem byte_mod (x : Nat) : ((UInt8.ofNat x).toNat : Int) = (x : Int) % 256 := by simp
theorem rd_hdr (w : World) (m : Nat) (e : TypeId) : Rd (w.alloc (.cells #[.int .u8 0, .int .u8 ((m : Int) / 16777216 % 256), .int .u8 ((m : Int) / 65536 % 256), .int .u8 ((m : Int) / 256 % 256), .int .u8 ((m : Int) % 256)] e)) (w.heap.size + 1) (some ⟨w.heap.size, 0, none⟩) 5 (hdr m) := by
  refine Rd.lits w _ (hdr m) e ?_
  simp [hdr, bv]
end Go.Own.Grpc
namespace Go.Proofs.YtoafmhbgbofgoaaGreatDoor.Gp
open Go.RowKit Go.Own Go.Own.Grpc

set_option maxHeartbeats 1000000 in
set_option maxRecDepth 100000 in
theorem put_any (A A2 : Option Addr) (n c m c2 : Nat) (l l2 : List UInt8) (w : World) (B B2 : Nat) (hr : Rd w B A n l) (hB : B ≤ w.heap.size) (hr2 : Rd w B2 A2 m l2) (hB2 : B2 ≤ w.heap.size) (hn : n ≤ 1000000000000) (hm : m ≤ 1000000000000) :
    Calls Tryz.prog 16 #[.slice A n c, .slice A2 m c2] w fun e w' => e = .returned (.slice (some ⟨w.heap.size, 0, none⟩) (n + 5 + m) (n + 5 + m)) ∧
      Ow w' w.heap.size 5 (.slice (some ⟨w.heap.size, 0, none⟩) (n + 5 + m) (n + 5 + m)) (n + 5 + m) (l ++ hdr m ++ l2) ∧ Below w.heap.size w w' := by
  have HR := Lib.hid hr
  have HR2 := Lib.hid hr2
  clear hr hr2
  go_enter Tryz.func16, Tryz.ntmps16
  go_wp2_with (first
    | (at_make
       refine wpList_mk _ byteP rfl _ _ rfl w.heap.size .i64 .i64 _ (n + 5 + m) rfl rfl ?_ ?_ (Nat.le_refl _) ?_
       · simp
       · omega
       intro w1 ho1 hg1
       have hb1 : Below w.heap.size w w1 := (Below.refl _ _).grown hg1 (Nat.le_refl _) (by simp)
       have HR1 := Lib.hid ((HR.out.more hB).below hb1)
       have HS1 := Lib.hid ((HR2.out.more hB2).below hb1))
    | (at_builtin
       refine wpList_app_fits _ byteP rfl (.tmp 14) (.tmp 15) rfl w.heap.size w.heap.size 0 (n + 5 + m) [] rfl ho1 w.heap.size A n c l rfl HR1.out ?_ ?_
       · omega
       intro w2 ho2 hg2
       simp only [Nat.zero_add, List.nil_append] at ho2
       have hb2 : Below w.heap.size w w2 := hb1.grown hg2 hb1.size (by simp)
       have HO2 := Lib.hid ho2
       have HS2 := Lib.hid ((HR2.out.more hB2).below hb2)
       clear ho1 hg1 hb1 HR1 HS1 ho2 hg2)
    | (at_builtin
       refine wpList_app_fits _ byteP rfl (.tmp 17) (.tmp 29) rfl w.heap.size w.heap.size n (n + 5 + m) l rfl (HO2.out.alloc _) (w2.heap.size + 1) (some ⟨w2.heap.size, 0, none⟩) 5 5 (hdr m) rfl (rd_hdr w2 m _) ?_ ?_
       · omega
       intro w3 ho3 hg3
       have hb3 : Below w.heap.size w w3 := (hb2.alloc hb2.size _).grown hg3 (Nat.le_trans hb2.size (by simp)) (by simp)
       have HO3 := Lib.hid ho3
       have HS3 := Lib.hid ((HR2.out.more hB2).below hb3)
       clear HO2 HS2 ho3 hg3 hb2)
    | (at_builtin
       refine wpList_app_fits _ byteP rfl (.tmp 30) (.tmp 31) rfl w.heap.size w.heap.size (n + 5) (n + 5 + m) (l ++ hdr m) rfl HO3.out w.heap.size A2 m c2 l2 rfl HS3.out ?_ ?_
       · omega
       intro w4 ho4 hg4
       have hb4 : Below w.heap.size w w4 := hb3.grown hg4 hb3.size (by simp)
       have HO4 := Lib.hid ho4
       clear HO3 HS3 ho4 hg4 hb3))
  go_ret
  exact ⟨rfl, HO4.out, hb4⟩
end Go.Proofs.YtoafmhbgbofgoaaGreatDoor.Gp
