/-
  Contracts: the chapter's examples (parleylaw16.first); GrpcCodes.
-/
import Derived.Test.YtoafmhbgbofgoaaGreatDoorFd
import Derived.Test.YtoafmhbgbofgoaaGreatDoorUnt
import Derived.Test.YtoafmhbgbofgoaaGreatDoorNam
import Derived.LaidEqlPtr
namespace Go.Proofs.YtoafmhbgbofgoaaGreatDoor.Gp
open Go.RowKit Go.Own Go.Own.Grpc

theorem chw_ex : chw 1 ([] ++ [0, 0, 0, 0, 2]) [] = (2, [], []) := by decide +kernel
theorem unp_ex : unp (⟨#[37, 52, 49, 37, 122, 122]⟩ : ByteArray).data.toList = [65, 37, 122, 122] := by decide +kernel
theorem err_same (a : Addr) (W : World) : (binOp .eql 30 (.iface 164 (.pointer (some a))) (.iface 164 (.pointer (some a)))).run Tryz.prog W = .ok (.bool true) W := by
  obtain ⟨j, hj, hjs⟩ := Option.map_eq_some_iff.1 (show (Tryz.prog.info? 166).map (·.size) = some 1 by kernel_rfl)
  obtain ⟨i, hi, hcmp⟩ := Option.map_eq_some_iff.1 (show (Tryz.prog.info? 164).map (·.comparable) = some true by kernel_rfl)
  simpa using run_eql_iface_ptr_same (P := Tryz.prog) W a Tryz.underlying30 Tryz.underlying164 hi hcmp hj

set_option maxHeartbeats 1000000 in
set_option maxRecDepth 100000 in
theorem feed_gone (g : Nat) (most : Int) (v : Value) (A : Option Addr) (m c : Nat) (w : World) (e1 e2 e3 e4 : Addr) (he : EnvG w e1 e2 e3 e4) (hb : RdB w g most v true) :
    Calls Tryz.prog 18 #[.pointer (some ⟨g, 0, none⟩), .slice A m c] w fun e w' => e = .returned (.tuple #[.slice none 0 0, .iface 164 (.pointer (some e1))]) ∧ ∃ n, w' = w.drewN n := by
  have c2 := Blk.cell hb 2
  simp only [List.getElem?_toArray, List.getElem?_cons_zero, List.getElem?_cons_succ] at c2
  have q := he.gone
  clear hb he
  go_enter Tryz.func18, Tryz.ntmps18
  go_wp2
  refine wp_scope_pass (fun _ _ => False) (fun _ _ => 0) rfl rfl (fun _ _ h => h.elim) ?_
  intro hp
  clear hp
  go_wp2
  go_quiet (fail)
  go_wp2
  simp only [Exit.two]
  go_ret2
  exact ⟨rfl, _, rfl⟩

set_option maxHeartbeats 4000000 in
set_option maxRecDepth 100000 in
theorem first_any (w : World) (e1 e2 e3 e4 : Addr) (he : EnvG w e1 e2 e3 e4) :
    Calls Tryz.prog 4 #[] w fun e w' => e = .returned (.bool true) ∧ Below w.heap.size w w' := by
  have HE := Lib.hid he
  have h12 := he.room
  have hcv := fun (w : World) (C : Array Value) (n c : Nat) => Lib.run_convert_bytes_const (P := Tryz.prog) w 53 5 C n c Tryz.underlying53 Tryz.underlying5
  clear he
  go_enter Tryz.func4, Tryz.ntmps4
  go_wp2_with fail
  have HB0 : Hid (Below w.heap.size w (w.alloc (.cells #[.int .u8 97, .int .u8 98] 5 (2, 3)))) := Lib.hid ((Below.refl _ _).alloc (Nat.le_refl _) _)
  refine (put_any none _ 0 0 2 2 [] [97, 98] _ w.heap.size (w.heap.size + 1) ⟨rfl, fun h => absurd h (by omega)⟩ (by simp) (by exact Rd.marks w _ [97, 98] 5 (2, 3) rfl) (by simp) (by omega) (by omega)).mono ?_
  rintro e w1 ⟨rfl, ho1, hb1⟩
  have HO1 : Hid (Ow w1 (w.heap.size + 1) 5 (.slice (some ⟨w.heap.size + 1, 0, none⟩) 7 7) 7 [0, 0, 0, 0, 2, 97, 98]) := Lib.hid (by simpa [hdr] using ho1)
  have HB1 := Lib.hid (HB0.out.trans (hb1.mono (by simp)))
  have hs1 := HB1.out.size
  clear ho1 hb1 hcv HB0
  go_wp2_with fail
  refine (sameBytes_any _ _ _ _ _ _ [0, 0, 0, 0, 2, 97, 98] [0, 0, 0, 0, 2, 97, 98] _ w1.heap.size _ (by exact HO1.out.rd.alloc (Nat.le_refl _) _) (by exact Rd.lits w1 _ [0, 0, 0, 0, 2, 97, 98] 5 rfl)).mono ?_
  rintro e w2 ⟨rfl, hw2⟩
  have HB2 : Hid (Below w.heap.size w w2) := Lib.hid (hw2 ▸ HB1.out.alloc hs1 _)
  have hs2 := HB2.out.size
  clear HB1 HO1 hs1 hw2
  go_wp2_with fail
  refine (newReader_any 1 _).mono ?_
  rintro e w3 ⟨rfl, hw3⟩
  have HR3 : Hid (RdB w3 w2.heap.size 1 (.slice none 0 0) false) := Lib.hid (hw3 ▸ Blk.new w2 87 _)
  have HB3 : Hid (Below w.heap.size w w3) := Lib.hid (hw3 ▸ HB2.out.alloc hs2 _)
  have hs3 : w2.heap.size < w3.heap.size := HR3.out.lt
  clear HB2 hw3
  go_wp2_with fail
  refine (feed_any w2.heap.size 1 (.slice none 0 0) 0 [] _ 5 5 (w3.heap.size + 1) w.heap.size [0, 0, 0, 0, 2] _ e1 e2 e3 e4 (by exact HE.out.below (HB3.out.alloc (by omega) _) h12) (by exact HR3.out.alloc _) (Om.nil _ _) (by simp [Value.ownBlock]) (by simp; omega) (by omega) h12 (by exact Rd.lits w3 _ [0, 0, 0, 0, 2] 5 rfl) (by simp) (by omega)).mono ?_
  rw [chw_ex]
  rintro e w4 ⟨hk4, hp4⟩
  obtain ⟨rfl, hb4⟩ : e = .returned (.tuple #[.slice none 0 0, .iface 164 (.pointer (some e3))]) ∧ RdB w4 w2.heap.size 1 (.slice none 0 0) true := by
    rcases hp4 with ⟨h, _⟩ | ⟨h, _⟩ | ⟨_, h⟩
    · cases h
    · cases h
    · exact h
  have HB4 : Hid (Below w.heap.size w w4) := Lib.hid (HB3.out.trans ⟨hk4.os, hk4.tape, hk4.output, Nat.le_trans (by simp) hk4.size, fun i hi => (hk4.block i (by simp; omega) (by omega) (by simp [Value.ownBlock])).trans (Below.heap_alloc w3 _ i (by omega))⟩)
  have HR4 := Lib.hid hb4
  have hs4 := HB4.out.size
  clear HB3 HR3 hk4 hp4 hb4 hs3 hs2
  go_wp2_with fail
  refine (feed_gone w2.heap.size 1 _ _ _ _ _ e1 e2 e3 e4 (by exact HE.out.below HB4.out h12) (by exact HR4.out)).mono ?_
  rintro e w5 ⟨rfl, n5, hw5⟩
  have HB5 : Hid (Below w.heap.size w w5) := Lib.hid (hw5 ▸ below_drewN HB4.out n5)
  clear HB4 HR4 hw5 hs4
  go_wp2_with fail
  refine (untimeout_2S _).mono ?_
  rintro e w6 ⟨rfl, hb6⟩
  have HB6 : Hid (Below w.heap.size w w6) := Lib.hid (HB5.out.trans (hb6.mono HB5.out.size))
  clear HB5 hb6
  obtain ⟨q1, q2⟩ : w6.cell? ⟨0, 0, none⟩ = some (.iface 164 (.pointer (some e3))) ∧ w6.cell? ⟨1, 0, none⟩ = some (.iface 164 (.pointer (some e1))) := ⟨(HE.out.below HB6.out h12).long, (HE.out.below HB6.out h12).gone⟩
  have hq3 := err_same e3
  have hq1 := err_same e1
  go_wp2_with fail
  refine (timeout_1e8 _ e1 e2 e3 e4 (by exact HE.out.below HB6.out h12)).mono ?_
  rintro e w7 ⟨rfl, hb7⟩
  have HB7 : Hid (Below w.heap.size w w7) := Lib.hid (HB6.out.trans (hb7.mono HB6.out.size))
  clear HB6 hb7 hq1 hq3 q1 q2
  go_wp2_with fail
  refine (unpercent_any _ _ e1 e2 e3 e4 (by exact HE.out.below HB7.out h12) (by decide)).mono ?_
  rw [unp_ex]
  rintro e w8 ⟨rfl, hb8⟩
  have HB8 : Hid (Below w.heap.size w w8) := Lib.hid (HB7.out.trans (hb8.mono HB7.out.size))
  clear HB7 hb8
  go_wp2_with fail
  refine (ofHTTP_404 _).mono ?_
  rintro e w9 ⟨rfl, rfl⟩
  go_wp2_with fail
  refine (meta_abin _ e1 e2 e3 e4 (by exact HE.out.below HB8.out h12)).mono ?_
  rintro e w9 ⟨rfl, rfl⟩
  go_wp2
  go_ret
  exact ⟨rfl, HB8.out⟩

end Go.Proofs.YtoafmhbgbofgoaaGreatDoor.Gp
