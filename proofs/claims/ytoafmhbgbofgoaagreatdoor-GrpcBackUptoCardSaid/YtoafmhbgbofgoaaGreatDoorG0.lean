/-
  Contracts: parleyref.Bytes, SameBytes; grpc.OfHTTP, OfReset, NewReader, Left.
-/
import Derived.Test.YtoafmhbgbofgoaaGreatDoorProg
import Derived.Test.YtoafmhbgbofgoaaGreatDoorMid
import Derived.WalkKit
import Derived.Lib.Hide
import Derived.LoopTactic
import Derived.Outline
namespace Go.Proofs.YtoafmhbgbofgoaaGreatDoor.Gp
open Go.RowKit Go.Own

theorem byteInfo : (Tryz.prog.info? 5).map (fun i => (i.zero, i.size, i.bytes)) = some (some (.int .u8 0), 1, 1) := by kernel_rfl
theorem byteP : ByteP Tryz.prog 53 5 := ⟨Tryz.underlying53, info_parts byteInfo⟩

set_option maxHeartbeats 400000 in
set_option maxRecDepth 100000 in
theorem sameBytes_any (A A2 : Option Addr) (n n2 c c2 : Nat) (l l2 : List UInt8) (w : World) (B B2 : Nat) (hr : Rd w B A n l) (hr2 : Rd w B2 A2 n2 l2) :
    Calls Tryz.prog 15 #[.slice A n c, .slice A2 n2 c2] w fun e w' => e = .returned (.bool (decide (l = l2))) ∧ w = w' := by
  have h1 := run_str (P := Tryz.prog) (c := c) 53 9 5 Tryz.underlying53 Tryz.underlying5 Tryz.underlying9 hr
  have h2 := run_str (P := Tryz.prog) (c := c2) 53 9 5 Tryz.underlying53 Tryz.underlying5 Tryz.underlying9 hr2
  clear hr hr2
  go_enter Tryz.func15, Tryz.ntmps15
  go_wp2
  go_ret
  refine ⟨?_, rfl⟩
  simp
  rw [Bool.eq_iff_iff]
  simp


set_option maxHeartbeats 1000000 in
theorem ofHTTP_any (n : Int) (w : World) : Calls Tryz.prog 22 #[.int .i64 n] w fun e w' => (∃ k : Int, e = .returned (.int .i64 k) ∧ 0 < k ∧ k ≤ 16) ∧ w = w' := by
  go_enter Tryz.func22, Tryz.ntmps22
  go_wp2
  all_goals
    go_ret
    exact ⟨⟨_, rfl, by decide, by decide⟩, rfl⟩
theorem ofHTTP_404 (w : World) : Calls Tryz.prog 22 #[.int .i64 404] w fun e w' => e = .returned (.int .i64 12) ∧ w = w' := by
  go_enter Tryz.func22, Tryz.ntmps22
  go_wp2
  go_ret
  exact ⟨rfl, rfl⟩
set_option maxHeartbeats 1000000 in
theorem newReader_any (n : Int) (w : World) : Calls Tryz.prog 17 #[.int .i64 n] w fun e w' => e = .returned (.pointer (some ⟨w.heap.size, 0, none⟩)) ∧ w' = w.alloc (.cells #[.int .i64 n, .slice none 0 0, .bool false] 87) := by
  go_enter Tryz.func17, Tryz.ntmps17
  go_wp2
  go_ret
  exact ⟨rfl, rfl⟩
end Go.Proofs.YtoafmhbgbofgoaaGreatDoor.Gp
